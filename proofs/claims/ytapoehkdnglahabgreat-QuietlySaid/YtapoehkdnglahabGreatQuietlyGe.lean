/- RouI Any RouL TimP TimQ TimS TimS3 TimS4 JouW NodP NodS RouQ NodN NodM RouK NodD, joined. -/
import Derived.Test.YtapoehkdnglahabGreatQuietlyGd
/- What routes.New, a table's inOrder, Broken and List return, by a walk. -/
namespace Go.Proofs.YtapoehkdnglahabGreat
open Go.RowKit
set_option linter.unusedVariables false
set_option linter.unusedSimpArgs false
theorem WS_tabQ {P : Program} {n : Frm} {w0 : World} {E : Env} {D : List Deferred} {F : HProp} {c : Code} {Q : Exit → St → Prop} {g : Nat} {self : UInt32} {ls : List Ln} (h : ∀ r bs, bs.length = ls.length → WS P n w0 c Q ⟨E, D, tabP g r self bs ls * F⟩) : WS P n w0 c Q ⟨E, D, tabQ g self ls * F⟩ := by
  unfold tabQ
  refine WS_hex fun x => ?_
  rw [star_assoc]
  exact WS_pure fun hl => h x.1 x.2 hl
/-- A line out of a record. -/
def Rec.ln (r : Rec) : Ln := ⟨r.addr, growS r.seq, 0, 0, false, 0, []⟩
def newStep (self : UInt32) (ls : List Ln) (r : Rec) : List Ln := if r.own = false ∧ r.addr ≠ self ∧ ls.length < 8 then putT ls r.ln else ls
def newT (self : UInt32) (c : List Rec) : List Ln := c.foldl (newStep self) []
theorem newT_snoc (self : UInt32) (c : List Rec) (r : Rec) : newT self (c ++ [r]) = newStep self (newT self c) r := by simp [newT]
theorem putT_length (ls : List Ln) (x : Ln) : (putT ls x).length ≤ ls.length + 1 := by unfold putT; split <;> simp
theorem newT_length (self : UInt32) (c : List Rec) : (newT self c).length ≤ 8 := by
  induction c using snocInd with
  | nil => simp [newT]
  | snoc c r ih =>
    rw [newT_snoc]; unfold newStep
    split
    · rename_i h; have := putT_length (newT self c) r.ln; omega
    · exact ih
attribute [local irreducible] WS LS OpQ OpT OpH OpTQ Spec SpecQ cel
variable (w0 : World)
set_option maxRecDepth 100000 in
set_option maxHeartbeats 8000000 in
theorem newT_spec (self : UInt32) (l : List Rec) (hl : l.length ≤ 100000) (v : Value) (X : HProp) [hX : Rdr w0 X v Rec 3 Rec.cells l] :
    Spec Tryz.prog w0 56 [u32 self, v] X (fun g : Nat => ptr g 0) (fun g => tabQ g self (newT self (compR l)) * X) := by
  have hcomp := wcompact_spec w0 l hl v X
  refine Spec.enter Tryz.func56 rfl Tryz.ntmps56 rfl fun G => ?_
  simp only [argE]
  repeat' (first
    | (refine WS_seqK ?_; intro K hK)
    | (refine hK _ ?_; clear hK K)
    | (with_reducible (first | refine thenS_n ?_ | refine thenS_e ?_ | refine blockS_n ?_ | refine blockS_e ?_ | refine blockS_o rfl ?_ | refine thenS_r ?_ | refine blockS_r ?_ | refine use_K (by assumption) ?_))
    | refine WS_region ?_
    | refine LS_nil ?_
    | (show LS _ _ _ _ _ (⟨_, _, _, _, _, some _⟩ :: _) _; first | refine LS_wantT rfl rfl iI rfl ?_ | refine LS_wantF rfl rfl iI rfl ?_ | refine LS_wantU rfl rfl rfl ?_ | ((first | refine LS_wantS rfl rfl rfl ?_ ?_ | refine LS_wantN rfl ?_ ?_) <;> intro hc <;> (try simp only [decide_eq_true_eq, decide_eq_false_iff_not, Bool.not_eq_eq_eq_not, Bool.not_true, Bool.not_false, Bool.and_eq_true, Bool.or_eq_true, bne_iff_ne, beq_iff_eq, ne_eq, Decidable.not_not] at hc) <;> (try (exfalso; first | contradiction | omega; done))))
    | (first | refine DL_nilA ?_ | refine DL_nilS ?_ | refine DL_nilN ?_ | refine DL_nilE ?_ | refine DL_nilR ?_)
    | (first | refine DL_claimS rfl ?_ | refine DL_claim rfl rfl ?_)
    | (refine DL_alloc iI rfl ?_; intro g)
    | ((first | refine' LQ ?h rfl ?_ | refine' DL_qp rfl rfl rfl ?h ?_ | refine' DL_q rfl rfl ?h ?_); case h => intro F'; first | exact Q_move rfl | exact Q_assign rfl | exact Q_nilCheck rfl | exact Q_fieldAddr rfl iI rfl | exact Q_load rfl iI iI rfl | exact Q_bin_t rfl rfl iI (by first | assumption | omega | decide) | exact Q_bin_f rfl rfl iI (by first | assumption | omega | decide) | exact Q_bin_nt rfl rfl iI (by first | assumption | omega | decide) | exact Q_bin_nf rfl rfl iI (by first | assumption | omega | decide) | exact Q_addI rfl rfl (by omega) | exact Q_subI rfl rfl (by omega) | exact Q_pick_t rfl iI rfl | exact Q_pick_f rfl iI rfl | exact Q_pick rfl rfl rfl | exact Q_un rfl iI | exact Q_loadA rfl iI iI rfl | exact Q_build iI iI rfl rfl | exact Q_buildA iI iI iI rfl rfl | exact Q_len rfl iI | exact Q_lenS rfl iI | exact Q_index rfl rfl iI iI iI iI (by first | assumption | omega | (simp [be_length] <;> omega)) | exact Q_fieldR rfl iI iI rfl (by first | assumption | omega | (simp [be_length] <;> omega)) | exact Q_loadR rfl iI iI iI (by assumption) rfl | exact Q_loadR rfl iI iI iI rfl rfl | exact Q_loadRA rfl iI iI iI (by assumption) | exact Q_lenR rfl iI iI | exact Q_lenM rfl iI iI | exact Q_addS rfl rfl (by first | omega | (simp [be_length] <;> omega)) | exact Q_indexV rfl rfl iI iI iI (by first | assumption | omega) | exact Q_nilCheck_f rfl | exact Q_quoI rfl rfl (by omega) | exact Q_remI rfl rfl (by omega) | exact Q_negI rfl (by omega) | exact Q_mulI rfl rfl (by omega))
    | ((first | refine LS_binS rfl rfl iI rfl ?_ ?_ | refine LS_binN rfl rfl iI rfl ?_ ?_ | refine DL_binS rfl rfl iI rfl ?_ ?_) <;> intro hc)
    | ((first | refine' LQ ?h rfl ?_ | refine' DL_qp rfl rfl rfl ?h ?_ | refine' DL_q rfl rfl ?h ?_); case h => intro F'; first | exact Q_bin rfl rfl iI)
    | ((first | refine' LS_h ?h rfl ?_ | refine' DL_h ?h rfl rfl rfl ?_); (case h => first | exact H_alloc iI | exact H_box rfl | exact H_boxO rfl iI | exact H_box1 rfl (by first | rfl | assumption)); intro g)
    | ((first | refine' LS_h0 ?h ?_ | refine' DL_h0 ?h rfl rfl ?_); (case h => first | exact H_storeO rfl rfl iI iI iI rfl | exact H_storeAO rfl rfl iI iI iI rfl | exact H_store8 rfl rfl iI iI rfl iI (by first | assumption | omega | (simp [be_length] <;> omega)) | exact H_storeRA _ rfl rfl rfl iI iI iI rfl rfl (by first | assumption | omega | (simp [be_length] <;> omega)) | exact H_storeR _ rfl rfl iI iI iI rfl (by assumption) rfl | exact H_store rfl rfl iI (by first | rfl | assumption) iI rfl | exact H_storeA rfl rfl iI iI (by first | rfl | (simp only [List.all_cons, List.all_nil, *]; rfl)) rfl); intro g)
    | (first | refine WS_block ?_ | refine WS_skip ?_ | refine WS_ret ?_ | refine WS_exit ?_ | refine WS_label ?_)
    | (show WS _ _ _ (.cond _ _ _) _ _; first | refine WS_condT rfl iI ?_ | refine WS_condF rfl iI ?_ | refine WS_condH_t rfl (by assumption) ?_ | refine WS_condH_f rfl (by assumption) ?_ | (refine WS_cond rfl ?_ ?_ <;> intro hc <;> (try simp only [decide_eq_true_eq, decide_eq_false_iff_not, Bool.not_eq_eq_eq_not, Bool.not_true, Bool.not_false, Bool.and_eq_true, Bool.or_eq_true, bne_iff_ne, beq_iff_eq, ne_eq, Decidable.not_not] at hc) <;> (try (exfalso; first | contradiction | omega; done))))
    | refine WS_drawS (by kernel_rfl) ?_
    | (refine LS_h (H_makeMap u32 ptrV) rfl ?_; intro r)
    | (refine LS_h (H_callX iI rfl hcomp iI) rfl ?_; intro vc))
  revert g; intro gt
  have hcl := compR_length l
  generalize compR l = c at *
  refine WS_loop (fun k τ => ∃ j : Nat, j + k = c.length ∧ τ = ⟨[(15, .int .i64 (j : Int)), (14, .int .i64 (c.length : Int)), (13, vc), (5, ptr gt 0), (0, u32 self)], [], tabQ gt self (newT self (c.take j)) * (rows 28 3 Rec.cells vc c * (X * G))⟩) ?_ ?_
  · exact ⟨c.length, _, ⟨0, by omega, rfl⟩, ⟨rfl, rfl, rfl, rfl, rfl, trivial⟩, rfl, Ent.tabQ (r := r) (bs := []) rfl (by simp only [newT, List.take_zero, List.foldl_nil, tabP, lmap, List.zipWith_nil_left, linesP]; ((try simp only [star_assoc, emp_star, star_emp]); (repeat' (first | exact Ent.last | refine Ent.take ?_ | refine Ent.nilT ?_ | refine Ent.takeR (by first | rfl | assumption | (simp; done)) ?_ | exact Ent.refl _))))⟩
  · rintro k τ ⟨j, hjk, rfl⟩
    clear r
    refine WS_tabQ fun r bs hlen => ?_
    rcases Nat.lt_or_ge j c.length with hlt | hge
    · obtain ⟨⟨zo, za, zs⟩, hz⟩ : ∃ z, c[j]? = some z := ⟨_, List.getElem?_eq_getElem hlt⟩
      have htk : newT self (c.take (j + 1)) = newStep self (newT self (c.take j)) ⟨zo, za, zs⟩ := by rw [List.take_add_one, hz, Option.toList_some, newT_snoc]
      have hml : (lmap bs (newT self (c.take j))).length = (newT self (c.take j)).length := by simp [lmap, hlen]
      have hl8 := newT_length self (c.take j)
      have hgr := grow_spec w0 zs
      have hput := put_specT w0 gt r self bs (newT self (c.take j)) hlen (Rec.ln ⟨zo, za, zs⟩) rfl
      simp only [routeC, Rec.ln, growS, u32_0, u64_0] at hput
      cases zo
      · by_cases h1 : za = self
        · have hst : newStep self (newT self (c.take j)) ⟨false, za, zs⟩ = newT self (c.take j) := by simp [newStep, h1]
          rw [hst] at htk
          simp only [tabP]
          repeat' (first
            | (refine WS_seqK ?_; intro K hK)
            | (refine hK _ ?_; clear hK K)
            | (with_reducible (first | refine thenS_n ?_ | refine thenS_e ?_ | refine blockS_n ?_ | refine blockS_e ?_ | refine blockS_o rfl ?_ | refine thenS_r ?_ | refine blockS_r ?_ | refine use_K (by assumption) ?_))
            | refine WS_region ?_
            | refine LS_nil ?_
            | (show LS _ _ _ _ _ (⟨_, _, _, _, _, some _⟩ :: _) _; first | refine LS_wantT rfl rfl iI rfl ?_ | refine LS_wantF rfl rfl iI rfl ?_ | refine LS_wantU rfl rfl rfl ?_ | ((first | refine LS_wantS rfl rfl rfl ?_ ?_ | refine LS_wantN rfl ?_ ?_) <;> intro hc <;> (try simp only [decide_eq_true_eq, decide_eq_false_iff_not, Bool.not_eq_eq_eq_not, Bool.not_true, Bool.not_false, Bool.and_eq_true, Bool.or_eq_true, bne_iff_ne, beq_iff_eq, ne_eq, Decidable.not_not] at hc) <;> (try (exfalso; first | contradiction | omega; done))))
            | (first | refine DL_nilA ?_ | refine DL_nilS ?_ | refine DL_nilN ?_ | refine DL_nilE ?_ | refine DL_nilR ?_)
            | (first | refine DL_claimS rfl ?_ | refine DL_claim rfl rfl ?_)
            | (refine DL_alloc iI rfl ?_; intro g)
            | ((first | refine' LQ ?h rfl ?_ | refine' DL_qp rfl rfl rfl ?h ?_ | refine' DL_q rfl rfl ?h ?_); case h => intro F'; first | exact Q_move rfl | exact Q_assign rfl | exact Q_nilCheck rfl | exact Q_fieldAddr rfl iI rfl | exact Q_load rfl iI iI rfl | exact Q_bin_t rfl rfl iI (by first | assumption | omega) | exact Q_bin_f rfl rfl iI (by first | assumption | omega) | exact Q_bin_nt rfl rfl iI (by first | assumption | omega) | exact Q_bin_nf rfl rfl iI (by first | assumption | omega) | exact Q_addI rfl rfl (by omega) | exact Q_subI rfl rfl (by omega) | exact Q_pick_t rfl iI rfl | exact Q_pick_f rfl iI rfl | exact Q_pick rfl rfl rfl | exact Q_un rfl iI | exact Q_loadA rfl iI iI rfl | exact Q_build iI iI rfl rfl | exact Q_buildA iI iI iI rfl rfl | exact Q_len rfl iI | exact Q_lenS rfl iI | exact Q_index rfl rfl iI iI iI iI (by first | assumption | omega | (simp [be_length] <;> omega)) | exact Q_fieldR rfl iI iI rfl (by first | assumption | omega | (simp [be_length] <;> omega)) | exact Q_loadR rfl iI iI iI (by assumption) rfl | exact Q_loadR rfl iI iI iI rfl rfl | exact Q_loadRA rfl iI iI iI (by assumption) | exact Q_lenR rfl iI iI | exact Q_lenM rfl iI iI | exact Q_addS rfl rfl (by first | omega | (simp [be_length] <;> omega)) | exact Q_indexV rfl rfl iI iI iI (by first | assumption | omega) | exact Q_nilCheck_f rfl | exact Q_quoI rfl rfl (by omega) | exact Q_remI rfl rfl (by omega) | exact Q_negI rfl (by omega) | exact Q_mulI rfl rfl (by omega))
            | ((first | refine LS_binS rfl rfl iI rfl ?_ ?_ | refine LS_binN rfl rfl iI rfl ?_ ?_ | refine DL_binS rfl rfl iI rfl ?_ ?_) <;> intro hc)
            | ((first | refine' LQ ?h rfl ?_ | refine' DL_qp rfl rfl rfl ?h ?_ | refine' DL_q rfl rfl ?h ?_); case h => intro F'; first | exact Q_bin rfl rfl iI)
            | ((first | refine' LS_h ?h rfl ?_ | refine' DL_h ?h rfl rfl rfl ?_); (case h => first | exact H_alloc iI | exact H_box rfl | exact H_boxO rfl iI | exact H_box1 rfl (by first | rfl | assumption)); intro g)
            | ((first | refine' LS_h0 ?h ?_ | refine' DL_h0 ?h rfl rfl ?_); (case h => first | exact H_storeO rfl rfl iI iI iI rfl | exact H_storeAO rfl rfl iI iI iI rfl | exact H_store8 rfl rfl iI iI rfl iI (by first | assumption | omega | (simp [be_length] <;> omega)) | exact H_storeRA _ rfl rfl rfl iI iI iI rfl rfl (by first | assumption | omega | (simp [be_length] <;> omega)) | exact H_storeR _ rfl rfl iI iI iI rfl (by assumption) rfl | exact H_store rfl rfl iI (by first | rfl | assumption) iI rfl | exact H_storeA rfl rfl iI iI (by first | rfl | (simp only [List.all_cons, List.all_nil, *]; rfl)) rfl); intro g)
            | (first | refine WS_block ?_ | refine WS_skip ?_ | refine WS_ret ?_ | refine WS_exit ?_ | refine WS_label ?_)
            | (show WS _ _ _ (.cond _ _ _) _ _; first | refine WS_condT rfl iI ?_ | refine WS_condF rfl iI ?_ | refine WS_condH_t rfl (by assumption) ?_ | refine WS_condH_f rfl (by assumption) ?_ | (refine WS_cond rfl ?_ ?_ <;> intro hc <;> (try simp only [decide_eq_true_eq, decide_eq_false_iff_not, Bool.not_eq_eq_eq_not, Bool.not_true, Bool.not_false, Bool.and_eq_true, Bool.or_eq_true, bne_iff_ne, beq_iff_eq, ne_eq, Decidable.not_not] at hc) <;> (try (exfalso; first | contradiction | omega; done))))
            | refine WS_drawS (by kernel_rfl) ?_)
          exact ⟨k - 1, _, by omega, ⟨j + 1, by omega, rfl⟩, ⟨rfl, rfl, rfl, rfl, rfl, trivial⟩, rfl, by rw [htk]; exact Ent.tabQ (r := r) (bs := bs) hlen (by unfold tabP; ((try simp only [star_assoc, emp_star, star_emp]); (repeat' (first | exact Ent.last | refine Ent.take ?_ | refine Ent.nilT ?_ | refine Ent.takeR (by first | rfl | assumption | (simp; done)) ?_ | exact Ent.refl _))))⟩
        · by_cases h2 : (newT self (c.take j)).length < 8
          · have hst : newStep self (newT self (c.take j)) ⟨false, za, zs⟩ = putT (newT self (c.take j)) (Rec.ln ⟨false, za, zs⟩) := by simp [newStep, h1, h2]
            rw [hst] at htk
            simp only [tabP] at hput ⊢
            repeat' (first
              | (show WS _ _ _ (.region 6 _ true) _ _; refine WS_drawK [0, 1, 2, 3, 4, 5, 6, 7] 7 [2, 4] (by decide +kernel) rfl ?_)
              | (refine WS_seqK ?_; intro K hK)
              | (refine hK _ ?_; clear hK K)
              | (with_reducible (first | refine thenS_n ?_ | refine thenS_e ?_ | refine blockS_n ?_ | refine blockS_e ?_ | refine blockS_o rfl ?_ | refine thenS_r ?_ | refine blockS_r ?_ | refine use_K (by assumption) ?_))
              | refine WS_region ?_
              | refine LS_nil ?_
              | (show LS _ _ _ _ _ (⟨_, _, _, _, _, some _⟩ :: _) _; first | refine LS_wantT rfl rfl iI rfl ?_ | refine LS_wantF rfl rfl iI rfl ?_ | refine LS_wantU rfl rfl rfl ?_ | ((first | refine LS_wantS rfl rfl rfl ?_ ?_ | refine LS_wantN rfl ?_ ?_) <;> intro hc <;> (try simp only [decide_eq_true_eq, decide_eq_false_iff_not, Bool.not_eq_eq_eq_not, Bool.not_true, Bool.not_false, Bool.and_eq_true, Bool.or_eq_true, bne_iff_ne, beq_iff_eq, ne_eq, Decidable.not_not] at hc) <;> (try (exfalso; first | contradiction | omega; done))))
              | (first | refine DL_nilA ?_ | refine DL_nilS ?_ | refine DL_nilN ?_ | refine DL_nilE ?_ | refine DL_nilR ?_)
              | (first | refine DL_claimS rfl ?_ | refine DL_claim rfl rfl ?_)
              | (refine DL_alloc iI rfl ?_; intro g)
              | ((first | refine' LQ ?h rfl ?_ | refine' DL_qp rfl rfl rfl ?h ?_ | refine' DL_q rfl rfl ?h ?_); case h => intro F'; first | exact Q_move rfl | exact Q_assign rfl | exact Q_nilCheck rfl | exact Q_fieldAddr rfl iI rfl | exact Q_load rfl iI iI rfl | exact Q_bin_t rfl rfl iI (by first | assumption | omega) | exact Q_bin_f rfl rfl iI (by first | assumption | omega) | exact Q_bin_nt rfl rfl iI (by first | assumption | omega) | exact Q_bin_nf rfl rfl iI (by first | assumption | omega) | exact Q_addI rfl rfl (by omega) | exact Q_subI rfl rfl (by omega) | exact Q_pick_t rfl iI rfl | exact Q_pick_f rfl iI rfl | exact Q_pick rfl rfl rfl | exact Q_un rfl iI | exact Q_loadA rfl iI iI rfl | exact Q_build iI iI rfl rfl | exact Q_buildA iI iI iI rfl rfl | exact Q_len rfl iI | exact Q_lenS rfl iI | exact Q_index rfl rfl iI iI iI iI (by first | assumption | omega | (simp [be_length] <;> omega)) | exact Q_fieldR rfl iI iI rfl (by first | assumption | omega | (simp [be_length] <;> omega)) | exact Q_loadR rfl iI iI iI (by assumption) rfl | exact Q_loadR rfl iI iI iI rfl rfl | exact Q_loadRA rfl iI iI iI (by assumption) | exact Q_lenR rfl iI iI | exact Q_lenM rfl iI iI | exact Q_addS rfl rfl (by first | omega | (simp [be_length] <;> omega)) | exact Q_indexV rfl rfl iI iI iI (by first | assumption | omega) | exact Q_nilCheck_f rfl | exact Q_quoI rfl rfl (by omega) | exact Q_remI rfl rfl (by omega) | exact Q_negI rfl (by omega) | exact Q_mulI rfl rfl (by omega))
              | ((first | refine LS_binS rfl rfl iI rfl ?_ ?_ | refine LS_binN rfl rfl iI rfl ?_ ?_ | refine DL_binS rfl rfl iI rfl ?_ ?_) <;> intro hc)
              | ((first | refine' LQ ?h rfl ?_ | refine' DL_qp rfl rfl rfl ?h ?_ | refine' DL_q rfl rfl ?h ?_); case h => intro F'; first | exact Q_bin rfl rfl iI)
              | ((first | refine' LS_h ?h rfl ?_ | refine' DL_h ?h rfl rfl rfl ?_); (case h => first | exact H_alloc iI | exact H_box rfl | exact H_boxO rfl iI | exact H_box1 rfl (by first | rfl | assumption)); intro g)
              | ((first | refine' LS_h0 ?h ?_ | refine' DL_h0 ?h rfl rfl ?_); (case h => first | exact H_storeO rfl rfl iI iI iI rfl | exact H_storeAO rfl rfl iI iI iI rfl | exact H_store8 rfl rfl iI iI rfl iI (by first | assumption | omega | (simp [be_length] <;> omega)) | exact H_storeRA _ rfl rfl rfl iI iI iI rfl rfl (by first | assumption | omega | (simp [be_length] <;> omega)) | exact H_storeR _ rfl rfl iI iI iI rfl (by assumption) rfl | exact H_store rfl rfl iI (by first | rfl | assumption) iI rfl | exact H_storeA rfl rfl iI iI (by first | rfl | (simp only [List.all_cons, List.all_nil, *]; rfl)) rfl); intro g)
              | (first | refine WS_block ?_ | refine WS_skip ?_ | refine WS_ret ?_ | refine WS_exit ?_ | refine WS_label ?_)
              | (show WS _ _ _ (.cond _ _ _) _ _; first | refine WS_condT rfl iI ?_ | refine WS_condF rfl iI ?_ | refine WS_condH_t rfl (by assumption) ?_ | refine WS_condH_f rfl (by assumption) ?_ | (refine WS_cond rfl ?_ ?_ <;> intro hc <;> (try simp only [decide_eq_true_eq, decide_eq_false_iff_not, Bool.not_eq_eq_eq_not, Bool.not_true, Bool.not_false, Bool.and_eq_true, Bool.or_eq_true, bne_iff_ne, beq_iff_eq, ne_eq, Decidable.not_not] at hc) <;> (try (exfalso; first | contradiction | omega; done))))
              | (refine DL_h (H_callX iI rfl hgr iI) rfl rfl rfl ?_; intro u)
              | (refine DL_h (H_callX iI rfl hput iI) rfl rfl rfl ?_; intro u))
            exact ⟨k - 1, _, by omega, ⟨j + 1, by omega, rfl⟩, ⟨rfl, rfl, rfl, rfl, rfl, trivial⟩, rfl, by rw [htk]; simp only [Rec.ln, growS]; ((try simp only [star_assoc, emp_star, star_emp]); (repeat' (first | exact Ent.last | refine Ent.take ?_ | refine Ent.nilT ?_ | refine Ent.takeR (by first | rfl | assumption | (simp; done)) ?_ | exact Ent.refl _)))⟩
          · have hst : newStep self (newT self (c.take j)) ⟨false, za, zs⟩ = newT self (c.take j) := by simp [newStep, h2]
            rw [hst] at htk
            simp only [tabP]
            repeat' (first
              | (refine WS_seqK ?_; intro K hK)
              | (refine hK _ ?_; clear hK K)
              | (with_reducible (first | refine thenS_n ?_ | refine thenS_e ?_ | refine blockS_n ?_ | refine blockS_e ?_ | refine blockS_o rfl ?_ | refine thenS_r ?_ | refine blockS_r ?_ | refine use_K (by assumption) ?_))
              | refine WS_region ?_
              | refine LS_nil ?_
              | (show LS _ _ _ _ _ (⟨_, _, _, _, _, some _⟩ :: _) _; first | refine LS_wantT rfl rfl iI rfl ?_ | refine LS_wantF rfl rfl iI rfl ?_ | refine LS_wantU rfl rfl rfl ?_ | ((first | refine LS_wantS rfl rfl rfl ?_ ?_ | refine LS_wantN rfl ?_ ?_) <;> intro hc <;> (try simp only [decide_eq_true_eq, decide_eq_false_iff_not, Bool.not_eq_eq_eq_not, Bool.not_true, Bool.not_false, Bool.and_eq_true, Bool.or_eq_true, bne_iff_ne, beq_iff_eq, ne_eq, Decidable.not_not] at hc) <;> (try (exfalso; first | contradiction | omega; done))))
              | (first | refine DL_nilA ?_ | refine DL_nilS ?_ | refine DL_nilN ?_ | refine DL_nilE ?_ | refine DL_nilR ?_)
              | (first | refine DL_claimS rfl ?_ | refine DL_claim rfl rfl ?_)
              | (refine DL_alloc iI rfl ?_; intro g)
              | ((first | refine' LQ ?h rfl ?_ | refine' DL_qp rfl rfl rfl ?h ?_ | refine' DL_q rfl rfl ?h ?_); case h => intro F'; first | exact Q_move rfl | exact Q_assign rfl | exact Q_nilCheck rfl | exact Q_fieldAddr rfl iI rfl | exact Q_load rfl iI iI rfl | exact Q_bin_t rfl rfl iI (by first | assumption | omega) | exact Q_bin_f rfl rfl iI (by first | assumption | omega) | exact Q_bin_nt rfl rfl iI (by first | assumption | omega) | exact Q_bin_nf rfl rfl iI (by first | assumption | omega) | exact Q_addI rfl rfl (by omega) | exact Q_subI rfl rfl (by omega) | exact Q_pick_t rfl iI rfl | exact Q_pick_f rfl iI rfl | exact Q_pick rfl rfl rfl | exact Q_un rfl iI | exact Q_loadA rfl iI iI rfl | exact Q_build iI iI rfl rfl | exact Q_buildA iI iI iI rfl rfl | exact Q_len rfl iI | exact Q_lenS rfl iI | exact Q_index rfl rfl iI iI iI iI (by first | assumption | omega | (simp [be_length] <;> omega)) | exact Q_fieldR rfl iI iI rfl (by first | assumption | omega | (simp [be_length] <;> omega)) | exact Q_loadR rfl iI iI iI (by assumption) rfl | exact Q_loadR rfl iI iI iI rfl rfl | exact Q_loadRA rfl iI iI iI (by assumption) | exact Q_lenR rfl iI iI | exact Q_lenM rfl iI iI | exact Q_addS rfl rfl (by first | omega | (simp [be_length] <;> omega)) | exact Q_indexV rfl rfl iI iI iI (by first | assumption | omega) | exact Q_nilCheck_f rfl | exact Q_quoI rfl rfl (by omega) | exact Q_remI rfl rfl (by omega) | exact Q_negI rfl (by omega) | exact Q_mulI rfl rfl (by omega))
              | ((first | refine LS_binS rfl rfl iI rfl ?_ ?_ | refine LS_binN rfl rfl iI rfl ?_ ?_ | refine DL_binS rfl rfl iI rfl ?_ ?_) <;> intro hc)
              | ((first | refine' LQ ?h rfl ?_ | refine' DL_qp rfl rfl rfl ?h ?_ | refine' DL_q rfl rfl ?h ?_); case h => intro F'; first | exact Q_bin rfl rfl iI)
              | ((first | refine' LS_h ?h rfl ?_ | refine' DL_h ?h rfl rfl rfl ?_); (case h => first | exact H_alloc iI | exact H_box rfl | exact H_boxO rfl iI | exact H_box1 rfl (by first | rfl | assumption)); intro g)
              | ((first | refine' LS_h0 ?h ?_ | refine' DL_h0 ?h rfl rfl ?_); (case h => first | exact H_storeO rfl rfl iI iI iI rfl | exact H_storeAO rfl rfl iI iI iI rfl | exact H_store8 rfl rfl iI iI rfl iI (by first | assumption | omega | (simp [be_length] <;> omega)) | exact H_storeRA _ rfl rfl rfl iI iI iI rfl rfl (by first | assumption | omega | (simp [be_length] <;> omega)) | exact H_storeR _ rfl rfl iI iI iI rfl (by assumption) rfl | exact H_store rfl rfl iI (by first | rfl | assumption) iI rfl | exact H_storeA rfl rfl iI iI (by first | rfl | (simp only [List.all_cons, List.all_nil, *]; rfl)) rfl); intro g)
              | (first | refine WS_block ?_ | refine WS_skip ?_ | refine WS_ret ?_ | refine WS_exit ?_ | refine WS_label ?_)
              | (show WS _ _ _ (.cond _ _ _) _ _; first | refine WS_condT rfl iI ?_ | refine WS_condF rfl iI ?_ | refine WS_condH_t rfl (by assumption) ?_ | refine WS_condH_f rfl (by assumption) ?_ | (refine WS_cond rfl ?_ ?_ <;> intro hc <;> (try simp only [decide_eq_true_eq, decide_eq_false_iff_not, Bool.not_eq_eq_eq_not, Bool.not_true, Bool.not_false, Bool.and_eq_true, Bool.or_eq_true, bne_iff_ne, beq_iff_eq, ne_eq, Decidable.not_not] at hc) <;> (try (exfalso; first | contradiction | omega; done))))
              | refine WS_drawS (by kernel_rfl) ?_)
            exact ⟨k - 1, _, by omega, ⟨j + 1, by omega, rfl⟩, ⟨rfl, rfl, rfl, rfl, rfl, trivial⟩, rfl, by rw [htk]; exact Ent.tabQ (r := r) (bs := bs) hlen (by unfold tabP; ((try simp only [star_assoc, emp_star, star_emp]); (repeat' (first | exact Ent.last | refine Ent.take ?_ | refine Ent.nilT ?_ | refine Ent.takeR (by first | rfl | assumption | (simp; done)) ?_ | exact Ent.refl _))))⟩
      · have hst : newStep self (newT self (c.take j)) ⟨true, za, zs⟩ = newT self (c.take j) := by simp [newStep]
        rw [hst] at htk
        simp only [tabP]
        repeat' (first
          | (refine WS_seqK ?_; intro K hK)
          | (refine hK _ ?_; clear hK K)
          | (with_reducible (first | refine thenS_n ?_ | refine thenS_e ?_ | refine blockS_n ?_ | refine blockS_e ?_ | refine blockS_o rfl ?_ | refine thenS_r ?_ | refine blockS_r ?_ | refine use_K (by assumption) ?_))
          | refine WS_region ?_
          | refine LS_nil ?_
          | (show LS _ _ _ _ _ (⟨_, _, _, _, _, some _⟩ :: _) _; first | refine LS_wantT rfl rfl iI rfl ?_ | refine LS_wantF rfl rfl iI rfl ?_ | refine LS_wantU rfl rfl rfl ?_ | ((first | refine LS_wantS rfl rfl rfl ?_ ?_ | refine LS_wantN rfl ?_ ?_) <;> intro hc <;> (try simp only [decide_eq_true_eq, decide_eq_false_iff_not, Bool.not_eq_eq_eq_not, Bool.not_true, Bool.not_false, Bool.and_eq_true, Bool.or_eq_true, bne_iff_ne, beq_iff_eq, ne_eq, Decidable.not_not] at hc) <;> (try (exfalso; first | contradiction | omega; done))))
          | (first | refine DL_nilA ?_ | refine DL_nilS ?_ | refine DL_nilN ?_ | refine DL_nilE ?_ | refine DL_nilR ?_)
          | (first | refine DL_claimS rfl ?_ | refine DL_claim rfl rfl ?_)
          | (refine DL_alloc iI rfl ?_; intro g)
          | ((first | refine' LQ ?h rfl ?_ | refine' DL_qp rfl rfl rfl ?h ?_ | refine' DL_q rfl rfl ?h ?_); case h => intro F'; first | exact Q_move rfl | exact Q_assign rfl | exact Q_nilCheck rfl | exact Q_fieldAddr rfl iI rfl | exact Q_load rfl iI iI rfl | exact Q_bin_t rfl rfl iI (by first | assumption | omega) | exact Q_bin_f rfl rfl iI (by first | assumption | omega) | exact Q_bin_nt rfl rfl iI (by first | assumption | omega) | exact Q_bin_nf rfl rfl iI (by first | assumption | omega) | exact Q_addI rfl rfl (by omega) | exact Q_subI rfl rfl (by omega) | exact Q_pick_t rfl iI rfl | exact Q_pick_f rfl iI rfl | exact Q_pick rfl rfl rfl | exact Q_un rfl iI | exact Q_loadA rfl iI iI rfl | exact Q_build iI iI rfl rfl | exact Q_buildA iI iI iI rfl rfl | exact Q_len rfl iI | exact Q_lenS rfl iI | exact Q_index rfl rfl iI iI iI iI (by first | assumption | omega | (simp [be_length] <;> omega)) | exact Q_fieldR rfl iI iI rfl (by first | assumption | omega | (simp [be_length] <;> omega)) | exact Q_loadR rfl iI iI iI (by assumption) rfl | exact Q_loadR rfl iI iI iI rfl rfl | exact Q_loadRA rfl iI iI iI (by assumption) | exact Q_lenR rfl iI iI | exact Q_lenM rfl iI iI | exact Q_addS rfl rfl (by first | omega | (simp [be_length] <;> omega)) | exact Q_indexV rfl rfl iI iI iI (by first | assumption | omega) | exact Q_nilCheck_f rfl | exact Q_quoI rfl rfl (by omega) | exact Q_remI rfl rfl (by omega) | exact Q_negI rfl (by omega) | exact Q_mulI rfl rfl (by omega))
          | ((first | refine LS_binS rfl rfl iI rfl ?_ ?_ | refine LS_binN rfl rfl iI rfl ?_ ?_ | refine DL_binS rfl rfl iI rfl ?_ ?_) <;> intro hc)
          | ((first | refine' LQ ?h rfl ?_ | refine' DL_qp rfl rfl rfl ?h ?_ | refine' DL_q rfl rfl ?h ?_); case h => intro F'; first | exact Q_bin rfl rfl iI)
          | ((first | refine' LS_h ?h rfl ?_ | refine' DL_h ?h rfl rfl rfl ?_); (case h => first | exact H_alloc iI | exact H_box rfl | exact H_boxO rfl iI | exact H_box1 rfl (by first | rfl | assumption)); intro g)
          | ((first | refine' LS_h0 ?h ?_ | refine' DL_h0 ?h rfl rfl ?_); (case h => first | exact H_storeO rfl rfl iI iI iI rfl | exact H_storeAO rfl rfl iI iI iI rfl | exact H_store8 rfl rfl iI iI rfl iI (by first | assumption | omega | (simp [be_length] <;> omega)) | exact H_storeRA _ rfl rfl rfl iI iI iI rfl rfl (by first | assumption | omega | (simp [be_length] <;> omega)) | exact H_storeR _ rfl rfl iI iI iI rfl (by assumption) rfl | exact H_store rfl rfl iI (by first | rfl | assumption) iI rfl | exact H_storeA rfl rfl iI iI (by first | rfl | (simp only [List.all_cons, List.all_nil, *]; rfl)) rfl); intro g)
          | (first | refine WS_block ?_ | refine WS_skip ?_ | refine WS_ret ?_ | refine WS_exit ?_ | refine WS_label ?_)
          | (show WS _ _ _ (.cond _ _ _) _ _; first | refine WS_condT rfl iI ?_ | refine WS_condF rfl iI ?_ | refine WS_condH_t rfl (by assumption) ?_ | refine WS_condH_f rfl (by assumption) ?_ | (refine WS_cond rfl ?_ ?_ <;> intro hc <;> (try simp only [decide_eq_true_eq, decide_eq_false_iff_not, Bool.not_eq_eq_eq_not, Bool.not_true, Bool.not_false, Bool.and_eq_true, Bool.or_eq_true, bne_iff_ne, beq_iff_eq, ne_eq, Decidable.not_not] at hc) <;> (try (exfalso; first | contradiction | omega; done))))
          | refine WS_drawS (by kernel_rfl) ?_)
        exact ⟨k - 1, _, by omega, ⟨j + 1, by omega, rfl⟩, ⟨rfl, rfl, rfl, rfl, rfl, trivial⟩, rfl, by rw [htk]; exact Ent.tabQ (r := r) (bs := bs) hlen (by unfold tabP; ((try simp only [star_assoc, emp_star, star_emp]); (repeat' (first | exact Ent.last | refine Ent.take ?_ | refine Ent.nilT ?_ | refine Ent.takeR (by first | rfl | assumption | (simp; done)) ?_ | exact Ent.refl _))))⟩
    · obtain rfl : j = c.length := by omega
      simp only [List.take_length] at hlen ⊢
      repeat' (first
        | (refine WS_seqK ?_; intro K hK)
        | (refine hK _ ?_; clear hK K)
        | (with_reducible (first | refine thenS_n ?_ | refine thenS_e ?_ | refine blockS_n ?_ | refine blockS_e ?_ | refine blockS_o rfl ?_ | refine thenS_r ?_ | refine blockS_r ?_ | refine use_K (by assumption) ?_))
        | refine WS_region ?_
        | refine LS_nil ?_
        | (show LS _ _ _ _ _ (⟨_, _, _, _, _, some _⟩ :: _) _; first | refine LS_wantT rfl rfl iI rfl ?_ | refine LS_wantF rfl rfl iI rfl ?_ | refine LS_wantU rfl rfl rfl ?_ | ((first | refine LS_wantS rfl rfl rfl ?_ ?_ | refine LS_wantN rfl ?_ ?_) <;> intro hc <;> (try simp only [decide_eq_true_eq, decide_eq_false_iff_not, Bool.not_eq_eq_eq_not, Bool.not_true, Bool.not_false, Bool.and_eq_true, Bool.or_eq_true, bne_iff_ne, beq_iff_eq, ne_eq, Decidable.not_not] at hc) <;> (try (exfalso; first | contradiction | omega; done))))
        | (first | refine DL_nilA ?_ | refine DL_nilS ?_ | refine DL_nilN ?_ | refine DL_nilE ?_ | refine DL_nilR ?_)
        | (first | refine DL_claimS rfl ?_ | refine DL_claim rfl rfl ?_)
        | (refine DL_alloc iI rfl ?_; intro g)
        | ((first | refine' LQ ?h rfl ?_ | refine' DL_qp rfl rfl rfl ?h ?_ | refine' DL_q rfl rfl ?h ?_); case h => intro F'; first | exact Q_move rfl | exact Q_assign rfl | exact Q_nilCheck rfl | exact Q_fieldAddr rfl iI rfl | exact Q_load rfl iI iI rfl | exact Q_bin_t rfl rfl iI (by first | assumption | omega | decide) | exact Q_bin_f rfl rfl iI (by first | assumption | omega | decide) | exact Q_bin_nt rfl rfl iI (by first | assumption | omega | decide) | exact Q_bin_nf rfl rfl iI (by first | assumption | omega | decide) | exact Q_addI rfl rfl (by omega) | exact Q_subI rfl rfl (by omega) | exact Q_pick_t rfl iI rfl | exact Q_pick_f rfl iI rfl | exact Q_pick rfl rfl rfl | exact Q_un rfl iI | exact Q_loadA rfl iI iI rfl | exact Q_build iI iI rfl rfl | exact Q_buildA iI iI iI rfl rfl | exact Q_len rfl iI | exact Q_lenS rfl iI | exact Q_index rfl rfl iI iI iI iI (by first | assumption | omega | (simp [be_length] <;> omega)) | exact Q_fieldR rfl iI iI rfl (by first | assumption | omega | (simp [be_length] <;> omega)) | exact Q_loadR rfl iI iI iI (by assumption) rfl | exact Q_loadR rfl iI iI iI rfl rfl | exact Q_loadRA rfl iI iI iI (by assumption) | exact Q_lenR rfl iI iI | exact Q_lenM rfl iI iI | exact Q_addS rfl rfl (by first | omega | (simp [be_length] <;> omega)) | exact Q_indexV rfl rfl iI iI iI (by first | assumption | omega) | exact Q_nilCheck_f rfl | exact Q_quoI rfl rfl (by omega) | exact Q_remI rfl rfl (by omega) | exact Q_negI rfl (by omega) | exact Q_mulI rfl rfl (by omega))
        | ((first | refine LS_binS rfl rfl iI rfl ?_ ?_ | refine LS_binN rfl rfl iI rfl ?_ ?_ | refine DL_binS rfl rfl iI rfl ?_ ?_) <;> intro hc)
        | ((first | refine' LQ ?h rfl ?_ | refine' DL_qp rfl rfl rfl ?h ?_ | refine' DL_q rfl rfl ?h ?_); case h => intro F'; first | exact Q_bin rfl rfl iI)
        | ((first | refine' LS_h ?h rfl ?_ | refine' DL_h ?h rfl rfl rfl ?_); (case h => first | exact H_alloc iI | exact H_box rfl | exact H_boxO rfl iI | exact H_box1 rfl (by first | rfl | assumption)); intro g)
        | ((first | refine' LS_h0 ?h ?_ | refine' DL_h0 ?h rfl rfl ?_); (case h => first | exact H_storeO rfl rfl iI iI iI rfl | exact H_storeAO rfl rfl iI iI iI rfl | exact H_store8 rfl rfl iI iI rfl iI (by first | assumption | omega | (simp [be_length] <;> omega)) | exact H_storeRA _ rfl rfl rfl iI iI iI rfl rfl (by first | assumption | omega | (simp [be_length] <;> omega)) | exact H_storeR _ rfl rfl iI iI iI rfl (by assumption) rfl | exact H_store rfl rfl iI (by first | rfl | assumption) iI rfl | exact H_storeA rfl rfl iI iI (by first | rfl | (simp only [List.all_cons, List.all_nil, *]; rfl)) rfl); intro g)
        | (first | refine WS_block ?_ | refine WS_skip ?_ | refine WS_ret ?_ | refine WS_exit ?_ | refine WS_label ?_)
        | (show WS _ _ _ (.cond _ _ _) _ _; first | refine WS_condT rfl iI ?_ | refine WS_condF rfl iI ?_ | refine WS_condH_t rfl (by assumption) ?_ | refine WS_condH_f rfl (by assumption) ?_ | (refine WS_cond rfl ?_ ?_ <;> intro hc <;> (try simp only [decide_eq_true_eq, decide_eq_false_iff_not, Bool.not_eq_eq_eq_not, Bool.not_true, Bool.not_false, Bool.and_eq_true, Bool.or_eq_true, bne_iff_ne, beq_iff_eq, ne_eq, Decidable.not_not] at hc) <;> (try (exfalso; first | contradiction | omega; done))))
        | refine WS_drawS (by kernel_rfl) ?_)
      exact ret_tmp (.inl rfl) rfl rfl ⟨gt, rfl, by rw [star_assoc]; exact Ent.tabQ (r := r) (bs := bs) hlen (by ((try simp only [star_assoc, emp_star, star_emp]); (repeat' (first | exact Ent.last | refine Ent.take ?_ | refine Ent.nilT ?_ | refine Ent.takeR (by first | rfl | assumption | (simp; done)) ?_ | exact Ent.refl _))))⟩
end Go.Proofs.YtapoehkdnglahabGreat

/- A region that draws, gone through in every order: for regions that may panic. No program in sight. -/
namespace Go.Proofs.YtapoehkdnglahabGreat
open Go.RowKit
set_option linter.unusedVariables false
set_option linter.unusedSimpArgs false
variable {P : Program} {n : Frm} {w0 : World} {E : Env} {D : List Deferred} {H F F2 R : HProp} {ops : Array Oper} {Q : Exit → St → Prop} {σ : St}
/-- Which operations are done; the last one stands first. -/
def maskD (m : Nat) : List Nat → Array Bool
  | [] => Array.replicate m false
  | i :: r => (maskD m r).setIfInBounds i true
def AS (P : Program) (n : Frm) (w0 : World) (ops : Array Oper) (Q : Exit → St → Prop) (done : List Nat) (σ : St) : Prop :=
  ∀ a w, Good n w0 σ a w → wpAnyIn (fen n.round) 0 P .any ops (lift n w0 Q) (ops.size - done.length) (maskD ops.size done) a w
def AO (P : Program) (n : Frm) (w0 : World) (ops : Array Oper) (Q : Exit → St → Prop) (done : List Nat) (i : Nat) (σ : St) : Prop :=
  ∀ a w, Good n w0 σ a w → wpOpIn (fen n.round) 0 P ops (lift n w0 Q) i (wpAnyIn (fen n.round) 0 P .any ops (lift n w0 Q) (ops.size - (i :: done).length) (maskD ops.size (i :: done))) a w
/-- Each operation that is ready is gone through. -/
def allO (P : Program) (n : Frm) (w0 : World) (ops : Array Oper) (Q : Exit → St → Prop) (done : List Nat) (σ : St) : List Nat → Prop
  | [] => True
  | i :: r => AO P n w0 ops Q done i σ ∧ allO P n w0 ops Q done σ r
theorem allO_mem {done : List Nat} : ∀ {r : List Nat}, allO P n w0 ops Q done σ r → ∀ i ∈ r, AO P n w0 ops Q done i σ
  | [], _, i, hi => by cases hi
  | j :: r, h, i, hi => by
    rcases List.mem_cons.1 hi with rfl | hi
    · exact h.1
    · exact allO_mem h.2 i hi
theorem AS_step {done r : List Nat} (hr : Region.ready .any ops (maskD ops.size done) = r) (hlt : Nat.blt done.length ops.size = true) (hne : r.isEmpty = false) (h : allO P n w0 ops Q done σ r) : AS P n w0 ops Q done σ := fun a w g => by
  have hlt' : done.length < ops.size := by simpa using hlt
  obtain ⟨f, hf⟩ : ∃ f, ops.size - done.length = f + 1 := ⟨ops.size - done.length - 1, by omega⟩
  have hf2 : ops.size - ((0 : Nat) :: done).length = f := by simp; omega
  rw [hf]
  refine ⟨fun h0 => ?_, fun i hi => ?_⟩
  · rw [hr] at h0; subst h0; cases hne
  · rw [hr] at hi
    have := allO_mem h i hi a w g
    have e : ops.size - (i :: done).length = f := by simp; omega
    rw [e] at this
    exact this
theorem AO_q {done : List Nat} {i d : Nat} {op : Op} {ty : TypeId} {pos : String} {after : Array Edge} {v : Value} (hi : ops[i]? = some ⟨some d, op, ty, pos, after, none⟩) (hop : OpQ P n w0 ⟨some d, op, ty, pos, after, none⟩ E H v) (hd : Nat.blt d n.tmps = true) (h : AS P n w0 ops Q (i :: done) ⟨(d, v) :: E, D, H⟩) : AO P n w0 ops Q done i ⟨E, D, H⟩ := fun a w g => by
  unfold wpOpIn
  rw [hi]
  simp only
  rw [if_pos (by rfl)]
  exact hop.toIn g.sees g.sat (h _ _ ⟨g.sees.putO (some d) _ hd, g.defers, g.sat⟩)
theorem AO_h {done : List Nat} {i d : Nat} {op : Op} {ty : TypeId} {pos : String} {after : Array Edge} {α : Type} {v : α → Value} {post : α → HProp} (hi : ops[i]? = some ⟨some d, op, ty, pos, after, none⟩) (hop : OpH P n w0 ⟨some d, op, ty, pos, after, none⟩ E H v post) (hd : Nat.blt d n.tmps = true) (h : ∀ x, AS P n w0 ops Q (i :: done) ⟨(d, v x) :: E, D, post x⟩) : AO P n w0 ops Q done i ⟨E, D, H⟩ := fun a w g => by
  unfold wpOpIn
  rw [hi]
  simp only
  rw [if_pos (by rfl)]
  obtain ⟨pre, post', G, hT, hH, hp⟩ := hop
  exact hT.toIn G g.sees (g.sat.cast hH) fun x w' hs => h x _ _ ⟨g.sees.putO (some d) _ hd, g.defers, hs.cast (hp x).symm⟩
/-- A call that panics. -/
theorem AO_x {done : List Nat} {i : Nat} {f : FuncId} {args : List Value} {pre post : HProp} {chain : List PanicEntry} {d : Option Tmp} {xs : List Operand} {ts : Array TypeId} {ty : TypeId} {pos : String} {after : Array Edge} (hi : ops[i]? = some ⟨d, .call ⟨.value (.func f), xs.toArray, ts⟩, ty, pos, after, none⟩) (hf : IsFun P f) (hargs : E.evs xs = some args) (spec : SpecX P w0 f args pre chain post) (hH : Own H pre F) (h : Q (.panic chain) ⟨E, D, post * F⟩) : AO P n w0 ops Q done i ⟨E, D, H⟩ := fun a w g => by
  unfold wpOpIn
  rw [hi]
  simp only
  rw [if_pos (by rfl)]
  refine wpIn_of_wp (.inr (fun c hc => by cases hc)) ?_
  have e := g.sees.evs hargs
  have hr : (execOp a.eval ⟨d, .call ⟨.value (.func f), xs.toArray, ts⟩, ty, pos, after, none⟩).run P w = .ok (.enter f args.toArray) w := by
    have h := run_callFunc hf args.toArray w
    simp [execOp, resolve, Act.eval, Deferred.ofValue, invoke, e, h]
  unfold Oper.wp
  rw [hr]
  refine (spec F w (g.sat.cast hH.eq)).mono ?_
  rintro e w' ⟨rfl, hs'⟩
  exact ⟨_, h, g.sees, g.defers, hs'⟩
theorem WS_drawAny {id : Nat} {l : List Oper} (hm : P.follows .mixedOrders = true) (h : AS P n w0 l.toArray Q [] ⟨E, D, H⟩) : WS P n w0 (.region id l.toArray true) Q ⟨E, D, H⟩ := fun a w g => by
  refine wpIn_region_any hm ?_
  exact h a w.drew ⟨g.sees, g.defers, g.sat.drew⟩
/-- A region that draws, in whose order the block that slot t points to is read ahead of place cp alone; all else may be changed from the beginning. -/
theorem WS_drawM {l l' : List Oper} {id : Nat} (t : Nat) (idx : List Nat) (cp : Nat) (bs : List Nat) {g off : Nat} {bt : TypeId} {cs : List Value} (hs : statD P l idx (inB bs) cp = true) (hl : permL l idx = some l') (hx : E.get t = some (ptr g off)) (hL : LimbB H g bt cs F) (h : DL P n w0 l.toArray Q D emp (cel g bt cs) (inB bs) cp 0 false l' E F) : WS P n w0 (.region id l.toArray true) Q ⟨E, D, H⟩ :=
  WS_draw idx l' emp (cel g bt cs) F _ cp hs (by rw [emp_star]; exact hL.eq) (permL_eq hl) h
/-- The same, where one block more is read, that no operation changes: the one that slot t2 points to. -/
theorem WS_drawN {l l' : List Oper} {id : Nat} (t t2 : Nat) (idx : List Nat) (cp : Nat) (bs : List Nat) {g off g2 off2 : Nat} {bt bt2 : TypeId} {cs cs2 : List Value} {F1 : HProp} (hs : statD P l idx (inB bs) cp = true) (hl : permL l idx = some l') (hx : E.get t = some (ptr g off)) (hx2 : E.get t2 = some (ptr g2 off2)) (hR : LimbB H g2 bt2 cs2 F1) (hL : LimbB F1 g bt cs F) (h : DL P n w0 l.toArray Q D (cel g2 bt2 cs2) (cel g bt cs) (inB bs) cp 0 false l' E F) : WS P n w0 (.region id l.toArray true) Q ⟨E, D, H⟩ :=
  WS_draw idx l' (cel g2 bt2 cs2) (cel g bt cs) F _ cp hs (by rw [hR.eq, hL.eq]) (permL_eq hl) h
end Go.Proofs.YtapoehkdnglahabGreat

/- What a table's inOrder, Broken and List return, by a walk. -/
namespace Go.Proofs.YtapoehkdnglahabGreat
open Go.RowKit
set_option linter.unusedVariables false
set_option linter.unusedSimpArgs false
/-- The block of line d. -/
def blkOf (bs : List (Nat × Nat)) (ls : List Ln) (d : UInt32) : Nat := (mget (lmap bs ls) d).getD 0
theorem mget_dest {bs : List (Nat × Nat)} {ls : List Ln} {d : UInt32} (hlen : bs.length = ls.length) (hd : d ∈ dests ls) : mget (lmap bs ls) d = some (blkOf bs ls d) := by
  unfold blkOf
  cases h : mget (lmap bs ls) d with
  | none => exact absurd (by rw [lmap_fst hlen]; exact hd) ((mget_none_iff _ d).1 h)
  | some b => rfl
theorem mem_sortU {l : List UInt32} {d : UInt32} : d ∈ sortU l ↔ d ∈ l := (List.mergeSort_perm l _).mem_iff
theorem sortU_length (l : List UInt32) : (sortU l).length = l.length := (List.mergeSort_perm l _).length_eq
/-- The lines of those that came by already, ended where they go by nb. -/
def brkL (nb : UInt32) (pre : List UInt32) (ls : List Ln) : List Ln := ls.map fun l => if l.dest ∈ pre then l.brk nb else l
def brkT (nb : UInt32) (ls : List Ln) : List Ln := ls.map (Ln.brk nb)
def outB (nb : UInt32) (pre : List UInt32) (ls : List Ln) : List (UInt32 × UInt32) := pre.filterMap fun d => match lget ls d with
  | some l => if l.valid = true ∧ l.next = nb ∧ 0 < l.before.length then some (l.dest, (l.ended 0).seq) else none
  | none => none
attribute [local irreducible] WS LS OpQ OpT OpH OpTQ Spec SpecQ cel
variable (w0 : World)
set_option maxRecDepth 100000 in
set_option maxHeartbeats 8000000 in
theorem inOrder_iter (gt r : Nat) (self : UInt32) (bs : List (Nat × Nat)) (ls : List Ln) (hlen : bs.length = ls.length) (h12 : ls.length ≤ 12) :
    IterG Tryz.prog w0 122 [ptr gt 0] [] (cel gt 216 [u32 self, .map (some r)] * mp u32 ptrV r (lmap bs ls)) (fun d => [ptr (blkOf bs ls d) 0]) (fun xs => xs = sortU (dests ls)) := by
  intro l J Jx hY
  have hkeys := keysLf_spec w0 r
  have hs : ∀ gk, Spec Tryz.prog w0 181 [.func (.func 218) #[] [ptr gk 0].toArray] (cel gk 214 [.map (some r)] * mp u32 ptrV r (lmap bs ls)) (fun p : Value × (l : List UInt32) × SortedU l => p.1) (fun p => pure' (p.2.1.Perm ((lmap bs ls).map (·.1))) * (rows 26 1 wordC p.1 p.2.2.l' * (cel gk 214 [.map (some r)] * mp u32 ptrV r (lmap bs ls)))) := fun gk =>
    sorted32_spec w0 iI (keysL_iter w0 (lmap bs ls) r gk) (fun xs hx => by have := hx.length_eq; rw [lmap_fst hlen] at this; simp [dests] at this; omega)
  refine Spec.enter Tryz.func122 rfl Tryz.ntmps122 rfl fun G => ?_
  simp only [List.cons_append, List.nil_append, argE]
  repeat' (first
    | (refine WS_seqK ?_; intro K hK)
    | (refine hK _ ?_; clear hK K)
    | (with_reducible (first | refine thenS_n ?_ | refine thenS_e ?_ | refine blockS_n ?_ | refine blockS_e ?_ | refine blockS_o rfl ?_ | refine thenS_r ?_ | refine blockS_r ?_ | refine use_K (by assumption) ?_))
    | refine WS_region ?_
    | refine LS_nil ?_
    | ((refine' LQ ?h rfl ?_); case h => intro F'; first | exact Q_move rfl | exact Q_assign rfl | exact Q_nilCheck rfl | exact Q_fieldAddr rfl iI rfl | exact Q_load rfl iI iI rfl | exact Q_bin_t rfl rfl iI (by first | assumption | omega | decide) | exact Q_bin_f rfl rfl iI (by first | assumption | omega | decide) | exact Q_bin_nt rfl rfl iI (by first | assumption | omega | decide) | exact Q_bin_nf rfl rfl iI (by first | assumption | omega | decide) | exact Q_addI rfl rfl (by omega) | exact Q_subI rfl rfl (by omega) | exact Q_un rfl iI | exact Q_loadA rfl iI iI rfl | exact Q_len rfl iI | exact Q_lenS rfl iI | exact Q_index rfl rfl iI iI iI iI (by first | assumption | omega | (simp [be_length] <;> omega)) | exact Q_fieldR rfl iI iI rfl (by first | assumption | omega | (simp [be_length] <;> omega)) | exact Q_loadR rfl iI iI iI (by assumption) rfl | exact Q_loadR rfl iI iI iI rfl rfl | exact Q_loadRA rfl iI iI iI (by assumption) | exact Q_lenR rfl iI iI | exact Q_lenM rfl iI iI | exact Q_lookupOk_s rfl rfl iI iI iI iI iI (by assumption) | exact Q_lookupOk_n rfl rfl iI iI iI iI iI (by assumption) | exact Q_lookup_s rfl rfl iI iI iI iI iI (by assumption) | exact Q_lookup_n rfl rfl iI iI iI iI iI (by assumption) | exact Q_lookupOk rfl rfl iI iI iI iI iI | exact Q_lookup rfl rfl iI iI iI iI iI | exact Q_addS rfl rfl (by first | omega | (simp [be_length] <;> omega)) | exact Q_indexV rfl rfl iI iI iI (by first | assumption | omega) | exact Q_nilCheck_f rfl | exact Q_quoI rfl rfl (by omega) | exact Q_remI rfl rfl (by omega) | exact Q_negI rfl (by omega) | exact Q_mulI rfl rfl (by omega))
    | ((first | refine LS_binS rfl rfl iI rfl ?_ ?_ | refine LS_binN rfl rfl iI rfl ?_ ?_) <;> intro hc)
    | ((refine' LQ ?h rfl ?_); case h => intro F'; first | exact Q_bin rfl rfl iI)
    | (first | refine WS_block ?_ | refine WS_skip ?_ | refine WS_ret ?_ | refine WS_exit ?_ | refine WS_label ?_)
    | (show WS _ _ _ (.cond _ _ _) _ _; first | refine WS_condT rfl iI ?_ | refine WS_condF rfl iI ?_ | refine WS_condH_t rfl (by assumption) ?_ | refine WS_condH_f rfl (by assumption) ?_ | (refine WS_cond rfl ?_ ?_ <;> intro hc <;> (try simp only [decide_eq_true_eq, decide_eq_false_iff_not, Bool.not_eq_eq_eq_not, Bool.not_true, Bool.not_false, Bool.and_eq_true, Bool.or_eq_true, bne_iff_ne, beq_iff_eq, ne_eq, Decidable.not_not] at hc) <;> (try (exfalso; first | contradiction | omega; done))))
    | (refine LS_h (H_callX iI rfl hkeys iI) rfl ?_; intro gk)
    | (refine LS_h (H_callX iI rfl (hs gk) iI) rfl ?_; rintro ⟨vk, l0, sk⟩; refine LS_pureI iI fun hp => ?_; dsimp only))
  have hp' : l0.Perm (dests ls) := by rw [← lmap_fst hlen]; exact hp
  have hsk := sortU_eq hp' sk
  rw [hsk]
  have hxl := sortU_length (dests ls)
  have hdl : (dests ls).length = ls.length := by simp [dests]
  have hmem : ∀ d ∈ sortU (dests ls), mget (lmap bs ls) d = some (blkOf bs ls d) := fun d hd => mget_dest hlen (mem_sortU.1 hd)
  generalize hxs : sortU (dests ls) = xs at *
  refine WS_loop (fun k τ => ∃ j : Nat, j + k = xs.length ∧ τ = ⟨[(13, .int .i64 (j : Int)), (12, .int .i64 (xs.length : Int)), (11, vk), (0, ptr gt 0), (1, yieldV l)], [], rows 26 1 wordC vk xs * (J (xs.take j) * (cel gt 216 [u32 self, .map (some r)] * (mp u32 ptrV r (lmap bs ls) * G)))⟩) ?_ ?_
  · exact ⟨xs.length, _, ⟨0, by omega, rfl⟩, ⟨rfl, rfl, rfl, rfl, rfl, trivial⟩, rfl, by rw [List.take_zero]; ((try simp only [star_assoc, emp_star, star_emp]); (repeat' (first | exact Ent.last | refine Ent.take ?_ | refine Ent.nilT ?_ | refine Ent.takeR (by first | rfl | assumption | (simp; done)) ?_ | exact Ent.refl _)))⟩
  · rintro k τ ⟨j, hjk, rfl⟩
    rcases Nat.lt_or_ge j xs.length with hlt | hge
    · obtain ⟨d, hz⟩ : ∃ z, xs[j]? = some z := ⟨_, List.getElem?_eq_getElem hlt⟩
      have hg := hmem d (List.mem_of_getElem? hz)
      have htk : xs.take j ++ [d] = xs.take (j + 1) := by rw [List.take_add_one, hz, Option.toList_some]
      have hyl := hY (xs.take j) d ⟨xs, rfl, by rw [htk]; exact List.take_prefix _ _⟩
      rw [htk] at hyl
      repeat' (first
        | (refine WS_seqK ?_; intro K hK)
        | (refine hK _ ?_; clear hK K)
        | (with_reducible (first | refine thenS_n ?_ | refine thenS_e ?_ | refine blockS_n ?_ | refine blockS_e ?_ | refine blockS_o rfl ?_ | refine thenS_r ?_ | refine blockS_r ?_ | refine use_K (by assumption) ?_))
        | refine WS_region ?_
        | refine LS_nil ?_
        | ((refine' LQ ?h rfl ?_); case h => intro F'; first | exact Q_move rfl | exact Q_assign rfl | exact Q_nilCheck rfl | exact Q_fieldAddr rfl iI rfl | exact Q_load rfl iI iI rfl | exact Q_bin_t rfl rfl iI (by first | assumption | omega) | exact Q_bin_f rfl rfl iI (by first | assumption | omega) | exact Q_bin_nt rfl rfl iI (by first | assumption | omega) | exact Q_bin_nf rfl rfl iI (by first | assumption | omega) | exact Q_addI rfl rfl (by omega) | exact Q_subI rfl rfl (by omega) | exact Q_un rfl iI | exact Q_loadA rfl iI iI rfl | exact Q_len rfl iI | exact Q_lenS rfl iI | exact Q_index rfl rfl iI iI iI iI (by first | assumption | omega | (simp [be_length] <;> omega)) | exact Q_fieldR rfl iI iI rfl (by first | assumption | omega | (simp [be_length] <;> omega)) | exact Q_loadR rfl iI iI iI (by assumption) rfl | exact Q_loadR rfl iI iI iI rfl rfl | exact Q_loadRA rfl iI iI iI (by assumption) | exact Q_lenR rfl iI iI | exact Q_lenM rfl iI iI | exact Q_lookupOk_s rfl rfl iI iI iI iI iI (by assumption) | exact Q_lookupOk_n rfl rfl iI iI iI iI iI (by assumption) | exact Q_lookup_s rfl rfl iI iI iI iI iI (by assumption) | exact Q_lookup_n rfl rfl iI iI iI iI iI (by assumption) | exact Q_lookupOk rfl rfl iI iI iI iI iI | exact Q_lookup rfl rfl iI iI iI iI iI | exact Q_addS rfl rfl (by first | omega | (simp [be_length] <;> omega)) | exact Q_indexV rfl rfl iI iI iI (by first | assumption | omega) | exact Q_nilCheck_f rfl | exact Q_quoI rfl rfl (by omega) | exact Q_remI rfl rfl (by omega) | exact Q_negI rfl (by omega) | exact Q_mulI rfl rfl (by omega))
        | ((first | refine LS_binS rfl rfl iI rfl ?_ ?_ | refine LS_binN rfl rfl iI rfl ?_ ?_) <;> intro hc)
        | ((refine' LQ ?h rfl ?_); case h => intro F'; first | exact Q_bin rfl rfl iI)
        | (first | refine WS_block ?_ | refine WS_skip ?_ | refine WS_ret ?_ | refine WS_exit ?_ | refine WS_label ?_)
        | (show WS _ _ _ (.cond _ _ _) _ _; first | refine WS_condT rfl iI ?_ | refine WS_condF rfl iI ?_ | refine WS_condH_t rfl (by assumption) ?_ | refine WS_condH_f rfl (by assumption) ?_ | (refine WS_cond rfl ?_ ?_ <;> intro hc <;> (try simp only [decide_eq_true_eq, decide_eq_false_iff_not, Bool.not_eq_eq_eq_not, Bool.not_true, Bool.not_false, Bool.and_eq_true, Bool.or_eq_true, bne_iff_ne, beq_iff_eq, ne_eq, Decidable.not_not] at hc) <;> (try (exfalso; first | contradiction | omega; done))))
        | (refine LS_i (I_yield rfl rfl rfl hyl) iI rfl ?_; rintro (_
        | _) <;> simp only [cond_true, cond_false]))
      · exact ret_none (.inl rfl) rfl ⟨(xs.take (j + 1), false), rfl, by simp only [cond_false]; ((try simp only [star_assoc, emp_star, star_emp]); (repeat' (first | exact Ent.last | refine Ent.take ?_ | refine Ent.nilT ?_ | refine Ent.takeR (by first | rfl | assumption | (simp; done)) ?_ | exact Ent.refl _)))⟩
      · exact ⟨k - 1, _, by omega, ⟨j + 1, by omega, rfl⟩, ⟨rfl, rfl, rfl, rfl, rfl, trivial⟩, rfl, by ((try simp only [star_assoc, emp_star, star_emp]); (repeat' (first | exact Ent.last | refine Ent.take ?_ | refine Ent.nilT ?_ | refine Ent.takeR (by first | rfl | assumption | (simp; done)) ?_ | exact Ent.refl _)))⟩
    · obtain rfl : j = xs.length := by omega
      rw [List.take_length]
      repeat' (first
        | (refine WS_seqK ?_; intro K hK)
        | (refine hK _ ?_; clear hK K)
        | (with_reducible (first | refine thenS_n ?_ | refine thenS_e ?_ | refine blockS_n ?_ | refine blockS_e ?_ | refine blockS_o rfl ?_ | refine thenS_r ?_ | refine blockS_r ?_ | refine use_K (by assumption) ?_))
        | refine WS_region ?_
        | refine LS_nil ?_
        | ((refine' LQ ?h rfl ?_); case h => intro F'; first | exact Q_move rfl | exact Q_assign rfl | exact Q_nilCheck rfl | exact Q_fieldAddr rfl iI rfl | exact Q_load rfl iI iI rfl | exact Q_bin_t rfl rfl iI (by first | assumption | omega | decide) | exact Q_bin_f rfl rfl iI (by first | assumption | omega | decide) | exact Q_bin_nt rfl rfl iI (by first | assumption | omega | decide) | exact Q_bin_nf rfl rfl iI (by first | assumption | omega | decide) | exact Q_addI rfl rfl (by omega) | exact Q_subI rfl rfl (by omega) | exact Q_un rfl iI | exact Q_loadA rfl iI iI rfl | exact Q_len rfl iI | exact Q_lenS rfl iI | exact Q_index rfl rfl iI iI iI iI (by first | assumption | omega | (simp [be_length] <;> omega)) | exact Q_fieldR rfl iI iI rfl (by first | assumption | omega | (simp [be_length] <;> omega)) | exact Q_loadR rfl iI iI iI (by assumption) rfl | exact Q_loadR rfl iI iI iI rfl rfl | exact Q_loadRA rfl iI iI iI (by assumption) | exact Q_lenR rfl iI iI | exact Q_lenM rfl iI iI | exact Q_lookupOk_s rfl rfl iI iI iI iI iI (by assumption) | exact Q_lookupOk_n rfl rfl iI iI iI iI iI (by assumption) | exact Q_lookup_s rfl rfl iI iI iI iI iI (by assumption) | exact Q_lookup_n rfl rfl iI iI iI iI iI (by assumption) | exact Q_lookupOk rfl rfl iI iI iI iI iI | exact Q_lookup rfl rfl iI iI iI iI iI | exact Q_addS rfl rfl (by first | omega | (simp [be_length] <;> omega)) | exact Q_indexV rfl rfl iI iI iI (by first | assumption | omega) | exact Q_nilCheck_f rfl | exact Q_quoI rfl rfl (by omega) | exact Q_remI rfl rfl (by omega) | exact Q_negI rfl (by omega) | exact Q_mulI rfl rfl (by omega))
        | ((first | refine LS_binS rfl rfl iI rfl ?_ ?_ | refine LS_binN rfl rfl iI rfl ?_ ?_) <;> intro hc)
        | ((refine' LQ ?h rfl ?_); case h => intro F'; first | exact Q_bin rfl rfl iI)
        | (first | refine WS_block ?_ | refine WS_skip ?_ | refine WS_ret ?_ | refine WS_exit ?_ | refine WS_label ?_)
        | (show WS _ _ _ (.cond _ _ _) _ _; first | refine WS_condT rfl iI ?_ | refine WS_condF rfl iI ?_ | refine WS_condH_t rfl (by assumption) ?_ | refine WS_condH_f rfl (by assumption) ?_ | (refine WS_cond rfl ?_ ?_ <;> intro hc <;> (try simp only [decide_eq_true_eq, decide_eq_false_iff_not, Bool.not_eq_eq_eq_not, Bool.not_true, Bool.not_false, Bool.and_eq_true, Bool.or_eq_true, bne_iff_ne, beq_iff_eq, ne_eq, Decidable.not_not] at hc) <;> (try (exfalso; first | contradiction | omega; done)))))
      refine ret_none (.inr rfl) rfl ⟨(xs, true), rfl, ?_⟩
      simp only [cond_true]
      rw [star_assoc (pure' _)]
      exact Ent.pureI trivial (by ((try simp only [star_assoc, emp_star, star_emp]); (repeat' (first | exact Ent.last | refine Ent.take ?_ | refine Ent.nilT ?_ | refine Ent.takeR (by first | rfl | assumption | (simp; done)) ?_ | exact Ent.refl _))))
/-- All lines, in rising order. -/
def listT (ls : List Ln) : List Ln := (sortU (dests ls)).filterMap (lget ls)
/-- Lines as others see them: with their neighbours' slices. -/
abbrev LnS := Ln × (Option Addr × Nat)
def routeS (p : LnS) : List Value := routeC p.1 (befV p.1 p.2)
instance : FixLen routeS 7 := ⟨fun _ => rfl⟩
theorem routeS_one : ∀ z, ∀ c ∈ routeS z, c.oneCell' = true := by
  intro z c hc
  simp [routeS, routeC] at hc
  rcases hc with rfl | rfl | rfl | rfl | rfl | rfl | rfl <;> rfl
def befs : List LnS → HProp
  | [] => emp
  | p :: r => rows 26 1 wordC (befV p.1 p.2) (sortU p.1.before) * befs r
theorem befs_snoc : ∀ (ps : List LnS) (p : LnS), befs (ps ++ [p]) = rows 26 1 wordC (befV p.1 p.2) (sortU p.1.before) * befs ps
  | [], p => rfl
  | q :: ps, p => by
    show _ * befs (ps ++ [p]) = _
    rw [befs_snoc ps p, star_left_comm]; rfl
set_option maxRecDepth 100000 in
set_option maxHeartbeats 8000000 in
theorem list_specT (gt r : Nat) (self : UInt32) (bs : List (Nat × Nat)) (ls : List Ln) (hlen : bs.length = ls.length) (hn : (dests ls).Nodup) (h12 : ls.length ≤ 12) (hb : ∀ l ∈ ls, l.before.length ≤ 12) :
    Spec Tryz.prog w0 75 [ptr gt 0] (tabP gt r self bs ls) (fun x : Value × List LnS => x.1) (fun x => pure' (x.2.map (·.1) = listT ls) * (rows 53 7 routeS x.1 x.2 * (befs x.2 * tabP gt r self bs ls))) := by
  have it := inOrder_iter w0 gt r self bs ls hlen h12
  refine Spec.enterM Tryz.func75 rfl Tryz.ntmps75 rfl fun G => ?_
  simp only [argE, tabP]
  repeat' (first
    | (refine WS_seqK ?_; intro K hK)
    | (refine hK _ ?_; clear hK K)
    | (with_reducible (first | refine thenS_n ?_ | refine thenS_e ?_ | refine blockS_n ?_ | refine blockS_e ?_ | refine blockS_o rfl ?_ | refine thenS_r ?_ | refine blockS_r ?_ | refine use_K (by assumption) ?_))
    | refine WS_region ?_
    | refine LS_nil ?_
    | (first | refine DL_nilA ?_ | refine DL_nilS ?_ | refine DL_nilN ?_ | refine DL_nilE ?_ | refine DL_nilR ?_)
    | (first | refine DL_claimS rfl ?_ | refine DL_claim rfl rfl ?_)
    | (refine DL_alloc iI rfl ?_; intro g)
    | ((first | refine' LQ ?h rfl ?_ | refine' DL_qp rfl rfl rfl ?h ?_ | refine' DL_q rfl rfl ?h ?_); case h => intro F'; first | exact Q_move rfl | exact Q_assign rfl | exact Q_load rfl iI iI rfl | exact Q_loadA rfl iI iI rfl | exact Q_loadR rfl iI iI iI (by assumption) rfl | exact Q_loadR rfl iI iI iI rfl rfl | exact Q_loadRA rfl iI iI iI (by assumption) | exact Q_makeFunc rfl rfl)
    | ((first | refine' LS_h ?h rfl ?_ | refine' DL_h ?h rfl rfl rfl ?_); (case h => first | exact H_alloc iI | exact H_buildB iI iI iI rfl rfl rfl rfl rfl iI rfl rfl | exact H_buildSlice iI iI iI rfl rfl rfl rfl rfl | exact H_buildSlice0 iI iI | exact H_appendD rfl rfl iI iI rfl iI iI byteC_one (by first | omega | (simp [be_length] <;> omega)) rfl | exact H_appendB rfl rfl iI iI iI rfl rfl iI (by first | omega | (simp [be_length] <;> omega)) rfl | exact H_appendS rfl rfl iI rfl iI iI (by first | omega | (simp [be_length] <;> omega)) rfl); intro g)
    | ((first | refine' LS_h0 ?h ?_ | refine' DL_h0 ?h rfl rfl ?_); (case h => first | exact H_storeO rfl rfl iI iI iI rfl | exact H_storeAO rfl rfl iI iI iI rfl | exact H_store8 rfl rfl iI iI rfl iI (by first | assumption | omega | (simp [be_length] <;> omega)) | exact H_storeRA _ rfl rfl rfl iI iI iI rfl rfl (by first | assumption | omega | (simp [be_length] <;> omega)) | exact H_storeR _ rfl rfl iI iI iI rfl (by assumption) rfl | exact H_store rfl rfl iI (by first | rfl | assumption) iI rfl | exact H_storeA rfl rfl iI iI (by first | rfl | (simp only [List.all_cons, List.all_nil, *]; rfl)) rfl); intro g)
    | (first | refine WS_block ?_ | refine WS_skip ?_ | refine WS_ret ?_ | refine WS_exit ?_ | refine WS_label ?_)
    | (show WS _ _ _ (.cond _ _ _) _ _; first | refine WS_condT rfl iI ?_ | refine WS_condF rfl iI ?_ | refine WS_condH_t rfl (by assumption) ?_ | refine WS_condH_f rfl (by assumption) ?_ | (refine WS_cond rfl ?_ ?_ <;> intro hc <;> (try simp only [decide_eq_true_eq, decide_eq_false_iff_not, Bool.not_eq_eq_eq_not, Bool.not_true, Bool.not_false, Bool.and_eq_true, Bool.or_eq_true, bne_iff_ne, beq_iff_eq, ne_eq, Decidable.not_not] at hc) <;> (try (exfalso; first | contradiction | omega; done))))
    | refine WS_drawS (by kernel_rfl) ?_)
  revert g; intro g3
  refine WS_ent (Ent.nil _ 53 7 routeS none) ?_
  refine WS_ent (H' := (cel gt 216 [u32 self, .map (some r)] * mp u32 ptrV r (lmap bs ls)) * ((hex fun x : Value × List LnS => pure' (x.2.map (·.1) = ([] : List UInt32).filterMap (lget ls)) * (cel g3 49 [x.1] * (rows 53 7 routeS x.1 x.2 * (befs x.2 * linesP bs ls)))) * G)) (Ent.trans (F := (hex fun x : Value × List LnS => pure' (x.2.map (·.1) = ([] : List UInt32).filterMap (lget ls)) * (cel g3 49 [x.1] * (rows 53 7 routeS x.1 x.2 * (befs x.2 * linesP bs ls)))) * ((cel gt 216 [u32 self, .map (some r)] * mp u32 ptrV r (lmap bs ls)) * G)) (Ent.hexI (p := fun x : Value × List LnS => pure' (x.2.map (·.1) = ([] : List UInt32).filterMap (lget ls)) * (cel g3 49 [x.1] * (rows 53 7 routeS x.1 x.2 * (befs x.2 * linesP bs ls)))) (Value.slice none 0 0, []) (by rw [star_assoc (pure' _)]; refine Ent.pureI rfl ?_; simp only [befs]; ((try simp only [star_assoc, emp_star, star_emp]); (repeat' (first | exact Ent.last | refine Ent.take ?_ | refine Ent.nilT ?_ | refine Ent.takeR (by first | rfl | assumption | (simp; done)) ?_ | exact Ent.refl _))))) (by ((try simp only [star_assoc, emp_star, star_emp]); (repeat' (first | exact Ent.last | refine Ent.take ?_ | refine Ent.nilT ?_ | refine Ent.takeR (by first | rfl | assumption | (simp; done)) ?_ | exact Ent.refl _))))) ?_
  refine WS_rangeFuncG (fb := [ptr gt 0]) rfl rfl iI it rfl (fun _ => rfl) (fun pre => hex fun x : Value × List LnS => pure' (x.2.map (·.1) = pre.filterMap (lget ls)) * (cel g3 49 [x.1] * (rows 53 7 routeS x.1 x.2 * (befs x.2 * linesP bs ls)))) (fun _ _ => pure' False) rfl ?_ ?_ ?_
  · rintro l pre d R ⟨xs, rfl, hpx⟩
    have hdm : d ∈ dests ls := mem_sortU.1 (hpx.subset (by simp))
    have hpl : pre.length + 1 ≤ 12 := by
      have := hpx.length_le
      rw [sortU_length] at this
      simp [dests] at this; omega
    have hmg := mget_dest hlen hdm
    obtain ⟨j, rb, x, hx, hbj, hxd⟩ := lmap_mem (by obtain ⟨i, _, hi⟩ := mget_some hmg; exact List.mem_of_getElem? hi)
    obtain ⟨F, h1, h2⟩ := linesP_hole hbj hx
    have hgl : lget ls d = some x := lget_some (hxd ▸ lfind_nodup hn hx) hx
    have hcp := copied_spec w0 (blkOf bs ls d) rb x (hb x (List.mem_of_getElem? hx))
    generalize blkOf bs ls d = b at *
    refine WS_hex fun y => ?_
    rw [star_assoc (pure' _)]
    refine WS_pure fun hy => ?_
    obtain ⟨v, ps⟩ := y
    have hps : ps.length ≤ 12 := by
      have e1 := congrArg List.length hy
      have e2 := List.length_filterMap_le (lget ls) pre
      simp at e1; omega
    rw [h1]
    simp only [linP, lineC, bindE] at hcp ⊢
    repeat' (first
      | (refine WS_seqK ?_; intro K hK)
      | (refine hK _ ?_; clear hK K)
      | (with_reducible (first | refine thenS_n ?_ | refine thenS_e ?_ | refine blockS_n ?_ | refine blockS_e ?_ | refine blockS_o rfl ?_ | refine thenS_r ?_ | refine blockS_r ?_ | refine use_K (by assumption) ?_))
      | refine WS_region ?_
      | refine LS_nil ?_
      | (first | refine DL_nilA ?_ | refine DL_nilS ?_ | refine DL_nilN ?_ | refine DL_nilE ?_ | refine DL_nilR ?_)
      | (first | refine DL_claimS rfl ?_ | refine DL_claim rfl rfl ?_)
      | (refine DL_alloc iI rfl ?_; intro g)
      | ((first | refine' LQ ?h rfl ?_ | refine' DL_qp rfl rfl rfl ?h ?_ | refine' DL_q rfl rfl ?h ?_); case h => intro F'; first | exact Q_move rfl | exact Q_assign rfl | exact Q_load rfl iI iI rfl | exact Q_loadA rfl iI iI rfl | exact Q_loadR rfl iI iI iI (by assumption) rfl | exact Q_loadR rfl iI iI iI rfl rfl | exact Q_loadRA rfl iI iI iI (by assumption) | exact Q_makeFunc rfl rfl)
      | ((first | refine' LS_h ?h rfl ?_ | refine' DL_h ?h rfl rfl rfl ?_); (case h => first | exact H_alloc iI | exact H_buildB iI iI iI rfl rfl rfl rfl rfl iI rfl rfl | exact H_buildSlice iI iI iI rfl rfl rfl rfl rfl | exact H_buildSlice0 iI iI | exact H_appendD rfl rfl iI iI rfl iI iI byteC_one (by first | omega | (simp [be_length] <;> omega)) rfl | exact H_appendB rfl rfl iI iI iI rfl rfl iI (by first | omega | (simp [be_length] <;> omega)) rfl | exact H_appendS rfl rfl iI rfl iI iI (by first | omega | (simp [be_length] <;> omega)) rfl); intro g)
      | ((first | refine' LS_h0 ?h ?_ | refine' DL_h0 ?h rfl rfl ?_); (case h => first | exact H_storeO rfl rfl iI iI iI rfl | exact H_storeAO rfl rfl iI iI iI rfl | exact H_store8 rfl rfl iI iI rfl iI (by first | assumption | omega | (simp [be_length] <;> omega)) | exact H_storeRA _ rfl rfl rfl iI iI iI rfl rfl (by first | assumption | omega | (simp [be_length] <;> omega)) | exact H_storeR _ rfl rfl iI iI iI rfl (by assumption) rfl | exact H_store rfl rfl iI (by first | rfl | assumption) iI rfl | exact H_storeA rfl rfl iI iI (by first | rfl | (simp only [List.all_cons, List.all_nil, *]; rfl)) rfl); intro g)
      | (first | refine WS_block ?_ | refine WS_skip ?_ | refine WS_ret ?_ | refine WS_exit ?_ | refine WS_label ?_)
      | (show WS _ _ _ (.cond _ _ _) _ _; first | refine WS_condT rfl iI ?_ | refine WS_condF rfl iI ?_ | refine WS_condH_t rfl (by assumption) ?_ | refine WS_condH_f rfl (by assumption) ?_ | (refine WS_cond rfl ?_ ?_ <;> intro hc <;> (try simp only [decide_eq_true_eq, decide_eq_false_iff_not, Bool.not_eq_eq_eq_not, Bool.not_true, Bool.not_false, Bool.and_eq_true, Bool.or_eq_true, bne_iff_ne, beq_iff_eq, ne_eq, Decidable.not_not] at hc) <;> (try (exfalso; first | contradiction | omega; done))))
      | refine WS_drawS (by kernel_rfl) ?_)
    refine asgS_mk rfl (cel g3 49 [v] * (rows 53 7 routeS v ps * (befs ps * (cel b 230 (lineC x rb) * (mp u32 unitV rb (bmap x.before) * F))))) (by simp only [lineC]; ((try simp only [star_assoc, emp_star, star_emp]); (repeat' (first | exact Ent.last | refine Ent.take ?_ | refine Ent.nilT ?_ | refine Ent.takeR (by first | rfl | assumption | (simp; done)) ?_ | exact Ent.refl _)))) fun R' => ?_
    simp only [lineC]
    repeat' (first
      | (show WS _ _ _ (.region 4 _ true) _ _; first | refine WS_drawK [0, 1, 2, 3, 4, 5] 2 [0] (by decide +kernel) rfl ?_ | refine WS_drawM 3 [0, 1, 2, 3, 4, 5] 5 [0] (by decide +kernel) rfl rfl iI ?_)
      | (refine WS_seqK ?_; intro K hK)
      | (refine hK _ ?_; clear hK K)
      | (with_reducible (first | refine thenS_n ?_ | refine thenS_e ?_ | refine blockS_n ?_ | refine blockS_e ?_ | refine blockS_o rfl ?_ | refine thenS_r ?_ | refine blockS_r ?_ | refine use_K (by assumption) ?_))
      | refine WS_region ?_
      | refine LS_nil ?_
      | (first | refine DL_nilA ?_ | refine DL_nilS ?_ | refine DL_nilN ?_ | refine DL_nilE ?_ | refine DL_nilR ?_)
      | (first | refine DL_claimS rfl ?_ | refine DL_claim rfl rfl ?_)
      | (refine DL_alloc iI rfl ?_; intro g)
      | ((first | refine' LQ ?h rfl ?_ | refine' DL_qp rfl rfl rfl ?h ?_ | refine' DL_q rfl rfl ?h ?_); case h => intro F'; first | exact Q_move rfl | exact Q_assign rfl | exact Q_load rfl iI iI rfl | exact Q_loadA rfl iI iI rfl | exact Q_loadR rfl iI iI iI (by assumption) rfl | exact Q_loadR rfl iI iI iI rfl rfl | exact Q_loadRA rfl iI iI iI (by assumption) | exact Q_makeFunc rfl rfl)
      | ((first | refine' LS_h ?h rfl ?_ | refine' DL_h ?h rfl rfl rfl ?_); (case h => first | exact H_alloc iI | exact H_buildB iI iI iI rfl rfl rfl rfl rfl iI rfl rfl | exact H_buildSlice0 iI iI | exact H_appendD rfl rfl iI iI rfl iI iI byteC_one (by first | omega | (simp [be_length] <;> omega)) rfl | exact H_appendB rfl rfl iI iI iI rfl rfl iI (by first | omega | (simp [be_length] <;> omega)) rfl | exact H_appendS rfl rfl iI rfl iI iI (by first | omega | (simp [be_length] <;> omega)) rfl); intro g)
      | ((first | refine' LS_h0 ?h ?_ | refine' DL_h0 ?h rfl rfl ?_); (case h => first | exact H_storeO rfl rfl iI iI iI rfl | exact H_storeAO rfl rfl iI iI iI rfl | exact H_store8 rfl rfl iI iI rfl iI (by first | assumption | omega | (simp [be_length] <;> omega)) | exact H_storeRA _ rfl rfl rfl iI iI iI rfl rfl (by first | assumption | omega | (simp [be_length] <;> omega)) | exact H_storeR _ rfl rfl iI iI iI rfl (by assumption) rfl | exact H_store rfl rfl iI (by first | rfl | assumption) iI rfl | exact H_storeA rfl rfl iI iI (by first | rfl | (simp only [List.all_cons, List.all_nil, *]; rfl)) rfl); intro g)
      | (first | refine WS_block ?_ | refine WS_skip ?_ | refine WS_ret ?_ | refine WS_exit ?_ | refine WS_label ?_)
      | (show WS _ _ _ (.cond _ _ _) _ _; first | refine WS_condT rfl iI ?_ | refine WS_condF rfl iI ?_ | refine WS_condH_t rfl (by assumption) ?_ | refine WS_condH_f rfl (by assumption) ?_ | (refine WS_cond rfl ?_ ?_ <;> intro hc <;> (try simp only [decide_eq_true_eq, decide_eq_false_iff_not, Bool.not_eq_eq_eq_not, Bool.not_true, Bool.not_false, Bool.and_eq_true, Bool.or_eq_true, bne_iff_ne, beq_iff_eq, ne_eq, Decidable.not_not] at hc) <;> (try (exfalso; first | contradiction | omega; done))))
      | (refine DL_h (H_callX iI rfl hcp iI) rfl rfl rfl ?_; intro p)
      | (refine DL_h (H_buildSliceR routeS [(x, p)] iI iI iI rfl rfl rfl rfl rfl iI rfl rfl rfl) rfl rfl rfl ?_; intro vs)
      | (refine DL_h (H_appendR rfl rfl iI iI rfl iI iI routeS_one (by first | omega | (simp [be_length] <;> omega)) rfl) rfl rfl rfl ?_; intro va))
    show Ent _ ((hex _) * R')
    refine Ent.hexI (va, ps ++ [(x, p)]) ?_
    rw [star_assoc (pure' _)]
    refine Ent.pureI (by rw [List.map_append, List.filterMap_append]; simp only [List.map_cons, List.map_nil, List.filterMap_cons, List.filterMap_nil, hgl]; simp only at hy; rw [hy]) ?_
    dsimp only
    rw [befs_snoc]
    simp only [linP, lineC]
    ((try simp only [star_assoc, emp_star, star_emp]); (repeat' (first | exact Ent.last | refine Ent.take ?_ | refine Ent.nilT ?_ | refine Ent.takeR (by first | rfl | assumption | (simp; done)) ?_ | exact Ent.refl _)))
  · intro b xs hxs
    subst hxs
    refine hK _ ?_
    refine WS_ent (H' := (hex fun x : Value × List LnS => pure' (x.2.map (·.1) = (sortU (dests ls)).filterMap (lget ls)) * (cel g3 49 [x.1] * (rows 53 7 routeS x.1 x.2 * (befs x.2 * linesP bs ls)))) * (dblk b * ((cel gt 216 [u32 self, .map (some r)] * mp u32 ptrV r (lmap bs ls)) * G))) (by ((try simp only [star_assoc, emp_star, star_emp]); (repeat' (first | exact Ent.last | refine Ent.take ?_ | refine Ent.nilT ?_ | refine Ent.takeR (by first | rfl | assumption | (simp; done)) ?_ | exact Ent.refl _)))) ?_
    refine WS_hex fun y => ?_
    rw [star_assoc (pure' _)]
    refine WS_pure fun hy => ?_
    obtain ⟨v, ps⟩ := y
    repeat' (first
      | (refine WS_seqK ?_; intro K hK)
      | (refine hK _ ?_; clear hK K)
      | (with_reducible (first | refine thenS_n ?_ | refine thenS_e ?_ | refine blockS_n ?_ | refine blockS_e ?_ | refine blockS_o rfl ?_ | refine thenS_r ?_ | refine blockS_r ?_ | refine use_K (by assumption) ?_))
      | refine WS_region ?_
      | refine LS_nil ?_
      | (first | refine DL_nilA ?_ | refine DL_nilS ?_ | refine DL_nilN ?_ | refine DL_nilE ?_ | refine DL_nilR ?_)
      | (first | refine DL_claimS rfl ?_ | refine DL_claim rfl rfl ?_)
      | (refine DL_alloc iI rfl ?_; intro g)
      | ((first | refine' LQ ?h rfl ?_ | refine' DL_qp rfl rfl rfl ?h ?_ | refine' DL_q rfl rfl ?h ?_); case h => intro F'; first | exact Q_move rfl | exact Q_assign rfl | exact Q_load rfl iI iI rfl | exact Q_loadA rfl iI iI rfl | exact Q_loadR rfl iI iI iI (by assumption) rfl | exact Q_loadR rfl iI iI iI rfl rfl | exact Q_loadRA rfl iI iI iI (by assumption) | exact Q_makeFunc rfl rfl)
      | ((first | refine' LS_h ?h rfl ?_ | refine' DL_h ?h rfl rfl rfl ?_); (case h => first | exact H_alloc iI | exact H_buildB iI iI iI rfl rfl rfl rfl rfl iI rfl rfl | exact H_buildSlice iI iI iI rfl rfl rfl rfl rfl | exact H_buildSlice0 iI iI | exact H_appendD rfl rfl iI iI rfl iI iI byteC_one (by first | omega | (simp [be_length] <;> omega)) rfl | exact H_appendB rfl rfl iI iI iI rfl rfl iI (by first | omega | (simp [be_length] <;> omega)) rfl | exact H_appendS rfl rfl iI rfl iI iI (by first | omega | (simp [be_length] <;> omega)) rfl); intro g)
      | ((first | refine' LS_h0 ?h ?_ | refine' DL_h0 ?h rfl rfl ?_); (case h => first | exact H_storeO rfl rfl iI iI iI rfl | exact H_storeAO rfl rfl iI iI iI rfl | exact H_store8 rfl rfl iI iI rfl iI (by first | assumption | omega | (simp [be_length] <;> omega)) | exact H_storeRA _ rfl rfl rfl iI iI iI rfl rfl (by first | assumption | omega | (simp [be_length] <;> omega)) | exact H_storeR _ rfl rfl iI iI iI rfl (by assumption) rfl | exact H_store rfl rfl iI (by first | rfl | assumption) iI rfl | exact H_storeA rfl rfl iI iI (by first | rfl | (simp only [List.all_cons, List.all_nil, *]; rfl)) rfl); intro g)
      | (first | refine WS_block ?_ | refine WS_skip ?_ | refine WS_ret ?_ | refine WS_exit ?_ | refine WS_label ?_)
      | (show WS _ _ _ (.cond _ _ _) _ _; first | refine WS_condT rfl iI ?_ | refine WS_condF rfl iI ?_ | refine WS_condH_t rfl (by assumption) ?_ | refine WS_condH_f rfl (by assumption) ?_ | (refine WS_cond rfl ?_ ?_ <;> intro hc <;> (try simp only [decide_eq_true_eq, decide_eq_false_iff_not, Bool.not_eq_eq_eq_not, Bool.not_true, Bool.not_false, Bool.and_eq_true, Bool.or_eq_true, bne_iff_ne, beq_iff_eq, ne_eq, Decidable.not_not] at hc) <;> (try (exfalso; first | contradiction | omega; done))))
      | refine WS_drawS (by kernel_rfl) ?_)
    refine out_r ?_
    refine lv_mark (fun h => by cases h) iI ?_
    refine lv_ret1 rfl (RV_tmp rfl) ⟨(v, ps), rfl, ?_⟩
    rw [star_assoc (pure' _)]
    refine Ent.pureI hy ?_
    ((try simp only [star_assoc, emp_star, star_emp]); (repeat' (first | exact Ent.last | refine Ent.take ?_ | refine Ent.nilT ?_ | refine Ent.takeR (by first | rfl | assumption | (simp; done)) ?_ | exact Ent.refl _)))
  · intro b c pre
    exact WS_pure (φ := False) fun h => h.elim
end Go.Proofs.YtapoehkdnglahabGreat

/- Timers in a heap, and timers in a list, in plain Lean: both answer alike. No program in sight. -/
namespace Go.Proofs.YtapoehkdnglahabGreat
set_option linter.unusedVariables false
/-- Something that is to happen. -/
structure Tm where
  at_ : UInt64
  id : Int
  what : Int
deriving DecidableEq
instance : Inhabited Tm := ⟨⟨0, 0, 0⟩⟩
/-- One comes ahead of another. -/
def Tm.ahead (t u : Tm) : Bool := decide (t.at_ < u.at_) || (decide (t.at_ = u.at_) && decide (t.id < u.id))
theorem ahead_iff {t u : Tm} : t.ahead u = true ↔ (t.at_.toNat < u.at_.toNat ∨ (t.at_.toNat = u.at_.toNat ∧ t.id < u.id)) := by
  simp [Tm.ahead, UInt64.lt_iff_toNat_lt, ← UInt64.toNat_inj]
theorem ahead_irrefl (t : Tm) : t.ahead t = false := by
  cases h : t.ahead t with
  | false => rfl
  | true => rw [ahead_iff] at h; omega
theorem ahead_trans {t u v : Tm} (h : t.ahead u = true) (h2 : u.ahead v = true) : t.ahead v = true := by
  rw [ahead_iff] at *; omega
theorem ahead_asymm {t u : Tm} (h : t.ahead u = true) : u.ahead t = false := by
  cases h2 : u.ahead t with
  | false => rfl
  | true => rw [ahead_iff] at *; omega
/-- Not behind. -/
theorem nahead_trans {t u v : Tm} (h : u.ahead t = false) (h2 : v.ahead u = false) : v.ahead t = false := by
  cases h3 : v.ahead t with
  | false => rfl
  | true =>
    have h' : ¬ u.ahead t = true := by simp [h]
    have h2' : ¬ v.ahead u = true := by simp [h2]
    rw [ahead_iff] at *; omega
/-- Element k. -/
def at' (l : List Tm) (k : Nat) : Tm := l[k]?.getD default
theorem at'_get {l : List Tm} {k : Nat} (h : k < l.length) : l[k]? = some (at' l k) := by simp [at', h]
def swp (l : List Tm) (i j : Nat) : List Tm := (l.set i (at' l j)).set j (at' l i)
@[simp] theorem swp_length (l : List Tm) (i j : Nat) : (swp l i j).length = l.length := by simp [swp]
theorem at'_set {l : List Tm} {i : Nat} (t : Tm) (h : i < l.length) (k : Nat) : at' (l.set i t) k = if k = i then t else at' l k := by
  unfold at'
  rw [List.getElem?_set]
  by_cases e : i = k
  · subst e; simp [h]
  · simp [e, Ne.symm e]
theorem at'_swp {l : List Tm} {i j : Nat} (hi : i < l.length) (hj : j < l.length) (k : Nat) : at' (swp l i j) k = if k = j then at' l i else if k = i then at' l j else at' l k := by
  unfold swp
  rw [at'_set _ (by simpa using hj), at'_set _ hi]
theorem swp_perm {l : List Tm} {i j : Nat} (hi : i < l.length) (hj : j < l.length) : (swp l i j).Perm l := by
  have e1 : at' l i = l[i] := by simp [at', hi]
  have e2 : at' l j = l[j] := by simp [at', hj]
  unfold swp
  rw [e1, e2]
  exact List.set_set_perm hi hj
/-- The way up. -/
def upF : Nat → List Tm → Nat → List Tm
  | 0, l, _ => l
  | f + 1, l, i => if 0 < i ∧ (at' l i).ahead (at' l ((i - 1) / 2)) = true then upF f (swp l i ((i - 1) / 2)) ((i - 1) / 2) else l
/-- Of i and its children the one that comes first. -/
def firstF (l : List Tm) (i : Nat) : Nat :=
  let a := if 2 * i + 1 < l.length ∧ (at' l (2 * i + 1)).ahead (at' l i) = true then 2 * i + 1 else i
  if 2 * i + 2 < l.length ∧ (at' l (2 * i + 2)).ahead (at' l a) = true then 2 * i + 2 else a
/-- The way down. -/
def downF : Nat → List Tm → Nat → List Tm
  | 0, l, _ => l
  | f + 1, l, i => if firstF l i = i then l else downF f (swp l i (firstF l i)) (firstF l i)
theorem firstF_lt {l : List Tm} {i : Nat} (h : i < l.length) : firstF l i < l.length := by
  unfold firstF; simp only; repeat' split
  all_goals omega
theorem firstF_cases (l : List Tm) (i : Nat) : firstF l i = i ∨ (firstF l i = 2 * i + 1 ∧ 2 * i + 1 < l.length) ∨ (firstF l i = 2 * i + 2 ∧ 2 * i + 2 < l.length) := by
  unfold firstF; simp only; repeat' split
  all_goals omega
theorem firstF_spec (l : List Tm) (i : Nat) : (∀ k, (k = 2 * i + 1 ∨ k = 2 * i + 2) → k < l.length → (at' l k).ahead (at' l (firstF l i)) = false) ∧ (at' l i).ahead (at' l (firstF l i)) = false ∧ (firstF l i ≠ i → (at' l (firstF l i)).ahead (at' l i) = true) := by
  unfold firstF
  by_cases h1 : 2 * i + 1 < l.length ∧ (at' l (2 * i + 1)).ahead (at' l i) = true
  · simp only [h1, and_self, if_true]
    by_cases h2 : 2 * i + 2 < l.length ∧ (at' l (2 * i + 2)).ahead (at' l (2 * i + 1)) = true
    · simp only [h2, and_self, if_true]
      refine ⟨fun k hk hl => ?_, ahead_asymm (ahead_trans h2.2 h1.2), fun _ => ahead_trans h2.2 h1.2⟩
      rcases hk with rfl | rfl
      · exact ahead_asymm h2.2
      · exact ahead_irrefl _
    · simp only [h2, if_false]
      refine ⟨fun k hk hl => ?_, ahead_asymm h1.2, fun _ => h1.2⟩
      rcases hk with rfl | rfl
      · exact ahead_irrefl _
      · cases hh : (at' l (2 * i + 2)).ahead (at' l (2 * i + 1)) with
        | false => rfl
        | true => exact absurd ⟨hl, hh⟩ h2
  · simp only [h1, if_false]
    by_cases h2 : 2 * i + 2 < l.length ∧ (at' l (2 * i + 2)).ahead (at' l i) = true
    · rw [if_pos h2]
      refine ⟨fun k hk hl => ?_, ahead_asymm h2.2, fun _ => h2.2⟩
      rcases hk with rfl | rfl
      · cases hh : (at' l (2 * i + 1)).ahead (at' l (2 * i + 2)) with
        | false => rfl
        | true => exact absurd ⟨hl, ahead_trans hh h2.2⟩ h1
      · exact ahead_irrefl _
    · simp only [h2, if_false]
      refine ⟨fun k hk hl => ?_, ahead_irrefl _, fun h => absurd rfl h⟩
      rcases hk with rfl | rfl
      · cases hh : (at' l (2 * i + 1)).ahead (at' l i) with
        | false => rfl
        | true => exact absurd ⟨hl, hh⟩ h1
      · cases hh : (at' l (2 * i + 2)).ahead (at' l i) with
        | false => rfl
        | true => exact absurd ⟨hl, hh⟩ h2
theorem upF_perm (f : Nat) : ∀ (l : List Tm) (i : Nat), i < l.length → (upF f l i).Perm l := by
  induction f with
  | zero => intro l i _; exact List.Perm.refl _
  | succ f ih =>
    intro l i hi
    unfold upF
    split
    · exact (ih _ _ (by simp; omega)).trans (swp_perm hi (by omega))
    · exact List.Perm.refl _
theorem downF_perm (f : Nat) : ∀ (l : List Tm) (i : Nat), i < l.length → (downF f l i).Perm l := by
  induction f with
  | zero => intro l i _; exact List.Perm.refl _
  | succ f ih =>
    intro l i hi
    unfold downF
    split
    · exact List.Perm.refl _
    · exact (ih _ _ (by simpa using firstF_lt hi)).trans (swp_perm hi (firstF_lt hi))
/-- No element is ahead of the one over it. -/
def Hp (l : List Tm) : Prop := ∀ k, 0 < k → k < l.length → (at' l k).ahead (at' l ((k - 1) / 2)) = false
/-- The same, but for i against the one over it; what is under i is not ahead of that. -/
def HpUp (l : List Tm) (i : Nat) : Prop := (∀ k, 0 < k → k < l.length → k ≠ i → (at' l k).ahead (at' l ((k - 1) / 2)) = false) ∧ (0 < i → ∀ k, 0 < k → k < l.length → (k - 1) / 2 = i → (at' l k).ahead (at' l ((i - 1) / 2)) = false)
/-- The same, but for i against the one over it and those under it. -/
def HpAt (l : List Tm) (i : Nat) : Prop := (∀ k, 0 < k → k < l.length → k ≠ i → (k - 1) / 2 ≠ i → (at' l k).ahead (at' l ((k - 1) / 2)) = false) ∧ (0 < i → ∀ k, 0 < k → k < l.length → (k - 1) / 2 = i → (at' l k).ahead (at' l ((i - 1) / 2)) = false)
theorem Hp.up {l : List Tm} (h : Hp l) (i : Nat) (hi : i < l.length) : HpUp l i :=
  ⟨fun k h1 h2 _ => h k h1 h2, fun h0 k h1 h2 h3 => nahead_trans (h i h0 hi) (h3 ▸ h k h1 h2)⟩
theorem upF_hp (f : Nat) : ∀ (l : List Tm) (i : Nat), i < l.length → i ≤ f → HpUp l i → Hp (upF f l i) := by
  induction f with
  | zero =>
    intro l i hi hf h k h1 h2
    exact h.1 k h1 h2 (by omega)
  | succ f ih =>
    intro l i hi hf h
    unfold upF
    split
    · rename_i hc
      obtain ⟨h0, ha⟩ := hc
      have hp : (i - 1) / 2 < l.length := by omega
      have hpi : (i - 1) / 2 < i := by omega
      refine ih _ _ (by simpa using hp) (by omega) ⟨fun k h1 h2 hne => ?_, fun hp0 k h1 h2 hk => ?_⟩
      · simp only [swp_length] at h2
        rw [at'_swp hi hp, at'_swp hi hp, if_neg hne]
        by_cases hki : k = i
        · subst hki
          rw [if_pos rfl, if_pos rfl]; exact ahead_asymm ha
        · rw [if_neg hki]
          by_cases hkp : (k - 1) / 2 = (i - 1) / 2
          · rw [if_pos hkp]
            have := h.1 k h1 h2 hki
            rw [hkp] at this
            exact nahead_trans (ahead_asymm ha) this
          · rw [if_neg hkp]
            by_cases hkp2 : (k - 1) / 2 = i
            · rw [if_pos hkp2]
              exact h.2 h0 k h1 h2 hkp2
            · rw [if_neg hkp2]
              exact h.1 k h1 h2 hki
      · simp only [swp_length] at h2
        have hq := h.1 ((i - 1) / 2) hp0 hp (by omega)
        rw [at'_swp hi hp, at'_swp hi hp, if_neg (by omega), if_neg (c := ((i - 1) / 2 - 1) / 2 = (i - 1) / 2) (by omega), if_neg (c := ((i - 1) / 2 - 1) / 2 = i) (by omega)]
        by_cases hki : k = i
        · subst hki; rw [if_pos rfl]; exact hq
        · rw [if_neg hki]
          have := h.1 k h1 h2 hki
          rw [hk] at this
          exact nahead_trans hq this
    · rename_i hc
      intro k h1 h2
      by_cases hki : k = i
      · subst hki
        cases hh : (at' l k).ahead (at' l ((k - 1) / 2)) with
        | false => rfl
        | true => exact absurd ⟨h1, hh⟩ hc
      · exact h.1 k h1 h2 hki
/-- Behind the way down all is well but for i against the one over it; if it moved, all is well. -/
theorem downF_hp (f : Nat) : ∀ (l : List Tm) (i : Nat), i < l.length → l.length ≤ f + i → HpAt l i → ((0 < i → (at' l i).ahead (at' l ((i - 1) / 2)) = false) → Hp (downF f l i)) ∧ HpUp (downF f l i) i := by
  induction f with
  | zero => intro l i hi hf h; omega
  | succ f ih =>
    intro l i hi hf h
    unfold downF
    split
    · rename_i hc
      obtain ⟨s1, _, _⟩ := firstF_spec l i
      rw [hc] at s1
      have hall : ∀ k, 0 < k → k < l.length → k ≠ i → (at' l k).ahead (at' l ((k - 1) / 2)) = false := fun k h1 h2 h3 => by
        by_cases hk : (k - 1) / 2 = i
        · rw [hk]; exact s1 k (by omega) h2
        · exact h.1 k h1 h2 h3 hk
      refine ⟨fun hov k h1 h2 => ?_, hall, h.2⟩
      by_cases hk : k = i
      · subst hk; exact hov h1
      · exact hall k h1 h2 hk
    · rename_i hc
      obtain ⟨s1, s2, s3⟩ := firstF_spec l i
      have s3 := s3 hc
      have hfl := firstF_lt hi
      have hcs := firstF_cases l i
      generalize firstF l i = j at *
      have hji : i < j := by omega
      have hpj : (j - 1) / 2 = i := by omega
      have hat : HpAt (swp l i j) j := by
        refine ⟨fun k h1 h2 h3 h4 => ?_, fun h0 k h1 h2 hk => ?_⟩
        · simp only [swp_length] at h2
          rw [at'_swp hi hfl, at'_swp hi hfl, if_neg h3, if_neg h4]
          by_cases hki : k = i
          · subst hki
            rw [if_pos rfl, if_neg (by omega)]
            exact h.2 h1 j (by omega) hfl hpj
          · rw [if_neg hki]
            by_cases hkp : (k - 1) / 2 = i
            · rw [if_pos hkp]; exact s1 k (by omega) h2
            · rw [if_neg hkp]; exact h.1 k h1 h2 hki hkp
        · simp only [swp_length] at h2
          rw [at'_swp hi hfl, at'_swp hi hfl, if_neg (by omega), if_neg (by omega), if_neg (by omega), if_pos hpj]
          have := h.1 k h1 h2 (by omega) (by omega)
          rwa [hk] at this
      have hov : 0 < j → (at' (swp l i j) j).ahead (at' (swp l i j) ((j - 1) / 2)) = false := fun _ => by
        rw [at'_swp hi hfl, at'_swp hi hfl, if_pos rfl, if_neg (by omega), if_pos hpj]
        exact ahead_asymm s3
      obtain ⟨g1, _⟩ := ih (swp l i j) j (by simpa using hfl) (by simp; omega) hat
      have hH := g1 hov
      refine ⟨fun _ => hH, hH.up i ?_⟩
      have := (downF_perm f (swp l i j) j (by simpa using hfl)).length_eq
      rw [this]; simpa using hi
theorem Hp.min {l : List Tm} (h : Hp l) : ∀ k, k < l.length → (at' l k).ahead (at' l 0) = false := by
  intro k
  induction k using Nat.strongRecOn with
  | _ k ih =>
    intro hk
    by_cases h0 : k = 0
    · subst h0; exact ahead_irrefl _
    · exact nahead_trans (ih ((k - 1) / 2) (by omega) (by omega)) (h k (by omega) hk)
/-- One more. -/
def addF (l : List Tm) (t : Tm) : List Tm := upF l.length (l ++ [t]) l.length
theorem addF_perm (l : List Tm) (t : Tm) : (addF l t).Perm (l ++ [t]) := upF_perm _ _ _ (by simp)
theorem addF_hp {l : List Tm} (t : Tm) (h : Hp l) : Hp (addF l t) := by
  have e : ∀ k, k < l.length → at' (l ++ [t]) k = at' l k := fun k hk => by simp [at', List.getElem?_append, hk]
  refine upF_hp _ _ _ (by simp) (Nat.le_refl _) ⟨fun k h1 h2 h3 => ?_, fun h0 k h1 h2 h3 => ?_⟩
  · simp only [List.length_append, List.length_cons, List.length_nil] at h2
    rw [e k (by omega), e _ (by omega)]
    exact h k h1 (by omega)
  · simp only [List.length_append, List.length_cons, List.length_nil] at h2
    omega
/-- One less. -/
def cutF (l : List Tm) (i : Nat) : List Tm := (swp l i (l.length - 1)).take (l.length - 1)
def remF (l : List Tm) (i : Nat) : List Tm := if i < l.length - 1 then upF i (downF l.length (cutF l i) i) i else cutF l i
theorem cutF_length {l : List Tm} {i : Nat} : (cutF l i).length = l.length - 1 := by simp [cutF]
theorem cutF_perm {l : List Tm} {i : Nat} (hi : i < l.length) : (at' l i :: cutF l i).Perm l := by
  have hp := swp_perm hi (show l.length - 1 < l.length by omega)
  refine List.Perm.trans ?_ hp
  have h1 : (swp l i (l.length - 1)).drop (l.length - 1) = [at' l i] := by
    apply List.ext_getElem?
    intro k
    rw [List.getElem?_drop]
    by_cases hk : k = 0
    · subst hk
      rw [at'_get (by simp; omega), at'_swp hi (by omega)]
      simp
    · rw [List.getElem?_eq_none (by simp; omega), List.getElem?_eq_none (by simp; omega)]
  have h2 := List.take_append_drop (l.length - 1) (swp l i (l.length - 1))
  rw [h1] at h2
  rw [← h2, cutF]
  exact (List.perm_append_singleton _ _).symm
theorem remF_perm {l : List Tm} {i : Nat} (hi : i < l.length) : (at' l i :: remF l i).Perm l := by
  unfold remF
  split
  · refine List.Perm.trans (List.Perm.cons _ ?_) (cutF_perm hi)
    have hd := downF_perm l.length (cutF l i) i (by rw [cutF_length]; omega)
    exact (upF_perm _ _ _ (by rw [hd.length_eq, cutF_length]; omega)).trans hd
  · exact cutF_perm hi
theorem at'_cutF {l : List Tm} {i : Nat} (hi : i < l.length) {k : Nat} (hk : k < l.length - 1) : at' (cutF l i) k = if k = i then at' l (l.length - 1) else at' l k := by
  have : at' (cutF l i) k = at' (swp l i (l.length - 1)) k := by simp only [at', cutF, List.getElem?_take, if_pos hk]
  rw [this, at'_swp hi (by omega), if_neg (by omega)]
theorem remF_hp {l : List Tm} {i : Nat} (hi : i < l.length) (h : Hp l) : Hp (remF l i) := by
  unfold remF
  split
  · rename_i hlt
    have hl := @cutF_length l i
    have hat : HpAt (cutF l i) i := by
      refine ⟨fun k h1 h2 h3 h4 => ?_, fun h0 k h1 h2 hk => ?_⟩
      · rw [hl] at h2
        rw [at'_cutF hi h2, at'_cutF hi (by omega), if_neg h3, if_neg h4]
        exact h k h1 (by omega)
      · rw [hl] at h2
        rw [at'_cutF hi h2, at'_cutF hi (by omega), if_neg (by omega), if_neg (by omega)]
        have e1 := h k h1 (by omega)
        rw [hk] at e1
        exact nahead_trans (h i h0 (by omega)) e1
    obtain ⟨_, g⟩ := downF_hp l.length (cutF l i) i (by rw [hl]; omega) (by rw [hl]; omega) hat
    have hd := (downF_perm l.length (cutF l i) i (by rw [hl]; omega)).length_eq
    exact upF_hp i _ i (by rw [hd, hl]; omega) (Nat.le_refl _) g
  · rename_i hlt
    intro k h1 h2
    rw [cutF_length] at h2
    rw [at'_cutF hi h2, at'_cutF hi (by omega), if_neg (by omega), if_neg (by omega)]
    exact h k h1 (by omega)
end Go.Proofs.YtapoehkdnglahabGreat

/- A heap of timers against a list of timers: each call answers alike; and where each number stands. Plain Lean. -/
namespace Go.Proofs.YtapoehkdnglahabGreat
set_option linter.unusedVariables false
/-- No two timers have the same number. -/
def IdN (l : List Tm) : Prop := (l.map (·.id)).Nodup
theorem IdN.perm {l L : List Tm} (h : IdN l) (p : l.Perm L) : IdN L := (p.map _).nodup_iff.1 h
theorem IdN.inj {l : List Tm} (h : IdN l) {a b : Nat} (ha : a < l.length) (hb : b < l.length) (e : (at' l a).id = (at' l b).id) : a = b := by
  have h' : (l.map (·.id)).Nodup := h
  exact (List.getElem_inj (xs := l.map (·.id)) (h₀ := by simpa using ha) (h₁ := by simpa using hb) h').1 (by simpa [at', ha, hb] using e)
theorem mem_at' {l : List Tm} {t : Tm} : t ∈ l ↔ ∃ k, k < l.length ∧ at' l k = t := by
  rw [List.mem_iff_getElem]
  constructor
  · rintro ⟨k, hk, rfl⟩; exact ⟨k, hk, by simp [at', hk]⟩
  · rintro ⟨k, hk, rfl⟩; exact ⟨k, hk, by simp [at', hk]⟩
theorem at'_mem {l : List Tm} {k : Nat} (h : k < l.length) : at' l k ∈ l := mem_at'.2 ⟨k, h, rfl⟩
/-- The map tells where each number stands. -/
def PlOk (l : List Tm) (m : List (Int × Int)) : Prop := KN m ∧ ∀ id v, mget m id = some v ↔ ∃ k : Nat, k < l.length ∧ (at' l k).id = id ∧ v = (k : Int)
theorem PlOk.nil : PlOk [] [] := ⟨KN.nil, fun id v => by simp [mget_nil]⟩
theorem PlOk.none {l : List Tm} {m : List (Int × Int)} (h : PlOk l m) {id : Int} (h0 : mget m id = none) : ∀ t ∈ l, t.id ≠ id := by
  intro t ht e
  obtain ⟨k, hk, rfl⟩ := mem_at'.1 ht
  have := (h.2 id k).2 ⟨k, hk, e, rfl⟩
  rw [h0] at this; cases this
theorem PlOk.swap {l : List Tm} {m : List (Int × Int)} (h : PlOk l m) (hn : IdN l) {i j : Nat} (hi : i < l.length) (hj : j < l.length) :
    PlOk (swp l i j) (mset (mset m (at' (swp l i j) i).id (i : Int)) (at' (swp l i j) j).id (j : Int)) := by
  have hn' : IdN (swp l i j) := hn.perm (swp_perm hi hj).symm
  refine ⟨(h.1.mset _ _).mset _ _, fun id v => ?_⟩
  rw [mget_mset, mget_mset]
  have hj' : j < (swp l i j).length := by simpa using hj
  have hi' : i < (swp l i j).length := by simpa using hi
  by_cases e1 : (at' (swp l i j) j).id = id
  · rw [if_pos e1]
    constructor
    · intro e; cases e; exact ⟨j, hj', e1, rfl⟩
    · rintro ⟨k, hk, e, rfl⟩
      rw [hn'.inj hk hj' (e.trans e1.symm)]
  · rw [if_neg e1]
    by_cases e2 : (at' (swp l i j) i).id = id
    · rw [if_pos e2]
      constructor
      · intro e; cases e; exact ⟨i, hi', e2, rfl⟩
      · rintro ⟨k, hk, e, rfl⟩
        rw [hn'.inj hk hi' (e.trans e2.symm)]
    · rw [if_neg e2, h.2 id v]
      have a1 := at'_swp hi hj j
      have a2 := at'_swp hi hj i
      rw [if_pos rfl] at a1
      constructor
      · rintro ⟨k, hk, e, rfl⟩
        have k1 : k ≠ i := by rintro rfl; rw [a1] at e1; exact e1 e
        have k2 : k ≠ j := by
          rintro rfl
          by_cases hij : i = k
          · subst hij; rw [a1] at e1; exact e1 e
          · rw [if_neg hij, if_pos rfl] at a2; rw [a2] at e2; exact e2 e
        exact ⟨k, by simpa using hk, by rw [at'_swp hi hj, if_neg k2, if_neg k1]; exact e, rfl⟩
      · rintro ⟨k, hk, e, rfl⟩
        have k1 : k ≠ i := by rintro rfl; exact e2 e
        have k2 : k ≠ j := by rintro rfl; exact e1 e
        rw [at'_swp hi hj, if_neg k2, if_neg k1] at e
        exact ⟨k, by simpa using hk, e, rfl⟩
theorem at'_append {l : List Tm} (t : Tm) (k : Nat) : at' (l ++ [t]) k = if k = l.length then t else at' l k := by
  unfold at'
  rw [List.getElem?_append]
  split
  · rw [if_neg (by omega)]
  · split
    · rename_i h; subst h; simp
    · rw [List.getElem?_eq_none (by simp; omega), List.getElem?_eq_none (by omega)]
theorem PlOk.snoc {l : List Tm} {m : List (Int × Int)} (h : PlOk l m) (t : Tm) (ht : ∀ u ∈ l, u.id ≠ t.id) : PlOk (l ++ [t]) (mset m t.id (l.length : Int)) := by
  refine ⟨h.1.mset _ _, fun id v => ?_⟩
  rw [mget_mset]
  by_cases e : t.id = id
  · rw [if_pos e]
    constructor
    · intro e2; cases e2; exact ⟨l.length, by simp, by rw [at'_append, if_pos rfl]; exact e, rfl⟩
    · rintro ⟨k, hk, e2, rfl⟩
      rw [at'_append] at e2
      split at e2
      · rename_i hk2; rw [hk2]
      · simp at hk
        exact absurd (e2.trans e.symm) (ht _ (at'_mem (by omega)))
  · rw [if_neg e, h.2]
    constructor
    · rintro ⟨k, hk, e2, rfl⟩; exact ⟨k, by simp; omega, by rw [at'_append, if_neg (by omega)]; exact e2, rfl⟩
    · rintro ⟨k, hk, e2, rfl⟩
      rw [at'_append] at e2
      split at e2
      · exact absurd e2 e
      · simp at hk; exact ⟨k, by omega, e2, rfl⟩
/-! ### The list's answers -/
/-- The place of the first timer with a number. -/
def findT (l : List Tm) (id : Int) : Option Nat := l.findIdx? (fun t => decide (t.id = id))
/-- The place of the one that is due first, among the first n. -/
def bestN (L : List Tm) (now : UInt64) : Nat → Option Nat
  | 0 => none
  | n + 1 => match bestN L now n with
    | none => if (at' L n).at_ ≤ now then some n else none
    | some b => if (at' L n).at_ ≤ now ∧ (at' L n).at_ < (at' L b).at_ then some n else some b
theorem bestN_none {L : List Tm} {now : UInt64} : ∀ {n : Nat}, bestN L now n = none → ∀ j, j < n → now < (at' L j).at_
  | 0, _, j, hj => absurd hj (Nat.not_lt_zero _)
  | n + 1, h, j, hj => by
    simp only [bestN] at h
    cases hb : bestN L now n with
    | none =>
      rw [hb] at h
      simp only at h
      split at h
      · cases h
      · rename_i hc
        by_cases e : j = n
        · subst e; simpa [UInt64.lt_iff_toNat_lt, UInt64.le_iff_toNat_le] using hc
        · exact bestN_none hb j (by omega)
    | some b =>
      rw [hb] at h
      simp only at h
      split at h <;> cases h
theorem bestN_some {L : List Tm} {now : UInt64} : ∀ {n b : Nat}, bestN L now n = some b → b < n ∧ (at' L b).at_.toNat ≤ now.toNat ∧ (∀ j, j < n → (at' L b).at_.toNat ≤ (at' L j).at_.toNat) ∧ ∀ j, j < b → (at' L b).at_.toNat < (at' L j).at_.toNat
  | 0, b, h => by cases h
  | n + 1, b, h => by
    simp only [bestN] at h
    cases hb : bestN L now n with
    | none =>
      rw [hb] at h
      simp only at h
      split at h
      · rename_i hc
        obtain rfl : n = b := by simpa using h
        have h1 := bestN_none hb
        rw [UInt64.le_iff_toNat_le] at hc
        refine ⟨by omega, hc, fun j hj => ?_, fun j hj => ?_⟩
        · by_cases e : j = n
          · subst e; exact Nat.le_refl _
          · have := h1 j (by omega); rw [UInt64.lt_iff_toNat_lt] at this; omega
        · have := h1 j (by omega); rw [UInt64.lt_iff_toNat_lt] at this; omega
      · cases h
    | some c =>
      rw [hb] at h
      obtain ⟨g1, g2, g3, g4⟩ := bestN_some hb
      simp only [UInt64.lt_iff_toNat_lt, UInt64.le_iff_toNat_le] at h
      split at h
      · rename_i hc
        obtain rfl : n = b := by simpa using h
        refine ⟨by omega, hc.1, fun j hj => ?_, fun j hj => ?_⟩
        · by_cases e : j = n
          · subst e; exact Nat.le_refl _
          · have := g3 j (by omega); omega
        · have := g3 j (by omega); omega
      · rename_i hc
        cases h
        refine ⟨by omega, g2, fun j hj => ?_, g4⟩
        by_cases e : j = n
        · subst e; omega
        · exact g3 j (by omega)
/-! ### Both -/
/-- The heap l and the list L hold the same timers. -/
structure TR (l L : List Tm) (last : Int) : Prop where
  perm : l.Perm L
  hp : Hp l
  rising : (L.map (·.id)).Pairwise (· < ·)
  bound : ∀ t ∈ L, 1 ≤ t.id ∧ t.id ≤ last
theorem TR.nil : TR [] [] 0 := ⟨List.Perm.refl _, fun k _ h => absurd h (Nat.not_lt_zero _), List.Pairwise.nil, fun t h => by cases h⟩
theorem TR.idN {l L : List Tm} {last : Int} (h : TR l L last) : IdN L := h.rising.imp (fun h => by omega)
theorem TR.add {l L : List Tm} {last : Int} (h : TR l L last) (hl : 0 ≤ last) (t : Tm) (ht : t.id = last + 1) : TR (addF l t) (L ++ [t]) (last + 1) := by
  refine ⟨(addF_perm l t).trans (h.perm.append_right [t]), addF_hp t h.hp, ?_, fun u hu => ?_⟩
  · rw [List.map_append]
    refine List.pairwise_append.2 ⟨h.rising, by simp, fun a ha b hb => ?_⟩
    obtain ⟨u, hu, rfl⟩ := List.mem_map.1 ha
    have := h.bound u hu
    simp at hb; subst hb; omega
  · rcases List.mem_append.1 hu with hu | hu
    · have := h.bound u hu; omega
    · simp at hu; subst hu; omega
theorem erase_perm {L : List Tm} {k : Nat} (h : k < L.length) : (at' L k :: L.eraseIdx k).Perm L := by
  have e : at' L k = L[k] := by simp [at', h]
  rw [e]
  clear e
  induction L generalizing k with
  | nil => simp at h
  | cons a L ih =>
    cases k with
    | zero => simp
    | succ k =>
      have := ih (k := k) (by simpa using h)
      simp only [List.getElem_cons_succ, List.eraseIdx_cons_succ]
      exact (List.Perm.swap _ _ _).trans (this.cons a)
theorem TR.rem {l L : List Tm} {last : Int} (h : TR l L last) {i k : Nat} (hi : i < l.length) (hk : k < L.length) (e : (at' l i).id = (at' L k).id) : at' l i = at' L k ∧ TR (remF l i) (L.eraseIdx k) last := by
  have e1 : at' l i = at' L k := by
    have h1 := h.perm.mem_iff.1 (at'_mem hi)
    obtain ⟨j, hj, hje⟩ := mem_at'.1 h1
    rw [← hje] at e ⊢
    rw [h.idN.inj hj hk e]
  refine ⟨e1, ?_, remF_hp hi h.hp, ?_, fun t ht => h.bound t (List.mem_of_mem_eraseIdx ht)⟩
  · have := (remF_perm hi).trans (h.perm.trans (erase_perm hk).symm)
    rw [e1] at this
    exact this.cons_inv
  · exact h.rising.sublist ((List.eraseIdx_sublist L k).map _)
/-- What is due first stands at the top. -/
theorem TR.due {l L : List Tm} {last : Int} (h : TR l L last) {now : UInt64} (h0 : 0 < l.length) (h1 : ¬ now < (at' l 0).at_) : ∃ b, bestN L now L.length = some b ∧ b < L.length ∧ at' l 0 = at' L b ∧ TR (remF l 0) (L.eraseIdx b) last := by
  obtain ⟨j, hj, hje⟩ := mem_at'.1 (h.perm.mem_iff.1 (at'_mem h0))
  cases hb : bestN L now L.length with
  | none =>
    have := bestN_none hb j hj
    rw [hje] at this
    exact absurd this h1
  | some b =>
    obtain ⟨g1, g2, g3, g4⟩ := bestN_some hb
    obtain ⟨i, hi, hie⟩ := mem_at'.1 (h.perm.mem_iff.2 (at'_mem g1))
    have h2 := h.hp.min i hi
    have h3 : ¬ (at' l i).ahead (at' l 0) = true := by simp [h2]
    rw [ahead_iff, hie, ← hje] at h3
    have h4 := g3 j hj
    have hjb : j = b := by
      rcases Nat.lt_trichotomy j b with hlt | he | hgt
      · have := g4 j hlt; omega
      · exact he
      · have := List.pairwise_iff_getElem.1 h.rising b j (by simpa using g1) (by simpa using hj) hgt
        simp only [List.getElem_map] at this
        have e1 : at' L b = L[b] := by simp [at', g1]
        have e2 : at' L j = L[j] := by simp [at', hj]
        rw [e1, e2] at h3
        rw [e1, e2] at h4
        omega
    subst hjb
    have hr := h.rem h0 g1 (by rw [hje])
    exact ⟨j, rfl, g1, hr.1, hr.2⟩
end Go.Proofs.YtapoehkdnglahabGreat

/- What the functions of package timers return, by a walk: the heap. -/
namespace Go.Proofs.YtapoehkdnglahabGreat
open Go.RowKit
set_option linter.unusedVariables false
set_option linter.unusedSimpArgs false
attribute [local irreducible] WS LS OpQ OpT OpH OpTQ Spec SpecQ cel
variable (w0 : World)
/-- A timer's cells. -/
def tmC (t : Tm) : List Value := [u64 t.at_, .int .i64 t.id, .int .i64 t.what]
instance : FixLen tmC 3 := ⟨fun _ => rfl⟩
/-- A heap at block b: its slice v, its map at block r. -/
abbrev heapP (b : Nat) (v : Value) (r : Nat) (last : Int) (l : List Tm) (m : List (Int × Int)) : HProp :=
  cel b 222 [v, .map (some r), .int .i64 last] * (rows 292 3 tmC v l * mp i64 i64 r m)
end Go.Proofs.YtapoehkdnglahabGreat

/- What package timers hands out, by a walk. -/
namespace Go.Proofs.YtapoehkdnglahabGreat
open Go.RowKit
set_option linter.unusedVariables false
set_option linter.unusedSimpArgs false
attribute [local irreducible] WS LS OpQ OpT OpH OpTQ Spec SpecQ cel
variable (w0 : World)
/-- A heap that holds l. -/
def heapQ (b r : Nat) (last : Int) (l : List Tm) : HProp := hex fun v => hex fun m => pure' (PlOk l m) * heapP b v r last l m
theorem Ent.heapQ {b r : Nat} {last : Int} {l : List Tm} {v : Value} {m : List (Int × Int)} {H F : HProp} (hm : PlOk l m) (h : Ent H (heapP b v r last l m * F)) : Ent H (heapQ b r last l * F) :=
  h.trans ((Ent.pure_in hm).trans ((Ent.of_eq (star_assoc _ _ _).symm).trans ((Ent.hex_in (p := fun m => pure' (PlOk l m) * heapP b v r last l m) m).trans (Ent.hex_in (p := fun v => hex fun m => pure' (PlOk l m) * heapP b v r last l m) v))))
theorem IdN.cut {l : List Tm} {i : Nat} (hn : IdN l) (hi : i < l.length) : IdN (cutF l i) :=
  (hn.perm (swp_perm hi (show l.length - 1 < l.length by omega)).symm).sublist ((List.take_sublist _ _).map _)
end Go.Proofs.YtapoehkdnglahabGreat

/- What package timers and mesh's Timers hand out, by a walk. -/
namespace Go.Proofs.YtapoehkdnglahabGreat
open Go.RowKit
set_option linter.unusedVariables false
set_option linter.unusedSimpArgs false
attribute [local irreducible] WS LS OpQ OpT OpH OpTQ Spec SpecQ cel
variable (w0 : World)
set_option maxRecDepth 100000 in
theorem hnew_spec : Spec Tryz.prog w0 57 [] emp (fun x : Nat × Nat => ptr x.1 0) (fun x => heapQ x.1 x.2 0 []) := by
  refine Spec.enter Tryz.func57 rfl Tryz.ntmps57 rfl fun G => ?_
  simp only [argE]
  repeat' (first
    | (refine WS_seqK ?_; intro K hK)
    | (refine hK _ ?_; clear hK K)
    | (with_reducible (first | refine thenS_n ?_ | refine thenS_e ?_ | refine blockS_n ?_ | refine blockS_e ?_ | refine blockS_o rfl ?_ | refine thenS_r ?_ | refine blockS_r ?_ | refine use_K (by assumption) ?_))
    | refine WS_region ?_
    | refine LS_nil ?_
    | ((refine' LQ ?h rfl ?_); case h => intro F'; first | exact Q_assign rfl | exact Q_build iI iI rfl rfl | exact Q_buildA iI iI iI rfl rfl)
    | ((refine' LS_h ?h rfl ?_); (case h => first | exact H_box rfl | exact H_boxO rfl iI | exact H_box1 rfl (by first | rfl | assumption)); intro g)
    | (first | refine WS_block ?_ | refine WS_skip ?_ | refine WS_ret ?_ | refine WS_exit ?_ | refine WS_label ?_)
    | (show WS _ _ _ (.cond _ _ _) _ _; first | refine WS_condT rfl iI ?_ | refine WS_condF rfl iI ?_ | refine WS_condH_t rfl (by assumption) ?_ | refine WS_condH_f rfl (by assumption) ?_ | (refine WS_cond rfl ?_ ?_ <;> intro hc <;> (try simp only [decide_eq_true_eq, decide_eq_false_iff_not, Bool.not_eq_eq_eq_not, Bool.not_true, Bool.not_false, Bool.and_eq_true, Bool.or_eq_true, bne_iff_ne, beq_iff_eq, ne_eq, Decidable.not_not] at hc) <;> (try (exfalso; first | contradiction | omega; done))))
    | (refine LS_h (H_makeMap i64 i64) rfl ?_; intro r))
  refine ret_1 (.inl rfl) rfl (RV_tmp rfl) ⟨(g, r), rfl, ?_⟩
  exact Ent.heapQ (v := .slice none 0 0) PlOk.nil (by ((try simp only [star_assoc, emp_star, star_emp]); (repeat' (first | exact Ent.last | refine Ent.take ?_ | refine Ent.nilT ?_ | refine Ent.takeR (by first | rfl | assumption | (simp; done)) ?_ | exact Ent.refl _))))
end Go.Proofs.YtapoehkdnglahabGreat

/- What wire.Records returns, by a walk. -/
namespace Go.Proofs.YtapoehkdnglahabGreat
open Go.RowKit
set_option linter.unusedVariables false
set_option linter.unusedSimpArgs false
attribute [local irreducible] WS LS OpQ OpT OpH OpTQ Spec SpecQ cel
variable (w0 : World)
def recsB (l : List Rec) : List UInt8 := l.flatMap Rec.bytes
set_option maxRecDepth 100000 in
set_option maxHeartbeats 4000000 in
theorem wrecords_spec (l : List Rec) (hl : l.length ≤ 10000) (v : Value) (X : HProp) [hX : Rdr w0 X v Rec 3 Rec.cells l] : Spec Tryz.prog w0 116 [v] X (fun m : Value => m) (fun m => rows 5 1 byteC m (recsB l) * X) := by
  refine Spec.enter Tryz.func116 rfl Tryz.ntmps116 rfl fun G => ?_
  simp only [argE]
  repeat' (first
    | (refine WS_seqK ?_; intro K hK)
    | (refine hK _ ?_; clear hK K)
    | (with_reducible (first | refine thenS_n ?_ | refine thenS_e ?_ | refine blockS_n ?_ | refine blockS_e ?_ | refine blockS_o rfl ?_ | refine thenS_r ?_ | refine blockS_r ?_ | refine use_K (by assumption) ?_))
    | refine WS_region ?_
    | refine LS_nil ?_
    | ((refine' LQ ?h rfl ?_); case h => intro F'; first | exact Q_move rfl | exact Q_assign rfl | exact Q_load rfl iI iI rfl | exact Q_bin_t rfl rfl iI (by first | assumption | omega | decide) | exact Q_bin_f rfl rfl iI (by first | assumption | omega | decide) | exact Q_bin_nt rfl rfl iI (by first | assumption | omega | decide) | exact Q_bin_nf rfl rfl iI (by first | assumption | omega | decide) | exact Q_addI rfl rfl (by omega) | exact Q_subI rfl rfl (by omega) | exact Q_loadA rfl iI iI rfl | exact Q_len rfl iI | exact Q_lenS rfl iI | exact Q_index rfl rfl iI iI iI iI (by first | assumption | omega | (simp [be_length] <;> omega)) | exact Q_loadR rfl iI iI iI (by assumption) rfl | exact Q_loadR rfl iI iI iI rfl rfl | exact Q_loadRA rfl iI iI iI (by assumption) | exact Q_lenR rfl iI iI | exact Q_lenM rfl iI iI | exact Q_addS rfl rfl (by first | omega | (simp [be_length] <;> omega)) | exact Q_indexV rfl rfl iI iI iI (by first | assumption | omega) | exact Q_quoI rfl rfl (by omega) | exact Q_remI rfl rfl (by omega) | exact Q_mulI rfl rfl (by omega))
    | ((first | refine LS_binS rfl rfl iI rfl ?_ ?_ | refine LS_binN rfl rfl iI rfl ?_ ?_) <;> intro hc)
    | ((refine' LQ ?h rfl ?_); case h => intro F'; first | exact Q_bin rfl rfl iI)
    | ((refine' LS_h ?h rfl ?_); (case h => first | exact H_alloc iI | exact H_appendD rfl rfl iI iI rfl iI iI byteC_one (by first | omega | (simp [be_length] <;> omega)) rfl | exact H_appendB rfl rfl iI iI iI rfl rfl iI (by first | omega | (simp [be_length] <;> omega)) rfl | exact H_appendS rfl rfl iI rfl iI iI (by first | omega | (simp [be_length] <;> omega)) rfl); intro g)
    | ((refine' LS_h0 ?h ?_); (case h => first | exact H_storeO rfl rfl iI iI iI rfl | exact H_storeAO rfl rfl iI iI iI rfl | exact H_store8 rfl rfl iI iI rfl iI (by first | assumption | omega | (simp [be_length] <;> omega)) | exact H_storeRA _ rfl rfl rfl iI iI iI rfl rfl (by first | assumption | omega | (simp [be_length] <;> omega)) | exact H_storeR _ rfl rfl iI iI iI rfl (by assumption) rfl | exact H_store rfl rfl iI (by first | rfl | assumption) iI rfl | exact H_storeA rfl rfl iI iI (by first | rfl | (simp only [List.all_cons, List.all_nil, *]; rfl)) rfl); intro g)
    | (first | refine WS_block ?_ | refine WS_skip ?_ | refine WS_ret ?_ | refine WS_exit ?_ | refine WS_label ?_)
    | (show WS _ _ _ (.cond _ _ _) _ _; first | refine WS_condT rfl iI ?_ | refine WS_condF rfl iI ?_ | refine WS_condH_t rfl (by assumption) ?_ | refine WS_condH_f rfl (by assumption) ?_ | (refine WS_cond rfl ?_ ?_ <;> intro hc <;> (try simp only [decide_eq_true_eq, decide_eq_false_iff_not, Bool.not_eq_eq_eq_not, Bool.not_true, Bool.not_false, Bool.and_eq_true, Bool.or_eq_true, bne_iff_ne, beq_iff_eq, ne_eq, Decidable.not_not] at hc) <;> (try (exfalso; first | contradiction | omega; done)))))
  refine WS_ent (Ent.nil _ 5 1 byteC none) ?_
  refine WS_loop (fun m τ => ∃ (j : Nat) (u : Value), j + m = l.length ∧ τ = ⟨[(6, v), (7, .int .i64 (l.length : Int)), (8, .int .i64 (j : Int)), (3, u)], [], rows 5 1 byteC u (recsB (l.take j)) * (X * G)⟩) ?_ ?_
  · exact ⟨l.length, _, ⟨0, _, by omega, rfl⟩, ⟨rfl, rfl, rfl, rfl, trivial⟩, rfl, by ((try simp only [star_assoc, emp_star, star_emp]); (repeat' (first | exact Ent.last | refine Ent.take ?_ | refine Ent.nilT ?_ | refine Ent.takeR (by first | rfl | assumption | (simp; done)) ?_ | exact Ent.refl _)))⟩
  · rintro m τ ⟨j, u, hjm, rfl⟩
    rcases Nat.lt_or_ge j l.length with hlt | hge
    · obtain ⟨z, hz⟩ : ∃ z, l[j]? = some z := ⟨_, List.getElem?_eq_getElem hlt⟩
      have hb : (recsB (l.take j)).length ≤ 130000 := by
        have : ∀ l : List Rec, (recsB l).length = 13 * l.length := fun l => by
          induction l with
          | nil => rfl
          | cons x l ih => simp only [recsB, List.flatMap_cons, List.length_append, Rec.bytes_length, List.length_cons] at ih ⊢; omega
        rw [this]; simp; omega
      have hzl := Rec.bytes_length z
      have hrec := wrecord_spec w0 z
      repeat' (first
        | (refine WS_seqK ?_; intro K hK)
        | (refine hK _ ?_; clear hK K)
        | (with_reducible (first | refine thenS_n ?_ | refine thenS_e ?_ | refine blockS_n ?_ | refine blockS_e ?_ | refine blockS_o rfl ?_ | refine thenS_r ?_ | refine blockS_r ?_ | refine use_K (by assumption) ?_))
        | refine WS_region ?_
        | refine LS_nil ?_
        | ((refine' LQ ?h rfl ?_); case h => intro F'; first | exact Q_move rfl | exact Q_assign rfl | exact Q_load rfl iI iI rfl | exact Q_bin_t rfl rfl iI (by first | assumption | omega | decide) | exact Q_bin_f rfl rfl iI (by first | assumption | omega | decide) | exact Q_bin_nt rfl rfl iI (by first | assumption | omega | decide) | exact Q_bin_nf rfl rfl iI (by first | assumption | omega | decide) | exact Q_addI rfl rfl (by omega) | exact Q_subI rfl rfl (by omega) | exact Q_loadA rfl iI iI rfl | exact Q_len rfl iI | exact Q_lenS rfl iI | exact Q_index rfl rfl iI iI iI iI (by first | assumption | omega | (simp [be_length] <;> omega)) | exact Q_loadR rfl iI iI iI (by assumption) rfl | exact Q_loadR rfl iI iI iI rfl rfl | exact Q_loadRA rfl iI iI iI (by assumption) | exact Q_lenR rfl iI iI | exact Q_lenM rfl iI iI | exact Q_addS rfl rfl (by first | omega | (simp [be_length] <;> omega)) | exact Q_indexV rfl rfl iI iI iI (by first | assumption | omega) | exact Q_quoI rfl rfl (by omega) | exact Q_remI rfl rfl (by omega) | exact Q_mulI rfl rfl (by omega))
        | ((first | refine LS_binS rfl rfl iI rfl ?_ ?_ | refine LS_binN rfl rfl iI rfl ?_ ?_) <;> intro hc)
        | ((refine' LQ ?h rfl ?_); case h => intro F'; first | exact Q_bin rfl rfl iI)
        | ((refine' LS_h ?h rfl ?_); (case h => first | exact H_alloc iI | exact H_appendB rfl rfl iI iI iI rfl rfl iI (by first | omega | (simp [be_length] <;> omega)) rfl | exact H_appendS rfl rfl iI rfl iI iI (by first | omega | (simp [be_length] <;> omega)) rfl); intro g)
        | ((refine' LS_h0 ?h ?_); (case h => first | exact H_storeO rfl rfl iI iI iI rfl | exact H_storeAO rfl rfl iI iI iI rfl | exact H_store8 rfl rfl iI iI rfl iI (by first | assumption | omega | (simp [be_length] <;> omega)) | exact H_storeRA _ rfl rfl rfl iI iI iI rfl rfl (by first | assumption | omega | (simp [be_length] <;> omega)) | exact H_storeR _ rfl rfl iI iI iI rfl (by assumption) rfl | exact H_store rfl rfl iI (by first | rfl | assumption) iI rfl | exact H_storeA rfl rfl iI iI (by first | rfl | (simp only [List.all_cons, List.all_nil, *]; rfl)) rfl); intro g)
        | (first | refine WS_block ?_ | refine WS_skip ?_ | refine WS_ret ?_ | refine WS_exit ?_ | refine WS_label ?_)
        | (show WS _ _ _ (.cond _ _ _) _ _; first | refine WS_condT rfl iI ?_ | refine WS_condF rfl iI ?_ | refine WS_condH_t rfl (by assumption) ?_ | refine WS_condH_f rfl (by assumption) ?_ | (refine WS_cond rfl ?_ ?_ <;> intro hc <;> (try simp only [decide_eq_true_eq, decide_eq_false_iff_not, Bool.not_eq_eq_eq_not, Bool.not_true, Bool.not_false, Bool.and_eq_true, Bool.or_eq_true, bne_iff_ne, beq_iff_eq, ne_eq, Decidable.not_not] at hc) <;> (try (exfalso; first | contradiction | omega; done))))
        | (refine LS_h (H_callX iI rfl hrec iI) rfl ?_; intro v2)
        | (refine LS_h (H_appendR rfl rfl iI iI rfl iI iI byteC_one (by first | omega | (simp [be_length] <;> omega)) rfl) rfl ?_; intro va))
      refine ⟨m - 1, _, by omega, ⟨j + 1, va, by omega, rfl⟩, ⟨rfl, rfl, rfl, rfl, trivial⟩, rfl, ?_⟩
      rw [List.take_add_one, hz, Option.toList_some]
      simp only [recsB, List.flatMap_append, List.flatMap_cons, List.flatMap_nil, List.append_nil]
      ((try simp only [star_assoc, emp_star, star_emp]); (repeat' (first | exact Ent.last | refine Ent.take ?_ | refine Ent.nilT ?_ | refine Ent.takeR (by first | rfl | assumption | (simp; done)) ?_ | exact Ent.refl _)))
    · obtain rfl : j = l.length := by omega
      rw [List.take_length]
      repeat' (first
        | (refine WS_seqK ?_; intro K hK)
        | (refine hK _ ?_; clear hK K)
        | (with_reducible (first | refine thenS_n ?_ | refine thenS_e ?_ | refine blockS_n ?_ | refine blockS_e ?_ | refine blockS_o rfl ?_ | refine thenS_r ?_ | refine blockS_r ?_ | refine use_K (by assumption) ?_))
        | refine WS_region ?_
        | refine LS_nil ?_
        | ((refine' LQ ?h rfl ?_); case h => intro F'; first | exact Q_move rfl | exact Q_assign rfl | exact Q_load rfl iI iI rfl | exact Q_bin_t rfl rfl iI (by first | assumption | omega | decide) | exact Q_bin_f rfl rfl iI (by first | assumption | omega | decide) | exact Q_bin_nt rfl rfl iI (by first | assumption | omega | decide) | exact Q_bin_nf rfl rfl iI (by first | assumption | omega | decide) | exact Q_addI rfl rfl (by omega) | exact Q_subI rfl rfl (by omega) | exact Q_loadA rfl iI iI rfl | exact Q_len rfl iI | exact Q_lenS rfl iI | exact Q_index rfl rfl iI iI iI iI (by first | assumption | omega | (simp [be_length] <;> omega)) | exact Q_loadR rfl iI iI iI (by assumption) rfl | exact Q_loadR rfl iI iI iI rfl rfl | exact Q_loadRA rfl iI iI iI (by assumption) | exact Q_lenR rfl iI iI | exact Q_lenM rfl iI iI | exact Q_addS rfl rfl (by first | omega | (simp [be_length] <;> omega)) | exact Q_indexV rfl rfl iI iI iI (by first | assumption | omega) | exact Q_quoI rfl rfl (by omega) | exact Q_remI rfl rfl (by omega) | exact Q_mulI rfl rfl (by omega))
        | ((first | refine LS_binS rfl rfl iI rfl ?_ ?_ | refine LS_binN rfl rfl iI rfl ?_ ?_) <;> intro hc)
        | ((refine' LQ ?h rfl ?_); case h => intro F'; first | exact Q_bin rfl rfl iI)
        | ((refine' LS_h ?h rfl ?_); (case h => first | exact H_alloc iI | exact H_appendD rfl rfl iI iI rfl iI iI byteC_one (by first | omega | (simp [be_length] <;> omega)) rfl | exact H_appendB rfl rfl iI iI iI rfl rfl iI (by first | omega | (simp [be_length] <;> omega)) rfl | exact H_appendS rfl rfl iI rfl iI iI (by first | omega | (simp [be_length] <;> omega)) rfl); intro g)
        | ((refine' LS_h0 ?h ?_); (case h => first | exact H_storeO rfl rfl iI iI iI rfl | exact H_storeAO rfl rfl iI iI iI rfl | exact H_store8 rfl rfl iI iI rfl iI (by first | assumption | omega | (simp [be_length] <;> omega)) | exact H_storeRA _ rfl rfl rfl iI iI iI rfl rfl (by first | assumption | omega | (simp [be_length] <;> omega)) | exact H_storeR _ rfl rfl iI iI iI rfl (by assumption) rfl | exact H_store rfl rfl iI (by first | rfl | assumption) iI rfl | exact H_storeA rfl rfl iI iI (by first | rfl | (simp only [List.all_cons, List.all_nil, *]; rfl)) rfl); intro g)
        | (first | refine WS_block ?_ | refine WS_skip ?_ | refine WS_ret ?_ | refine WS_exit ?_ | refine WS_label ?_)
        | (show WS _ _ _ (.cond _ _ _) _ _; first | refine WS_condT rfl iI ?_ | refine WS_condF rfl iI ?_ | refine WS_condH_t rfl (by assumption) ?_ | refine WS_condH_f rfl (by assumption) ?_ | (refine WS_cond rfl ?_ ?_ <;> intro hc <;> (try simp only [decide_eq_true_eq, decide_eq_false_iff_not, Bool.not_eq_eq_eq_not, Bool.not_true, Bool.not_false, Bool.and_eq_true, Bool.or_eq_true, bne_iff_ne, beq_iff_eq, ne_eq, Decidable.not_not] at hc) <;> (try (exfalso; first | contradiction | omega; done)))))
      exact ret_tmp (.inl rfl) rfl rfl ⟨u, rfl, by ((try simp only [star_assoc, emp_star, star_emp]); (repeat' (first | exact Ent.last | refine Ent.take ?_ | refine Ent.nilT ?_ | refine Ent.takeR (by first | rfl | assumption | (simp; done)) ?_ | exact Ent.refl _)))⟩
end Go.Proofs.YtapoehkdnglahabGreat

/- A node: its state in plain Lean, its memory. -/
namespace Go.Proofs.YtapoehkdnglahabGreat
open Go.RowKit
set_option linter.unusedVariables false
set_option linter.unusedSimpArgs false
/-! ### The state -/
abbrev Str := List UInt8
structure Rq where
  src : UInt32
  id : UInt32
deriving DecidableEq
/-- A search. -/
structure Sr where
  dest : UInt32
  ttl : Int
  retries : Int
  out : Bool
  name : Int
structure OutD where
  journal : Str
  replace : Bool
  frames : List (UInt32 × Str)
  came : List (UInt32 × Str)
  dropped : List Int
def OutD.zero : OutD := ⟨[], false, [], [], []⟩
structure Nd where
  self : UInt32
  seq : UInt32
  ls : List Ln
  recs : List Rec
  own : UInt32
  held : List (UInt32 × UInt32)
  silent : UInt64
  seen : List (Rq × UInt64)
  order : List Rq
  wait : List (UInt32 × List Str)
  srs : List Sr
  clk : List Tm
  last : Int
  names : Int
  ids : UInt32
  datas : UInt32
  sent : List UInt64
  now : UInt64
  out : OutD
/-! ### Its memory -/
/-- Where its parts lie. -/
structure NH where
  tb : Nat
  vr : Value
  rh : Nat
  rs : Nat
  vo : Value
  rw : Nat
  rq : Nat
  ri : Nat
  cb : Nat
  cr : Nat
  vs : Value
  vf : Value
  vc : Value
  vd : Value
  sb : List Nat
def rqC (r : Rq) : List Value := [u32 r.src, u32 r.id]
@[reducible] def rqV (r : Rq) : Value := .agg (rqC r).toArray
def wrd64C (x : UInt64) : List Value := [u64 x]
def strCc (s : Str) : List Value := [strV s]
def txtC (x : UInt32 × Str) : List Value := [u32 x.1, strV x.2]
def intC (x : Int) : List Value := [.int .i64 x]
instance : FixLen rqC 2 := ⟨fun _ => rfl⟩
instance : FixLen wrd64C 1 := ⟨fun _ => rfl⟩
instance : FixLen strCc 1 := ⟨fun _ => rfl⟩
instance : FixLen txtC 2 := ⟨fun _ => rfl⟩
instance : FixLen intC 1 := ⟨fun _ => rfl⟩
theorem txtC_one : ∀ z, ∀ c ∈ txtC z, c.oneCell' = true := by intro z c hc; simp [txtC] at hc; rcases hc with rfl | rfl <;> rfl
theorem intC_one : ∀ z, ∀ c ∈ intC z, c.oneCell' = true := by intro z c hc; simp [intC] at hc; subst hc; rfl
/-- Slice values that a map holds. -/
@[reducible] def slV' (v : Option Addr × Nat × Nat) : Value := .slice v.1 v.2.1 v.2.2
/-- The texts that wait, slice by slice. -/
def textsP : List (Option Addr × Nat × Nat) → List (UInt32 × List Str) → HProp
  | v :: vs, w :: ws => rows 9 1 strCc (slV' v) w.2 * textsP vs ws
  | _, _ => emp
def wmap (vs : List (Option Addr × Nat × Nat)) (ws : List (UInt32 × List Str)) : List (UInt32 × (Option Addr × Nat × Nat)) := List.zipWith (fun v w => (w.1, v)) vs ws
def waitP (r : Nat) (ws : List (UInt32 × List Str)) : HProp := hex fun vs : List (Option Addr × Nat × Nat) => pure' (vs.length = ws.length) * (mp u32 slV' r (wmap vs ws) * textsP vs ws)
/-- The searches. -/
def srC (g b : Nat) (s : Sr) : List Value := [u32 s.dest, .int .i64 s.ttl, .int .i64 s.retries, .bool s.out, .int .i64 s.name, .func (.func 197) #[ptr b 0] #[], ptr g 0]
def srsP (g : Nat) : List Nat → List Sr → HProp
  | b :: bs, s :: ss => cel b 247 (srC g b s) * srsP g bs ss
  | _, _ => emp
def qmap (bs : List Nat) (ss : List Sr) : List (UInt32 × Nat) := List.zipWith (fun b s => (s.dest, b)) bs ss
def imap (bs : List Nat) (ss : List Sr) : List (Int × Nat) := List.zipWith (fun b s => (s.name, b)) bs ss
def clockQ (b r : Nat) (last : Int) (L : List Tm) : HProp := hex fun l => pure' (TR l L last) * heapQ b r last l
/-- What is seldom looked at. -/
def restP (g : Nat) (s : Nd) (h : NH) : HProp :=
  mp rqV u64 h.rs s.seen * (rows 269 2 rqC h.vo s.order * (waitP h.rw s.wait * (mp u32 ptrV h.rq (qmap h.sb s.srs) * (mp i64 ptrV h.ri (imap h.sb s.srs) * (srsP g h.sb s.srs * (clockQ h.cb h.cr s.last s.clk * rows 24 1 wrd64C h.vs s.sent))))))
/-- A node's cells; mu: the lock's word; o: what it holds of its answer. -/
def nodC (mu : Int) (s : Nd) (h : NH) (o : OutD) : List Value :=
  [.int .i32 mu, .int .u32 0, u32 s.self, u32 s.seq, ptr h.tb 0, h.vr, u32 s.own, .map (some h.rh), u64 s.silent, .map (some h.rs), h.vo, .map (some h.rw), .map (some h.rq), .map (some h.ri), ptr h.cb 0, .int .i64 s.names, u32 s.ids, u32 s.datas, h.vs, u64 s.now, strV o.journal, .bool o.replace, h.vf, h.vc, h.vd]
def outH (h : NH) (o : OutD) : HProp := rows 48 2 txtC h.vf o.frames * (rows 70 2 txtC h.vc o.came * rows 166 1 intC h.vd o.dropped)
/-- A node in a call. -/
def nodPm (mu : Int) (g : Nat) (s : Nd) (h : NH) : HProp :=
  cel g 159 (nodC mu s h s.out) * (rows 28 3 Rec.cells h.vr s.recs * (mp u32 u32 h.rh s.held * (tabQ h.tb s.self s.ls * (outH h s.out * restP g s h))))
@[reducible] def nodP (g : Nat) (s : Nd) (h : NH) : HProp := nodPm 1 g s h
def nodA (g : Nat) (s : Nd) : HProp := hex fun h => nodP g s h
theorem LS_nod {P : Program} {n : Frm} {w0 : World} {E : Env} {D : List Deferred} {F : HProp} {ops : Array Oper} {l' : List Oper} {Q : Exit → St → Prop} {g : Nat} {s : Nd} (h : ∀ h, LS P n w0 ops Q l' ⟨E, D, nodP g s h * F⟩) : LS P n w0 ops Q l' ⟨E, D, nodA g s * F⟩ := by
  unfold nodA
  exact LS_hex h
theorem WS_nod {P : Program} {n : Frm} {w0 : World} {E : Env} {D : List Deferred} {F : HProp} {c : Code} {Q : Exit → St → Prop} {g : Nat} {s : Nd} (h : ∀ h, WS P n w0 c Q ⟨E, D, nodP g s h * F⟩) : WS P n w0 c Q ⟨E, D, nodA g s * F⟩ := by
  unfold nodA
  exact WS_hex h
theorem Ent.nod {g : Nat} {s : Nd} {H F : HProp} (h : NH) (e : Ent H (nodP g s h * F)) : Ent H (nodA g s * F) := Ent.hexI (p := fun h => nodP g s h) h e
theorem Spec.nod {P : Program} {w0 : World} {f : FuncId} {args : List Value} {g : Nat} {s : Nd} {X : HProp} {α : Type} {res : α → Value} {post : α → HProp} (h : ∀ h, Spec P w0 f args (nodP g s h * X) res post) : Spec P w0 f args (nodA g s * X) res post := fun G w hs => by
  have hs1 : Sat w0 w (hex (fun h => nodP g s h) * (X * G)) := hs.cast (star_assoc _ _ _)
  obtain ⟨x, hs2⟩ := hs1.ex
  exact h x G w (hs2.cast (star_assoc _ _ _).symm)
theorem Pk.out_le' (p : Pk) : p.out.length ≤ 100000 := by
  by_cases h : p.Fits
  · rw [Pk.out_fit h]
    obtain ⟨⟨_, _, _, _, h1, h2⟩, _⟩ := h
    unfold Pk.bytes
    repeat' split
    all_goals simp only [List.length_append, List.length_cons, List.length_nil, be_length, lostB_length]
    all_goals omega
  · rw [Pk.out_not h]; simp
/-! ### What its functions do -/
def Nd.write (s : Nd) (r : Rec) : Nd := { s with recs := s.recs ++ [r], out := { s.out with journal := s.out.journal ++ r.bytes }, own := if r.own then r.seq else s.own, held := if r.own then s.held else mset s.held r.addr r.seq }
def Nd.noteL (s : Nd) (l : Ln) : Nd := match mget s.held l.dest with
  | some q => if q < l.seq then s.write ⟨false, l.dest, l.seq⟩ else s
  | none => s.write ⟨false, l.dest, l.seq⟩
def Nd.noteO (s : Nd) : Nd := if s.own < s.seq then s.write ⟨true, 0, s.seq⟩ else s
def Nd.note (s : Nd) : Nd := (listT s.ls).foldl Nd.noteL s.noteO
def Nd.begin (s : Nd) (now : UInt64) : Nd := { s with now := now, out := OutD.zero, ls := expT now s.ls }.note
def Nd.done (s : Nd) : Nd := if 24 < s.note.recs.length then { s.note with recs := compR s.note.recs, out := { s.note.out with journal := recsB (compR s.note.recs), replace := true } } else s.note
def Nd.send (s : Nd) (to : UInt32) (p : Pk) : Nd := { s with out := { s.out with frames := s.out.frames ++ [(to, p.out)] } }
def Nd.drop (s : Nd) (k : Int) : Nd := { s with out := { s.out with dropped := s.out.dropped ++ [k] } }
end Go.Proofs.YtapoehkdnglahabGreat

/- What a node's write, send, drop and tell do, by a walk. -/
namespace Go.Proofs.YtapoehkdnglahabGreat
open Go.RowKit
set_option linter.unusedVariables false
set_option linter.unusedSimpArgs false
attribute [local irreducible] WS LS OpQ OpT OpH OpTQ Spec SpecQ cel
variable (w0 : World)
set_option maxRecDepth 100000 in
set_option maxHeartbeats 8000000 in
theorem nwrite_spec (mu : Int) (gn : Nat) (s : Nd) (h : NH) (r : Rec) (hr : s.recs.length ≤ 500000) (hj : s.out.journal.length ≤ 900000) : Spec Tryz.prog w0 60 [ptr gn 0, .agg r.cells.toArray] (nodPm mu gn s h) (fun _ : Value => .tuple #[]) (fun vr => nodPm mu gn (s.write r) { h with vr := vr }) := by
  have hrec := wrecord_spec w0 r
  have hbl := Rec.bytes_length r
  have er : ∀ vr, restP gn (s.write r) { h with vr := vr } = restP gn s h := fun _ => rfl
  refine Spec.enter Tryz.func60 rfl Tryz.ntmps60 rfl fun G => ?_
  simp only [nodPm, er]
  simp only [argE, nodC, outH, Nd.write]
  obtain ⟨o, a, q⟩ := r
  simp only [Rec.cells] at hrec ⊢
  cases o
  all_goals
    repeat' (first
      | (show WS _ _ _ (.region 1 _ true) _ _; first | refine WS_drawK [0, 1, 2, 3, 4, 5, 6, 7, 8, 9, 10, 11, 12] 8 [5, 6] (by decide +kernel) rfl ?_ | refine WS_drawN 0 3 [0, 1, 2, 3, 4, 5, 6, 7, 8, 9, 10, 11, 12] 12 [5] (by decide +kernel) rfl rfl rfl iI iI ?_)
      | (show WS _ _ _ (.region 2 _ true) _ _; first | refine WS_drawK [0, 1, 2, 3, 4, 5, 6, 7, 8, 9, 10, 11, 12] 6 [4, 5] (by decide +kernel) rfl ?_ | refine WS_drawN 0 3 [0, 1, 2, 3, 4, 5, 6, 7, 8, 9, 10, 11, 12] 12 [4] (by decide +kernel) rfl rfl rfl iI iI ?_)
      | (show WS _ _ _ (.region 5 _ true) _ _; refine WS_drawK [0, 1, 2, 3, 4, 5, 6, 7, 8, 9] 9 [4, 6, 8] (by decide +kernel) rfl ?_)
      | (refine WS_seqK ?_; intro K hK)
      | (refine hK _ ?_; clear hK K)
      | (with_reducible (first | refine thenS_n ?_ | refine thenS_e ?_ | refine blockS_n ?_ | refine blockS_e ?_ | refine blockS_o rfl ?_ | refine thenS_r ?_ | refine blockS_r ?_ | refine use_K (by assumption) ?_))
      | refine WS_region ?_
      | refine LS_nil ?_
      | (first | refine DL_nilA ?_ | refine DL_nilS ?_ | refine DL_nilN ?_ | refine DL_nilE ?_ | refine DL_nilR ?_)
      | (first | refine DL_claimS rfl ?_ | refine DL_claim rfl rfl ?_)
      | ((first | refine' LQ ?h rfl ?_ | refine' DL_qp rfl rfl rfl ?h ?_ | refine' DL_q rfl rfl ?h ?_); case h => intro F'; first | exact Q_move rfl | exact Q_nilCheck rfl | exact Q_fieldAddr rfl iI rfl | exact Q_load rfl iI iI rfl | exact Q_bin_t rfl rfl iI (by first | assumption | omega | decide) | exact Q_bin_f rfl rfl iI (by first | assumption | omega | decide) | exact Q_bin_nt rfl rfl iI (by first | assumption | omega | decide) | exact Q_bin_nf rfl rfl iI (by first | assumption | omega | decide) | exact Q_addI rfl rfl (by omega) | exact Q_subI rfl rfl (by omega) | exact Q_loadA rfl iI iI rfl | exact Q_fieldR rfl iI iI rfl (by first | assumption | omega | (simp [be_length] <;> omega)) | exact Q_loadR rfl iI iI iI (by assumption) rfl | exact Q_loadR rfl iI iI iI rfl rfl | exact Q_loadRA rfl iI iI iI (by assumption) | exact Q_conv32_8 rfl iI iI iI | exact Q_conv64 rfl iI iI iI | exact Q_conv32 rfl iI iI iI | exact Q_convS rfl iI rfl iI iI iI | exact Q_convSame rfl iI iI (by omega) | exact Q_convI8 rfl iI iI | exact Q_conv328 rfl iI iI | exact Q_conv8 rfl iI iI | exact Q_bytesS rfl iI iI rfl iI iI iI | exact Q_addS rfl rfl (by first | omega | (simp [be_length] <;> omega)) | exact Q_nilCheck_f rfl | exact Q_quoI rfl rfl (by omega) | exact Q_remI rfl rfl (by omega) | exact Q_mulI rfl rfl (by omega))
      | ((first | refine LS_binS rfl rfl iI rfl ?_ ?_ | refine LS_binN rfl rfl iI rfl ?_ ?_ | refine DL_binS rfl rfl iI rfl ?_ ?_) <;> intro hc)
      | ((first | refine' LQ ?h rfl ?_ | refine' DL_qp rfl rfl rfl ?h ?_ | refine' DL_q rfl rfl ?h ?_); case h => intro F'; first | exact Q_bin rfl rfl iI)
      | ((first | refine' LS_h ?h rfl ?_ | refine' DL_h ?h rfl rfl rfl ?_); (case h => first | exact H_box rfl | exact H_boxO rfl iI | exact H_buildB iI iI iI rfl rfl rfl rfl rfl iI rfl rfl | exact H_buildSlice0 iI iI | exact H_appendD rfl rfl iI iI rfl iI iI byteC_one (by first | omega | (simp [be_length] <;> omega)) rfl | exact H_appendB rfl rfl iI iI iI rfl rfl iI (by first | omega | (simp [be_length] <;> omega)) rfl | exact H_appendS rfl rfl iI rfl iI iI (by first | omega | (simp [be_length] <;> omega)) rfl | exact H_convS rfl iI rfl iI iI iI | exact H_box1 rfl (by first | rfl | assumption)); intro g)
      | ((first | refine' LS_h0 ?h ?_ | refine' DL_h0 ?h rfl rfl ?_); (case h => first | exact H_storeO rfl rfl iI iI iI rfl | exact H_storeAO rfl rfl iI iI iI rfl | exact H_store8 rfl rfl iI iI rfl iI (by first | assumption | omega | (simp [be_length] <;> omega)) | exact H_mapUpdate rfl rfl rfl iI iI iI iI iI | exact H_storeRA _ rfl rfl rfl iI iI iI rfl rfl (by first | assumption | omega | (simp [be_length] <;> omega)) | exact H_storeR _ rfl rfl iI iI iI rfl (by assumption) rfl | exact H_store rfl rfl iI (by first | rfl | assumption) iI rfl | exact H_storeA rfl rfl iI iI (by first | rfl | (simp only [List.all_cons, List.all_nil, *]; rfl)) rfl); intro g)
      | (first | refine WS_block ?_ | refine WS_skip ?_ | refine WS_ret ?_ | refine WS_exit ?_ | refine WS_label ?_)
      | (show WS _ _ _ (.cond _ _ _) _ _; first | refine WS_condT rfl iI ?_ | refine WS_condF rfl iI ?_ | refine WS_condH_t rfl (by assumption) ?_ | refine WS_condH_f rfl (by assumption) ?_ | (refine WS_cond rfl ?_ ?_ <;> intro hc <;> (try simp only [decide_eq_true_eq, decide_eq_false_iff_not, Bool.not_eq_eq_eq_not, Bool.not_true, Bool.not_false, Bool.and_eq_true, Bool.or_eq_true, bne_iff_ne, beq_iff_eq, ne_eq, Decidable.not_not] at hc) <;> (try (exfalso; first | contradiction | omega; done))))
      | (refine DL_h (H_callX iI rfl hrec iI) rfl rfl rfl ?_; intro vb)
      | (refine DL_h (H_buildSliceR Rec.cells [⟨_, a, q⟩] iI iI iI rfl rfl rfl rfl rfl iI rfl rfl rfl) rfl rfl rfl ?_; intro vx)
      | (refine DL_h (H_appendR rfl rfl iI iI rfl iI iI recC_one (by first | omega | (simp [be_length] <;> omega)) rfl) rfl rfl rfl ?_; intro va))
  · exact ret_none (.inr rfl) rfl ⟨va, rfl, by simp only [Bool.false_eq_true, if_false]; ((try simp only [star_assoc, emp_star, star_emp]); (repeat' (first | exact Ent.last | refine Ent.take ?_ | refine Ent.nilT ?_ | refine Ent.takeR (by first | rfl | assumption | (simp; done)) ?_ | exact Ent.refl _)))⟩
  · exact ret_none (.inr rfl) rfl ⟨va, rfl, by simp only [if_true]; ((try simp only [star_assoc, emp_star, star_emp]); (repeat' (first | exact Ent.last | refine Ent.take ?_ | refine Ent.nilT ?_ | refine Ent.takeR (by first | rfl | assumption | (simp; done)) ?_ | exact Ent.refl _)))⟩
set_option maxRecDepth 100000 in
set_option maxHeartbeats 8000000 in
theorem ndrop_spec (gn : Nat) (s : Nd) (h : NH) (k : Int) (hd : s.out.dropped.length ≤ 900000) : Spec Tryz.prog w0 66 [ptr gn 0, .int .i64 k] (nodP gn s h) (fun _ : Value => .tuple #[]) (fun vd => nodP gn (s.drop k) { h with vd := vd }) := by
  have er : ∀ vd, restP gn (s.drop k) { h with vd := vd } = restP gn s h := fun _ => rfl
  refine Spec.enter Tryz.func66 rfl Tryz.ntmps66 rfl fun G => ?_
  simp only [nodP, nodPm, er]
  simp only [argE, nodC, outH, Nd.drop]
  repeat' (first
    | (refine WS_seqK ?_; intro K hK)
    | (refine hK _ ?_; clear hK K)
    | (with_reducible (first | refine thenS_n ?_ | refine thenS_e ?_ | refine blockS_n ?_ | refine blockS_e ?_ | refine blockS_o rfl ?_ | refine thenS_r ?_ | refine blockS_r ?_ | refine use_K (by assumption) ?_))
    | refine WS_region ?_
    | refine LS_nil ?_
    | ((refine' LQ ?h rfl ?_); case h => intro F'; first | exact Q_move rfl | exact Q_nilCheck rfl | exact Q_fieldAddr rfl iI rfl | exact Q_load rfl iI iI rfl | exact Q_loadA rfl iI iI rfl | exact Q_fieldR rfl iI iI rfl (by first | assumption | omega | (simp [be_length] <;> omega)) | exact Q_loadR rfl iI iI iI (by assumption) rfl | exact Q_loadR rfl iI iI iI rfl rfl | exact Q_loadRA rfl iI iI iI (by assumption) | exact Q_nilCheck_f rfl)
    | ((refine' LS_h ?h rfl ?_); (case h => first | exact H_buildB iI iI iI rfl rfl rfl rfl rfl iI rfl rfl | exact H_buildSlice0 iI iI | exact H_appendD rfl rfl iI iI rfl iI iI byteC_one (by first | omega | (simp [be_length] <;> omega)) rfl | exact H_appendB rfl rfl iI iI iI rfl rfl iI (by first | omega | (simp [be_length] <;> omega)) rfl | exact H_appendS rfl rfl iI rfl iI iI (by first | omega | (simp [be_length] <;> omega)) rfl); intro g)
    | ((refine' LS_h0 ?h ?_); (case h => first | exact H_storeO rfl rfl iI iI iI rfl | exact H_storeAO rfl rfl iI iI iI rfl | exact H_store8 rfl rfl iI iI rfl iI (by first | assumption | omega | (simp [be_length] <;> omega)) | exact H_storeRA _ rfl rfl rfl iI iI iI rfl rfl (by first | assumption | omega | (simp [be_length] <;> omega)) | exact H_storeR _ rfl rfl iI iI iI rfl (by assumption) rfl | exact H_store rfl rfl iI (by first | rfl | assumption) iI rfl | exact H_storeA rfl rfl iI iI (by first | rfl | (simp only [List.all_cons, List.all_nil, *]; rfl)) rfl); intro g)
    | (first | refine WS_block ?_ | refine WS_skip ?_ | refine WS_ret ?_ | refine WS_exit ?_ | refine WS_label ?_)
    | (show WS _ _ _ (.cond _ _ _) _ _; first | refine WS_condT rfl iI ?_ | refine WS_condF rfl iI ?_ | refine WS_condH_t rfl (by assumption) ?_ | refine WS_condH_f rfl (by assumption) ?_ | (refine WS_cond rfl ?_ ?_ <;> intro hc <;> (try simp only [decide_eq_true_eq, decide_eq_false_iff_not, Bool.not_eq_eq_eq_not, Bool.not_true, Bool.not_false, Bool.and_eq_true, Bool.or_eq_true, bne_iff_ne, beq_iff_eq, ne_eq, Decidable.not_not] at hc) <;> (try (exfalso; first | contradiction | omega; done))))
    | (refine LS_h (H_buildSliceR intC [k] iI iI iI rfl rfl rfl rfl rfl iI rfl rfl rfl) rfl ?_; intro vx)
    | (refine LS_h (H_appendR rfl rfl iI iI rfl iI iI intC_one (by first | omega | (simp [be_length] <;> omega)) rfl) rfl ?_; intro va))
  exact ret_none (.inr rfl) rfl ⟨va, rfl, by ((try simp only [star_assoc, emp_star, star_emp]); (repeat' (first | exact Ent.last | refine Ent.take ?_ | refine Ent.nilT ?_ | refine Ent.takeR (by first | rfl | assumption | (simp; done)) ?_ | exact Ent.refl _)))⟩
set_option maxRecDepth 100000 in
set_option maxHeartbeats 8000000 in
theorem nsend_spec (gn : Nat) (s : Nd) (h : NH) (to : UInt32) (p : Pk) (hp : p.Ok) (v : Value) (hv : v.oneCell' = true) (X : HProp) [hX : Rdr w0 X v (UInt32 × UInt32) 2 lostC p.lost] (hd : s.out.frames.length ≤ 900000) : Spec Tryz.prog w0 117 [ptr gn 0, u32 to, p.val v] (nodP gn s h * X) (fun _ : Value => .tuple #[]) (fun vf => nodP gn (s.send to p) { h with vf := vf } * X) := by
  have henc := encode_spec w0 p hp v X
  have er : ∀ vf, restP gn (s.send to p) { h with vf := vf } = restP gn s h := fun _ => rfl
  have hol := p.out_le'
  refine Spec.enter Tryz.func117 rfl Tryz.ntmps117 rfl fun G => ?_
  simp only [nodP, nodPm, er]
  simp only [argE, nodC, outH, Nd.send, Pk.val, Pk.cells] at henc ⊢
  repeat' (first
    | (show WS _ _ _ (.region 2 _ true) _ _; first | refine WS_drawK [0, 1, 2, 3, 4, 5, 6, 7, 8, 9, 10, 11, 12, 13, 14, 15] 8 [5] (by decide +kernel) rfl ?_ | refine WS_drawM 0 [0, 1, 2, 3, 4, 5, 6, 7, 8, 9, 10, 11, 12, 13, 14, 15] 15 [5] (by decide +kernel) rfl rfl iI ?_)
    | (refine WS_seqK ?_; intro K hK)
    | (refine hK _ ?_; clear hK K)
    | (with_reducible (first | refine thenS_n ?_ | refine thenS_e ?_ | refine blockS_n ?_ | refine blockS_e ?_ | refine blockS_o rfl ?_ | refine thenS_r ?_ | refine blockS_r ?_ | refine use_K (by assumption) ?_))
    | refine WS_region ?_
    | refine LS_nil ?_
    | (first | refine DL_nilA ?_ | refine DL_nilS ?_ | refine DL_nilN ?_ | refine DL_nilE ?_ | refine DL_nilR ?_)
    | (first | refine DL_claimS rfl ?_ | refine DL_claim rfl rfl ?_)
    | ((first | refine' LQ ?h rfl ?_ | refine' DL_qp rfl rfl rfl ?h ?_ | refine' DL_q rfl rfl ?h ?_); case h => intro F'; first | exact Q_move rfl | exact Q_assign rfl | exact Q_nilCheck rfl | exact Q_fieldAddr rfl iI rfl | exact Q_load rfl iI iI rfl | exact Q_extract rfl rfl | exact Q_loadA rfl iI iI rfl | exact Q_build iI iI rfl rfl | exact Q_buildA iI iI iI rfl rfl | exact Q_fieldR rfl iI iI rfl (by first | assumption | omega | (simp [be_length] <;> omega)) | exact Q_loadR rfl iI iI iI (by assumption) rfl | exact Q_loadR rfl iI iI iI rfl rfl | exact Q_loadRA rfl iI iI iI (by assumption) | exact Q_conv32_8 rfl iI iI iI | exact Q_conv64 rfl iI iI iI | exact Q_conv32 rfl iI iI iI | exact Q_convS rfl iI rfl iI iI iI | exact Q_convSame rfl iI iI (by omega) | exact Q_convI8 rfl iI iI | exact Q_conv328 rfl iI iI | exact Q_conv8 rfl iI iI | exact Q_bytesS rfl iI iI rfl iI iI iI | exact Q_nilCheck_f rfl)
    | ((first | refine' LS_h ?h rfl ?_ | refine' DL_h ?h rfl rfl rfl ?_); (case h => first | exact H_box rfl | exact H_boxO rfl iI | exact H_buildB iI iI iI rfl rfl rfl rfl rfl iI rfl rfl | exact H_buildSlice0 iI iI | exact H_appendD rfl rfl iI iI rfl iI iI byteC_one (by first | omega | (simp [be_length] <;> omega)) rfl | exact H_appendB rfl rfl iI iI iI rfl rfl iI (by first | omega | (simp [be_length] <;> omega)) rfl | exact H_appendS rfl rfl iI rfl iI iI (by first | omega | (simp [be_length] <;> omega)) rfl | exact H_convS rfl iI rfl iI iI iI | exact H_box1 rfl (by first | rfl | assumption)); intro g)
    | ((first | refine' LS_h0 ?h ?_ | refine' DL_h0 ?h rfl rfl ?_); (case h => first | exact H_storeO rfl rfl iI iI iI rfl | exact H_storeAO rfl rfl iI iI iI rfl | exact H_store8 rfl rfl iI iI rfl iI (by first | assumption | omega | (simp [be_length] <;> omega)) | exact H_storeRA _ rfl rfl rfl iI iI iI rfl rfl (by first | assumption | omega | (simp [be_length] <;> omega)) | exact H_storeR _ rfl rfl iI iI iI rfl (by assumption) rfl | exact H_store rfl rfl iI (by first | rfl | assumption) iI rfl | exact H_storeA rfl rfl iI iI (by first | rfl | (simp only [List.all_cons, List.all_nil, *]; rfl)) rfl); intro g)
    | (first | refine WS_block ?_ | refine WS_skip ?_ | refine WS_ret ?_ | refine WS_exit ?_ | refine WS_label ?_)
    | (show WS _ _ _ (.cond _ _ _) _ _; first | refine WS_condT rfl iI ?_ | refine WS_condF rfl iI ?_ | refine WS_condH_t rfl (by assumption) ?_ | refine WS_condH_f rfl (by assumption) ?_ | (refine WS_cond rfl ?_ ?_ <;> intro hc <;> (try simp only [decide_eq_true_eq, decide_eq_false_iff_not, Bool.not_eq_eq_eq_not, Bool.not_true, Bool.not_false, Bool.and_eq_true, Bool.or_eq_true, bne_iff_ne, beq_iff_eq, ne_eq, Decidable.not_not] at hc) <;> (try (exfalso; first | contradiction | omega; done))))
    | (refine LS_h (H_callX iI rfl henc iI) rfl ?_; intro vb)
    | (refine DL_h (H_buildSliceR txtC [(to, p.out)] iI iI iI rfl rfl rfl rfl rfl iI rfl rfl rfl) rfl rfl rfl ?_; intro vx)
    | (refine DL_h (H_appendR rfl rfl iI iI rfl iI iI txtC_one (by first | omega | (simp [be_length] <;> omega)) rfl) rfl rfl rfl ?_; intro va))
  exact ret_none (.inr rfl) rfl ⟨va, rfl, by ((try simp only [star_assoc, emp_star, star_emp]); (repeat' (first | exact Ent.last | refine Ent.take ?_ | refine Ent.nilT ?_ | refine Ent.takeR (by first | rfl | assumption | (simp; done)) ?_ | exact Ent.refl _)))⟩
end Go.Proofs.YtapoehkdnglahabGreat

/- The contracts of tables of routes, their memory out of sight. -/
namespace Go.Proofs.YtapoehkdnglahabGreat
open Go.RowKit
set_option linter.unusedVariables false
set_option linter.unusedSimpArgs false
variable (w0 : World)
theorem hideT {P : Program} {w0 : World} {f : FuncId} {args : List Value} {g : Nat} {self : UInt32} {ls : List Ln} {α : Type} {res : α → Value} {A : α → HProp} {ls' : α → List Ln} (hl : ∀ x, (ls' x).length = ls.length)
    (h : ∀ r bs, bs.length = ls.length → Spec P w0 f args (tabP g r self bs ls) res (fun x => A x * tabP g r self bs (ls' x))) : Spec P w0 f args (tabQ g self ls) res (fun x => A x * tabQ g self (ls' x)) := fun G w hs => by
  obtain ⟨x, hs2⟩ := Sat.ex (P := fun x : Nat × List (Nat × Nat) => pure' (x.2.length = ls.length) * tabP g x.1 self x.2 ls) hs
  obtain ⟨hlen, hs3⟩ := (hs2.cast (star_assoc _ _ _)).pure
  refine (h x.1 x.2 hlen G w hs3).mono ?_
  rintro e w' ⟨y, he, hs'⟩
  refine ⟨y, he, ?_⟩
  have h1 : Sat w0 w' (tabP g x.1 self x.2 (ls' y) * (A y * G)) := hs'.cast (by ac_rfl)
  have h2 := (Ent.tabQ (r := x.1) (bs := x.2) (hlen.trans (hl y).symm) (Ent.refl _)).sat h1
  exact h2.cast (by ac_rfl)
theorem hideE {P : Program} {w0 : World} {f : FuncId} {args : List Value} {g : Nat} {self : UInt32} {ls : List Ln} {α : Type} {res : α → Value} {ls' : α → List Ln} (hl : ∀ x, (ls' x).length = ls.length)
    (h : ∀ r bs, bs.length = ls.length → Spec P w0 f args (tabP g r self bs ls) res (fun x => tabP g r self bs (ls' x))) : Spec P w0 f args (tabQ g self ls) res (fun x => tabQ g self (ls' x)) := by
  have := hideT (A := fun _ => emp) hl (fun r bs hlen => by simp only [emp_star]; exact h r bs hlen)
  simpa only [emp_star] using this
/-- What is known of a table at all times. -/
structure TabOk (ls : List Ln) : Prop where
  nodup : (dests ls).Nodup
  short : ls.length ≤ 8
  hops : ∀ l ∈ ls, 0 ≤ l.hops ∧ l.hops ≤ 1000
  before : ∀ l ∈ ls, l.before.length ≤ 4
theorem expire_spec (g : Nat) (self : UInt32) (ls : List Ln) (ok : TabOk ls) (now : UInt64) : Spec Tryz.prog w0 115 [ptr g 0, u64 now] (tabQ g self ls) (fun _ : Unit => .tuple #[]) (fun _ => tabQ g self (expT now ls)) :=
  hideE (fun _ => by simp [expT]) fun r bs hlen => expire_specT w0 g r self bs ls hlen ok.nodup now
theorem number_spec (g : Nat) (self : UInt32) (ls : List Ln) (d : UInt32) : Spec Tryz.prog w0 67 [ptr g 0, u32 d] (tabQ g self ls) (fun _ : Unit => .tuple #[u32 (numT ls d), .bool (lget ls d).isSome]) (fun _ => tabQ g self ls) :=
  hideE (fun _ => rfl) fun r bs hlen => number_specT w0 g r self bs ls hlen d
theorem list_spec (g : Nat) (self : UInt32) (ls : List Ln) (ok : TabOk ls) : Spec Tryz.prog w0 75 [ptr g 0] (tabQ g self ls) (fun x : Value × List LnS => x.1) (fun x => (pure' (x.2.map (·.1) = listT ls) * (rows 53 7 routeS x.1 x.2 * befs x.2)) * tabQ g self ls) :=
  hideT (fun _ => rfl) fun r bs hlen => by
    have := list_specT w0 g r self bs ls hlen ok.nodup (by have := ok.short; omega) (fun l hl => by have := ok.before l hl; omega)
    simpa only [star_assoc] using this
theorem listT_length (ls : List Ln) : (listT ls).length ≤ ls.length := by
  have h1 := List.length_filterMap_le (lget ls) (sortU (dests ls))
  rw [sortU_length] at h1
  simpa [listT, dests] using h1
end Go.Proofs.YtapoehkdnglahabGreat

/- What a node's note does, by a walk. -/
namespace Go.Proofs.YtapoehkdnglahabGreat
open Go.RowKit
set_option linter.unusedVariables false
set_option linter.unusedSimpArgs false
/-- There is room for k records more. -/
def Nd.Room (s : Nd) (k : Nat) : Prop := s.recs.length + k ≤ 500000 ∧ s.out.journal.length + 13 * k ≤ 900000
theorem Nd.Room.write {s : Nd} {k : Nat} (h : s.Room (k + 1)) (r : Rec) : (s.write r).Room k := by
  have hb := Rec.bytes_length r
  unfold Nd.Room at *
  simp only [Nd.write, List.length_append, List.length_cons, List.length_nil]
  omega
theorem Nd.Room.le {s : Nd} {k m : Nat} (h : s.Room k) (hm : m ≤ k) : s.Room m := by unfold Nd.Room at *; omega
theorem Nd.Room.noteL {s : Nd} {k : Nat} (h : s.Room (k + 1)) (l : Ln) : (s.noteL l).Room k := by
  unfold Nd.noteL
  repeat' split
  all_goals first | exact h.write _ | exact h.le (by omega)
theorem Nd.Room.noteO {s : Nd} {k : Nat} (h : s.Room (k + 1)) : s.noteO.Room k := by
  unfold Nd.noteO
  split
  · exact h.write _
  · exact h.le (by omega)
theorem Nd.noteO_ls (s : Nd) : s.noteO.ls = s.ls := by unfold Nd.noteO; split <;> rfl
theorem Nd.Room.noteLs {k : Nat} (L : List Ln) : ∀ {s : Nd}, s.Room (L.length + k) → (L.foldl Nd.noteL s).Room k := by
  induction L with
  | nil => intro s h; exact h.le (by simp)
  | cons l L ih => intro s h; exact ih (Nd.Room.noteL (h.le (by simp only [List.length_cons]; omega)) l)
attribute [local irreducible] WS LS OpQ OpT OpH OpTQ Spec SpecQ cel
variable (w0 : World)
set_option maxRecDepth 100000 in
set_option maxHeartbeats 8000000 in
theorem note_spec (mu : Int) (gn : Nat) (s : Nd) (h : NH) (hr : s.Room 10) (ok : TabOk s.ls) : Spec Tryz.prog w0 61 [ptr gn 0] (nodPm mu gn s h) (fun _ : Value => .tuple #[]) (fun vr => nodPm mu gn s.note { h with vr := vr }) := by
  refine Spec.enter Tryz.func61 rfl Tryz.ntmps61 rfl fun G => ?_
  obtain ⟨s1, hs1⟩ : ∃ s1, s1 = s.noteO := ⟨_, rfl⟩
  have hO := Nd.Room.noteO (k := 9) hr
  have okO : TabOk s.noteO.ls := by rw [Nd.noteO_ls]; exact ok
  have hn : s.note = (listT s1.ls).foldl Nd.noteL s1 := by unfold Nd.note; rw [hs1, Nd.noteO_ls]
  have hw1 := nwrite_spec w0 mu gn s h ⟨true, 0, s.seq⟩ (by unfold Nd.Room at hr; omega) (by unfold Nd.Room at hr; omega)
  rw [hn]
  rw [← hs1] at hO okO
  simp only [argE]
  clear hn
  by_cases ho : s.own < s.seq
  all_goals
    first
    | (have e1 : s.write ⟨true, 0, s.seq⟩ = s1 := by rw [hs1]; simp [Nd.noteO, ho]
       rw [e1] at hw1)
    | (have e1 : s1 = s := by rw [hs1]; simp [Nd.noteO, ho]
       subst e1)
    have hlist := list_spec w0 h.tb s1.self s1.ls okO
    generalize hL : listT s1.ls = L at *
    have hLl : L.length ≤ 8 := by rw [← hL]; exact Nat.le_trans (listT_length _) okO.short
    simp only [nodPm] at hw1 ⊢
    simp only [nodC] at hw1 ⊢
    repeat' (first
      | (show WS _ _ _ (.region 0 _ true) _ _; refine WS_drawA [0, 1, 2, 3, 4, 5, 6, 7, 8, 9] (by decide +kernel) rfl ?_)
      | (show WS _ _ _ (.region 5 _ true) _ _; refine WS_drawA [0, 1, 2, 3, 4, 5, 6, 7, 8, 9, 10, 11, 12] (by decide +kernel) rfl ?_)
      | (refine WS_seqK ?_; intro K hK)
      | (refine hK _ ?_; clear hK K)
      | (with_reducible (first | refine thenS_n ?_ | refine thenS_e ?_ | refine blockS_n ?_ | refine blockS_e ?_ | refine blockS_o rfl ?_ | refine thenS_r ?_ | refine blockS_r ?_ | refine use_K (by assumption) ?_))
      | refine WS_region ?_
      | refine LS_nil ?_
      | (show LS _ _ _ _ _ (⟨_, _, _, _, _, some _⟩ :: _) _; first | refine LS_wantT rfl rfl iI rfl ?_ | refine LS_wantF rfl rfl iI rfl ?_ | refine LS_wantU rfl rfl rfl ?_ | ((first | refine LS_wantS rfl rfl rfl ?_ ?_ | refine LS_wantN rfl ?_ ?_) <;> intro hc <;> (try simp only [decide_eq_true_eq, decide_eq_false_iff_not, Bool.not_eq_eq_eq_not, Bool.not_true, Bool.not_false, Bool.and_eq_true, Bool.or_eq_true, bne_iff_ne, beq_iff_eq, ne_eq, Decidable.not_not] at hc) <;> (try (exfalso; first | contradiction | omega; done))))
      | (first | refine DL_nilA ?_ | refine DL_nilS ?_ | refine DL_nilN ?_ | refine DL_nilE ?_ | refine DL_nilR ?_)
      | (first | refine DL_claimS rfl ?_ | refine DL_claim rfl rfl ?_)
      | (refine DL_alloc iI rfl ?_; intro g)
      | ((first | refine' LQ ?h rfl ?_ | refine' DL_qp rfl rfl rfl ?h ?_ | refine' DL_q rfl rfl ?h ?_); case h => intro F'; first | exact Q_move rfl | exact Q_assign rfl | exact Q_nilCheck rfl | exact Q_fieldAddr rfl iI rfl | exact Q_load rfl iI iI rfl | exact Q_bin_t rfl rfl iI (by first | assumption | omega) | exact Q_bin_f rfl rfl iI (by first | assumption | omega) | exact Q_bin_nt rfl rfl iI (by first | assumption | omega) | exact Q_bin_nf rfl rfl iI (by first | assumption | omega) | exact Q_addI rfl rfl (by omega) | exact Q_subI rfl rfl (by omega) | exact Q_extract rfl rfl | exact Q_pick_t rfl iI rfl | exact Q_pick_f rfl iI rfl | exact Q_pick rfl rfl rfl | exact Q_un rfl iI | exact Q_loadA rfl iI iI rfl | exact Q_build iI iI rfl rfl | exact Q_buildA iI iI iI rfl rfl | exact Q_len rfl iI | exact Q_lenS rfl iI | exact Q_index rfl rfl iI iI iI iI (by first | assumption | omega | (simp [be_length] <;> omega)) | exact Q_fieldR rfl iI iI rfl (by first | assumption | omega | (simp [be_length] <;> omega)) | exact Q_loadR rfl iI iI iI (by assumption) rfl | exact Q_loadR rfl iI iI iI rfl rfl | exact Q_loadRA rfl iI iI iI (by assumption) | exact Q_lenR rfl iI iI | exact Q_lenM rfl iI iI | exact Q_lookupOk_s rfl rfl iI iI iI iI iI (by assumption) | exact Q_lookupOk_n rfl rfl iI iI iI iI iI (by assumption) | exact Q_lookup_s rfl rfl iI iI iI iI iI (by assumption) | exact Q_lookup_n rfl rfl iI iI iI iI iI (by assumption) | exact Q_lookupOk rfl rfl iI iI iI iI iI | exact Q_lookup rfl rfl iI iI iI iI iI | exact Q_addS rfl rfl (by first | omega | (simp [be_length] <;> omega)) | exact Q_indexV rfl rfl iI iI iI (by first | assumption | omega) | exact Q_nilCheck_f rfl | exact Q_quoI rfl rfl (by omega) | exact Q_remI rfl rfl (by omega) | exact Q_negI rfl (by omega) | exact Q_mulI rfl rfl (by omega))
      | ((first | refine LS_binS rfl rfl iI rfl ?_ ?_ | refine LS_binN rfl rfl iI rfl ?_ ?_ | refine DL_binS rfl rfl iI rfl ?_ ?_) <;> intro hc)
      | ((first | refine' LQ ?h rfl ?_ | refine' DL_qp rfl rfl rfl ?h ?_ | refine' DL_q rfl rfl ?h ?_); case h => intro F'; first | exact Q_bin rfl rfl iI)
      | ((first | refine' LS_h ?h rfl ?_ | refine' DL_h ?h rfl rfl rfl ?_); (case h => first | exact H_alloc iI); intro g)
      | ((first | refine' LS_h0 ?h ?_ | refine' DL_h0 ?h rfl rfl ?_); (case h => first | exact H_storeO rfl rfl iI iI iI rfl | exact H_storeAO rfl rfl iI iI iI rfl | exact H_store8 rfl rfl iI iI rfl iI (by first | assumption | omega | (simp [be_length] <;> omega)) | exact H_storeRA _ rfl rfl rfl iI iI iI rfl rfl (by first | assumption | omega | (simp [be_length] <;> omega)) | exact H_storeR _ rfl rfl iI iI iI rfl (by assumption) rfl | exact H_store rfl rfl iI (by first | rfl | assumption) iI rfl | exact H_storeA rfl rfl iI iI (by first | rfl | (simp only [List.all_cons, List.all_nil, *]; rfl)) rfl); intro g)
      | (first | refine WS_block ?_ | refine WS_skip ?_ | refine WS_ret ?_ | refine WS_exit ?_ | refine WS_label ?_)
      | (show WS _ _ _ (.cond _ _ _) _ _; first | refine WS_condT rfl iI ?_ | refine WS_condF rfl iI ?_ | refine WS_condH_t rfl (by assumption) ?_ | refine WS_condH_f rfl (by assumption) ?_ | (refine WS_cond rfl ?_ ?_ <;> intro hc <;> (try simp only [decide_eq_true_eq, decide_eq_false_iff_not, Bool.not_eq_eq_eq_not, Bool.not_true, Bool.not_false, Bool.and_eq_true, Bool.or_eq_true, bne_iff_ne, beq_iff_eq, ne_eq, Decidable.not_not] at hc) <;> (try (exfalso; first | contradiction | omega; done))))
      | (refine LS_h (H_callX iI rfl hw1 iI) rfl ?_; intro vr)
      | (refine LS_h (H_callX iI rfl hlist iI) rfl ?_; intro x))
    obtain ⟨v, ps⟩ := x
    dsimp only
    obtain ⟨h1, hh1⟩ : ∃ h1 : NH, h1 = h ∨ ∃ vr, h1 = { h with vr := vr } := ⟨_, .inl rfl⟩
    first
    | refine WS_ent (H' := pure' (List.map (fun x => x.fst) ps = L) * (nodPm mu gn s1 { h with vr := vr } * (rows 53 7 routeS v ps * (befs ps * G)))) (by unfold nodPm; simp only [nodC]; ((try simp only [star_assoc, emp_star, star_emp]); (repeat' (first | exact Ent.last | refine Ent.take ?_ | refine Ent.nilT ?_ | refine Ent.takeR (by first | rfl | assumption | (simp; done)) ?_ | exact Ent.refl _)))) ?_
    | refine WS_ent (H' := pure' (List.map (fun x => x.fst) ps = L) * (nodPm mu gn s1 { h with vr := h.vr } * (rows 53 7 routeS v ps * (befs ps * G)))) (by unfold nodPm; simp only [nodC]; ((try simp only [star_assoc, emp_star, star_emp]); (repeat' (first | exact Ent.last | refine Ent.take ?_ | refine Ent.nilT ?_ | refine Ent.takeR (by first | rfl | assumption | (simp; done)) ?_ | exact Ent.refl _)))) ?_
    refine WS_pure fun hps => ?_
    have hpl : ps.length = L.length := by rw [← hps]; simp
    refine WS_loop (fun k τ => ∃ (j : Nat) (vr : Value), j + k = ps.length ∧ τ = ⟨[(29, .int .i64 (j : Int)), (28, .int .i64 (ps.length : Int)), (27, v), (0, ptr gn 0)], [], nodPm mu gn ((L.take j).foldl Nd.noteL s1) { h with vr := vr } * (rows 53 7 routeS v ps * (befs ps * G))⟩) ?_ ?_
    · exact ⟨ps.length, _, ⟨0, _, by omega, rfl⟩, ⟨rfl, rfl, rfl, rfl, trivial⟩, rfl, by simp only [List.take_zero, List.foldl_nil]; exact Ent.refl _⟩
    · rintro k τ ⟨j, vr, hjk, rfl⟩
      rcases Nat.lt_or_ge j ps.length with hlt | hge
      · obtain ⟨⟨l, p⟩, hz⟩ : ∃ z, ps[j]? = some z := ⟨_, List.getElem?_eq_getElem hlt⟩
        have hzl : L[j]? = some l := by rw [← hps]; simp [hz]
        have htk : (L.take (j + 1)).foldl Nd.noteL s1 = ((L.take j).foldl Nd.noteL s1).noteL l := by rw [List.take_add_one, hzl, Option.toList_some, List.foldl_append]; rfl
        have hrm : ((L.take j).foldl Nd.noteL s1).Room 1 := Nd.Room.noteLs (k := 1) _ (hO.le (by rw [List.length_take]; omega))
        generalize (L.take j).foldl Nd.noteL s1 = sj at *
        have hw := nwrite_spec w0 mu gn sj { h with vr := vr } ⟨false, l.dest, l.seq⟩ (by unfold Nd.Room at hrm; omega) (by unfold Nd.Room at hrm; omega)
        obtain ⟨ld, lq, lh, ln, lv, le, lb⟩ := l
        simp only at hw htk
        simp only [nodPm] at hw ⊢
        simp only [nodC] at hw ⊢
        cases hm : mget sj.held ld with
        | none =>
          have hst : sj.noteL ⟨ld, lq, lh, ln, lv, le, lb⟩ = sj.write ⟨false, ld, lq⟩ := by simp [Nd.noteL, hm]
          rw [hst] at htk
          repeat' (first
            | (show WS _ _ _ (.region 0 _ true) _ _; refine WS_drawA [0, 1, 2, 3, 4, 5, 6, 7, 8, 9] (by decide +kernel) rfl ?_)
            | (show WS _ _ _ (.region 5 _ true) _ _; refine WS_drawA [0, 1, 2, 3, 4, 5, 6, 7, 8, 9, 10, 11, 12] (by decide +kernel) rfl ?_)
            | (refine WS_seqK ?_; intro K hK)
            | (refine hK _ ?_; clear hK K)
            | (with_reducible (first | refine thenS_n ?_ | refine thenS_e ?_ | refine blockS_n ?_ | refine blockS_e ?_ | refine blockS_o rfl ?_ | refine thenS_r ?_ | refine blockS_r ?_ | refine use_K (by assumption) ?_))
            | refine WS_region ?_
            | refine LS_nil ?_
            | (show LS _ _ _ _ _ (⟨_, _, _, _, _, some _⟩ :: _) _; first | refine LS_wantT rfl rfl iI rfl ?_ | refine LS_wantF rfl rfl iI rfl ?_ | refine LS_wantU rfl rfl rfl ?_ | ((first | refine LS_wantS rfl rfl rfl ?_ ?_ | refine LS_wantN rfl ?_ ?_) <;> intro hc <;> (try simp only [decide_eq_true_eq, decide_eq_false_iff_not, Bool.not_eq_eq_eq_not, Bool.not_true, Bool.not_false, Bool.and_eq_true, Bool.or_eq_true, bne_iff_ne, beq_iff_eq, ne_eq, Decidable.not_not] at hc) <;> (try (exfalso; first | contradiction | omega; done))))
            | (first | refine DL_nilA ?_ | refine DL_nilS ?_ | refine DL_nilN ?_ | refine DL_nilE ?_ | refine DL_nilR ?_)
            | (first | refine DL_claimS rfl ?_ | refine DL_claim rfl rfl ?_)
            | (refine DL_alloc iI rfl ?_; intro g)
            | ((first | refine' LQ ?h rfl ?_ | refine' DL_qp rfl rfl rfl ?h ?_ | refine' DL_q rfl rfl ?h ?_); case h => intro F'; first | exact Q_move rfl | exact Q_assign rfl | exact Q_nilCheck rfl | exact Q_fieldAddr rfl iI rfl | exact Q_load rfl iI iI rfl | exact Q_bin_t rfl rfl iI (by first | assumption | omega) | exact Q_bin_f rfl rfl iI (by first | assumption | omega) | exact Q_bin_nt rfl rfl iI (by first | assumption | omega) | exact Q_bin_nf rfl rfl iI (by first | assumption | omega) | exact Q_addI rfl rfl (by omega) | exact Q_subI rfl rfl (by omega) | exact Q_extract rfl rfl | exact Q_pick_t rfl iI rfl | exact Q_pick_f rfl iI rfl | exact Q_pick rfl rfl rfl | exact Q_un rfl iI | exact Q_loadA rfl iI iI rfl | exact Q_build iI iI rfl rfl | exact Q_buildA iI iI iI rfl rfl | exact Q_len rfl iI | exact Q_lenS rfl iI | exact Q_index rfl rfl iI iI iI iI (by first | assumption | omega | (simp [be_length] <;> omega)) | exact Q_fieldR rfl iI iI rfl (by first | assumption | omega | (simp [be_length] <;> omega)) | exact Q_loadR rfl iI iI iI (by assumption) rfl | exact Q_loadR rfl iI iI iI rfl rfl | exact Q_loadRA rfl iI iI iI (by assumption) | exact Q_lenR rfl iI iI | exact Q_lenM rfl iI iI | exact Q_lookupOk_s rfl rfl iI iI iI iI iI (by assumption) | exact Q_lookupOk_n rfl rfl iI iI iI iI iI (by assumption) | exact Q_lookup_s rfl rfl iI iI iI iI iI (by assumption) | exact Q_lookup_n rfl rfl iI iI iI iI iI (by assumption) | exact Q_lookupOk rfl rfl iI iI iI iI iI | exact Q_lookup rfl rfl iI iI iI iI iI | exact Q_addS rfl rfl (by first | omega | (simp [be_length] <;> omega)) | exact Q_indexV rfl rfl iI iI iI (by first | assumption | omega) | exact Q_nilCheck_f rfl | exact Q_quoI rfl rfl (by omega) | exact Q_remI rfl rfl (by omega) | exact Q_negI rfl (by omega) | exact Q_mulI rfl rfl (by omega))
            | ((first | refine LS_binS rfl rfl iI rfl ?_ ?_ | refine LS_binN rfl rfl iI rfl ?_ ?_ | refine DL_binS rfl rfl iI rfl ?_ ?_) <;> intro hc)
            | ((first | refine' LQ ?h rfl ?_ | refine' DL_qp rfl rfl rfl ?h ?_ | refine' DL_q rfl rfl ?h ?_); case h => intro F'; first | exact Q_bin rfl rfl iI)
            | ((first | refine' LS_h ?h rfl ?_ | refine' DL_h ?h rfl rfl rfl ?_); (case h => first | exact H_alloc iI); intro g)
            | ((first | refine' LS_h0 ?h ?_ | refine' DL_h0 ?h rfl rfl ?_); (case h => first | exact H_storeO rfl rfl iI iI iI rfl | exact H_storeAO rfl rfl iI iI iI rfl | exact H_store8 rfl rfl iI iI rfl iI (by first | assumption | omega | (simp [be_length] <;> omega)) | exact H_storeRA _ rfl rfl rfl iI iI iI rfl rfl (by first | assumption | omega | (simp [be_length] <;> omega)) | exact H_storeR _ rfl rfl iI iI iI rfl (by assumption) rfl | exact H_store rfl rfl iI (by first | rfl | assumption) iI rfl | exact H_storeA rfl rfl iI iI (by first | rfl | (simp only [List.all_cons, List.all_nil, *]; rfl)) rfl); intro g)
            | (first | refine WS_block ?_ | refine WS_skip ?_ | refine WS_ret ?_ | refine WS_exit ?_ | refine WS_label ?_)
            | (show WS _ _ _ (.cond _ _ _) _ _; first | refine WS_condT rfl iI ?_ | refine WS_condF rfl iI ?_ | refine WS_condH_t rfl (by assumption) ?_ | refine WS_condH_f rfl (by assumption) ?_ | (refine WS_cond rfl ?_ ?_ <;> intro hc <;> (try simp only [decide_eq_true_eq, decide_eq_false_iff_not, Bool.not_eq_eq_eq_not, Bool.not_true, Bool.not_false, Bool.and_eq_true, Bool.or_eq_true, bne_iff_ne, beq_iff_eq, ne_eq, Decidable.not_not] at hc) <;> (try (exfalso; first | contradiction | omega; done))))
            | (refine LS_h (H_callX iI rfl hw iI) rfl ?_; intro vr2))
          exact ⟨k - 1, _, by omega, ⟨j + 1, vr2, by omega, rfl⟩, ⟨rfl, rfl, rfl, rfl, trivial⟩, rfl, by rw [htk]; dsimp only; ((try simp only [star_assoc, emp_star, star_emp]); (repeat' (first | exact Ent.last | refine Ent.take ?_ | refine Ent.nilT ?_ | refine Ent.takeR (by first | rfl | assumption | (simp; done)) ?_ | exact Ent.refl _)))⟩
        | some q =>
          by_cases hq : q < lq
          · have hst : sj.noteL ⟨ld, lq, lh, ln, lv, le, lb⟩ = sj.write ⟨false, ld, lq⟩ := by simp [Nd.noteL, hm, hq]
            rw [hst] at htk
            repeat' (first
              | (show WS _ _ _ (.region 0 _ true) _ _; refine WS_drawA [0, 1, 2, 3, 4, 5, 6, 7, 8, 9] (by decide +kernel) rfl ?_)
              | (show WS _ _ _ (.region 5 _ true) _ _; refine WS_drawA [0, 1, 2, 3, 4, 5, 6, 7, 8, 9, 10, 11, 12] (by decide +kernel) rfl ?_)
              | (refine WS_seqK ?_; intro K hK)
              | (refine hK _ ?_; clear hK K)
              | (with_reducible (first | refine thenS_n ?_ | refine thenS_e ?_ | refine blockS_n ?_ | refine blockS_e ?_ | refine blockS_o rfl ?_ | refine thenS_r ?_ | refine blockS_r ?_ | refine use_K (by assumption) ?_))
              | refine WS_region ?_
              | refine LS_nil ?_
              | (show LS _ _ _ _ _ (⟨_, _, _, _, _, some _⟩ :: _) _; first | refine LS_wantT rfl rfl iI rfl ?_ | refine LS_wantF rfl rfl iI rfl ?_ | refine LS_wantU rfl rfl rfl ?_ | ((first | refine LS_wantS rfl rfl rfl ?_ ?_ | refine LS_wantN rfl ?_ ?_) <;> intro hc <;> (try simp only [decide_eq_true_eq, decide_eq_false_iff_not, Bool.not_eq_eq_eq_not, Bool.not_true, Bool.not_false, Bool.and_eq_true, Bool.or_eq_true, bne_iff_ne, beq_iff_eq, ne_eq, Decidable.not_not] at hc) <;> (try (exfalso; first | contradiction | omega; done))))
              | (first | refine DL_nilA ?_ | refine DL_nilS ?_ | refine DL_nilN ?_ | refine DL_nilE ?_ | refine DL_nilR ?_)
              | (first | refine DL_claimS rfl ?_ | refine DL_claim rfl rfl ?_)
              | (refine DL_alloc iI rfl ?_; intro g)
              | ((first | refine' LQ ?h rfl ?_ | refine' DL_qp rfl rfl rfl ?h ?_ | refine' DL_q rfl rfl ?h ?_); case h => intro F'; first | exact Q_move rfl | exact Q_assign rfl | exact Q_nilCheck rfl | exact Q_fieldAddr rfl iI rfl | exact Q_load rfl iI iI rfl | exact Q_bin_t rfl rfl iI (by first | assumption | omega) | exact Q_bin_f rfl rfl iI (by first | assumption | omega) | exact Q_bin_nt rfl rfl iI (by first | assumption | omega) | exact Q_bin_nf rfl rfl iI (by first | assumption | omega) | exact Q_addI rfl rfl (by omega) | exact Q_subI rfl rfl (by omega) | exact Q_extract rfl rfl | exact Q_pick_t rfl iI rfl | exact Q_pick_f rfl iI rfl | exact Q_pick rfl rfl rfl | exact Q_un rfl iI | exact Q_loadA rfl iI iI rfl | exact Q_build iI iI rfl rfl | exact Q_buildA iI iI iI rfl rfl | exact Q_len rfl iI | exact Q_lenS rfl iI | exact Q_index rfl rfl iI iI iI iI (by first | assumption | omega | (simp [be_length] <;> omega)) | exact Q_fieldR rfl iI iI rfl (by first | assumption | omega | (simp [be_length] <;> omega)) | exact Q_loadR rfl iI iI iI (by assumption) rfl | exact Q_loadR rfl iI iI iI rfl rfl | exact Q_loadRA rfl iI iI iI (by assumption) | exact Q_lenR rfl iI iI | exact Q_lenM rfl iI iI | exact Q_lookupOk_s rfl rfl iI iI iI iI iI (by assumption) | exact Q_lookupOk_n rfl rfl iI iI iI iI iI (by assumption) | exact Q_lookup_s rfl rfl iI iI iI iI iI (by assumption) | exact Q_lookup_n rfl rfl iI iI iI iI iI (by assumption) | exact Q_lookupOk rfl rfl iI iI iI iI iI | exact Q_lookup rfl rfl iI iI iI iI iI | exact Q_addS rfl rfl (by first | omega | (simp [be_length] <;> omega)) | exact Q_indexV rfl rfl iI iI iI (by first | assumption | omega) | exact Q_nilCheck_f rfl | exact Q_quoI rfl rfl (by omega) | exact Q_remI rfl rfl (by omega) | exact Q_negI rfl (by omega) | exact Q_mulI rfl rfl (by omega))
              | ((first | refine LS_binS rfl rfl iI rfl ?_ ?_ | refine LS_binN rfl rfl iI rfl ?_ ?_ | refine DL_binS rfl rfl iI rfl ?_ ?_) <;> intro hc)
              | ((first | refine' LQ ?h rfl ?_ | refine' DL_qp rfl rfl rfl ?h ?_ | refine' DL_q rfl rfl ?h ?_); case h => intro F'; first | exact Q_bin rfl rfl iI)
              | ((first | refine' LS_h ?h rfl ?_ | refine' DL_h ?h rfl rfl rfl ?_); (case h => first | exact H_alloc iI); intro g)
              | ((first | refine' LS_h0 ?h ?_ | refine' DL_h0 ?h rfl rfl ?_); (case h => first | exact H_storeO rfl rfl iI iI iI rfl | exact H_storeAO rfl rfl iI iI iI rfl | exact H_store8 rfl rfl iI iI rfl iI (by first | assumption | omega | (simp [be_length] <;> omega)) | exact H_storeRA _ rfl rfl rfl iI iI iI rfl rfl (by first | assumption | omega | (simp [be_length] <;> omega)) | exact H_storeR _ rfl rfl iI iI iI rfl (by assumption) rfl | exact H_store rfl rfl iI (by first | rfl | assumption) iI rfl | exact H_storeA rfl rfl iI iI (by first | rfl | (simp only [List.all_cons, List.all_nil, *]; rfl)) rfl); intro g)
              | (first | refine WS_block ?_ | refine WS_skip ?_ | refine WS_ret ?_ | refine WS_exit ?_ | refine WS_label ?_)
              | (show WS _ _ _ (.cond _ _ _) _ _; first | refine WS_condT rfl iI ?_ | refine WS_condF rfl iI ?_ | refine WS_condH_t rfl (by assumption) ?_ | refine WS_condH_f rfl (by assumption) ?_ | (refine WS_cond rfl ?_ ?_ <;> intro hc <;> (try simp only [decide_eq_true_eq, decide_eq_false_iff_not, Bool.not_eq_eq_eq_not, Bool.not_true, Bool.not_false, Bool.and_eq_true, Bool.or_eq_true, bne_iff_ne, beq_iff_eq, ne_eq, Decidable.not_not] at hc) <;> (try (exfalso; first | contradiction | omega; done))))
              | (refine LS_h (H_callX iI rfl hw iI) rfl ?_; intro vr2))
            exact ⟨k - 1, _, by omega, ⟨j + 1, vr2, by omega, rfl⟩, ⟨rfl, rfl, rfl, rfl, trivial⟩, rfl, by rw [htk]; dsimp only; ((try simp only [star_assoc, emp_star, star_emp]); (repeat' (first | exact Ent.last | refine Ent.take ?_ | refine Ent.nilT ?_ | refine Ent.takeR (by first | rfl | assumption | (simp; done)) ?_ | exact Ent.refl _)))⟩
          · have hst : sj.noteL ⟨ld, lq, lh, ln, lv, le, lb⟩ = sj := by simp [Nd.noteL, hm, hq]
            rw [hst] at htk
            repeat' (first
              | (show WS _ _ _ (.region 0 _ true) _ _; refine WS_drawA [0, 1, 2, 3, 4, 5, 6, 7, 8, 9] (by decide +kernel) rfl ?_)
              | (show WS _ _ _ (.region 5 _ true) _ _; refine WS_drawA [0, 1, 2, 3, 4, 5, 6, 7, 8, 9, 10, 11, 12] (by decide +kernel) rfl ?_)
              | (refine WS_seqK ?_; intro K hK)
              | (refine hK _ ?_; clear hK K)
              | (with_reducible (first | refine thenS_n ?_ | refine thenS_e ?_ | refine blockS_n ?_ | refine blockS_e ?_ | refine blockS_o rfl ?_ | refine thenS_r ?_ | refine blockS_r ?_ | refine use_K (by assumption) ?_))
              | refine WS_region ?_
              | refine LS_nil ?_
              | (show LS _ _ _ _ _ (⟨_, _, _, _, _, some _⟩ :: _) _; first | refine LS_wantT rfl rfl iI rfl ?_ | refine LS_wantF rfl rfl iI rfl ?_ | refine LS_wantU rfl rfl rfl ?_ | ((first | refine LS_wantS rfl rfl rfl ?_ ?_ | refine LS_wantN rfl ?_ ?_) <;> intro hc <;> (try simp only [decide_eq_true_eq, decide_eq_false_iff_not, Bool.not_eq_eq_eq_not, Bool.not_true, Bool.not_false, Bool.and_eq_true, Bool.or_eq_true, bne_iff_ne, beq_iff_eq, ne_eq, Decidable.not_not] at hc) <;> (try (exfalso; first | contradiction | omega; done))))
              | (first | refine DL_nilA ?_ | refine DL_nilS ?_ | refine DL_nilN ?_ | refine DL_nilE ?_ | refine DL_nilR ?_)
              | (first | refine DL_claimS rfl ?_ | refine DL_claim rfl rfl ?_)
              | (refine DL_alloc iI rfl ?_; intro g)
              | ((first | refine' LQ ?h rfl ?_ | refine' DL_qp rfl rfl rfl ?h ?_ | refine' DL_q rfl rfl ?h ?_); case h => intro F'; first | exact Q_move rfl | exact Q_assign rfl | exact Q_nilCheck rfl | exact Q_fieldAddr rfl iI rfl | exact Q_load rfl iI iI rfl | exact Q_bin_t rfl rfl iI (by first | assumption | omega) | exact Q_bin_f rfl rfl iI (by first | assumption | omega) | exact Q_bin_nt rfl rfl iI (by first | assumption | omega) | exact Q_bin_nf rfl rfl iI (by first | assumption | omega) | exact Q_addI rfl rfl (by omega) | exact Q_subI rfl rfl (by omega) | exact Q_extract rfl rfl | exact Q_pick_t rfl iI rfl | exact Q_pick_f rfl iI rfl | exact Q_pick rfl rfl rfl | exact Q_un rfl iI | exact Q_loadA rfl iI iI rfl | exact Q_build iI iI rfl rfl | exact Q_buildA iI iI iI rfl rfl | exact Q_len rfl iI | exact Q_lenS rfl iI | exact Q_index rfl rfl iI iI iI iI (by first | assumption | omega | (simp [be_length] <;> omega)) | exact Q_fieldR rfl iI iI rfl (by first | assumption | omega | (simp [be_length] <;> omega)) | exact Q_loadR rfl iI iI iI (by assumption) rfl | exact Q_loadR rfl iI iI iI rfl rfl | exact Q_loadRA rfl iI iI iI (by assumption) | exact Q_lenR rfl iI iI | exact Q_lenM rfl iI iI | exact Q_lookupOk_s rfl rfl iI iI iI iI iI (by assumption) | exact Q_lookupOk_n rfl rfl iI iI iI iI iI (by assumption) | exact Q_lookup_s rfl rfl iI iI iI iI iI (by assumption) | exact Q_lookup_n rfl rfl iI iI iI iI iI (by assumption) | exact Q_lookupOk rfl rfl iI iI iI iI iI | exact Q_lookup rfl rfl iI iI iI iI iI | exact Q_addS rfl rfl (by first | omega | (simp [be_length] <;> omega)) | exact Q_indexV rfl rfl iI iI iI (by first | assumption | omega) | exact Q_nilCheck_f rfl | exact Q_quoI rfl rfl (by omega) | exact Q_remI rfl rfl (by omega) | exact Q_negI rfl (by omega) | exact Q_mulI rfl rfl (by omega))
              | ((first | refine LS_binS rfl rfl iI rfl ?_ ?_ | refine LS_binN rfl rfl iI rfl ?_ ?_ | refine DL_binS rfl rfl iI rfl ?_ ?_) <;> intro hc)
              | ((first | refine' LQ ?h rfl ?_ | refine' DL_qp rfl rfl rfl ?h ?_ | refine' DL_q rfl rfl ?h ?_); case h => intro F'; first | exact Q_bin rfl rfl iI)
              | ((first | refine' LS_h ?h rfl ?_ | refine' DL_h ?h rfl rfl rfl ?_); (case h => first | exact H_alloc iI); intro g)
              | ((first | refine' LS_h0 ?h ?_ | refine' DL_h0 ?h rfl rfl ?_); (case h => first | exact H_storeO rfl rfl iI iI iI rfl | exact H_storeAO rfl rfl iI iI iI rfl | exact H_store8 rfl rfl iI iI rfl iI (by first | assumption | omega | (simp [be_length] <;> omega)) | exact H_storeRA _ rfl rfl rfl iI iI iI rfl rfl (by first | assumption | omega | (simp [be_length] <;> omega)) | exact H_storeR _ rfl rfl iI iI iI rfl (by assumption) rfl | exact H_store rfl rfl iI (by first | rfl | assumption) iI rfl | exact H_storeA rfl rfl iI iI (by first | rfl | (simp only [List.all_cons, List.all_nil, *]; rfl)) rfl); intro g)
              | (first | refine WS_block ?_ | refine WS_skip ?_ | refine WS_ret ?_ | refine WS_exit ?_ | refine WS_label ?_)
              | (show WS _ _ _ (.cond _ _ _) _ _; first | refine WS_condT rfl iI ?_ | refine WS_condF rfl iI ?_ | refine WS_condH_t rfl (by assumption) ?_ | refine WS_condH_f rfl (by assumption) ?_ | (refine WS_cond rfl ?_ ?_ <;> intro hc <;> (try simp only [decide_eq_true_eq, decide_eq_false_iff_not, Bool.not_eq_eq_eq_not, Bool.not_true, Bool.not_false, Bool.and_eq_true, Bool.or_eq_true, bne_iff_ne, beq_iff_eq, ne_eq, Decidable.not_not] at hc) <;> (try (exfalso; first | contradiction | omega; done)))))
            exact ⟨k - 1, _, by omega, ⟨j + 1, vr, by omega, rfl⟩, ⟨rfl, rfl, rfl, rfl, trivial⟩, rfl, by rw [htk]; dsimp only; ((try simp only [star_assoc, emp_star, star_emp]); (repeat' (first | exact Ent.last | refine Ent.take ?_ | refine Ent.nilT ?_ | refine Ent.takeR (by first | rfl | assumption | (simp; done)) ?_ | exact Ent.refl _)))⟩
      · obtain rfl : j = ps.length := by omega
        rw [List.take_of_length_le (by omega)]
        generalize L.foldl Nd.noteL s1 = sj at *
        simp only [nodPm]
        simp only [nodC]
        repeat' (first
          | (show WS _ _ _ (.region 0 _ true) _ _; refine WS_drawA [0, 1, 2, 3, 4, 5, 6, 7, 8, 9] (by decide +kernel) rfl ?_)
          | (show WS _ _ _ (.region 5 _ true) _ _; refine WS_drawA [0, 1, 2, 3, 4, 5, 6, 7, 8, 9, 10, 11, 12] (by decide +kernel) rfl ?_)
          | (refine WS_seqK ?_; intro K hK)
          | (refine hK _ ?_; clear hK K)
          | (with_reducible (first | refine thenS_n ?_ | refine thenS_e ?_ | refine blockS_n ?_ | refine blockS_e ?_ | refine blockS_o rfl ?_ | refine thenS_r ?_ | refine blockS_r ?_ | refine use_K (by assumption) ?_))
          | refine WS_region ?_
          | refine LS_nil ?_
          | (show LS _ _ _ _ _ (⟨_, _, _, _, _, some _⟩ :: _) _; first | refine LS_wantT rfl rfl iI rfl ?_ | refine LS_wantF rfl rfl iI rfl ?_ | refine LS_wantU rfl rfl rfl ?_ | ((first | refine LS_wantS rfl rfl rfl ?_ ?_ | refine LS_wantN rfl ?_ ?_) <;> intro hc <;> (try simp only [decide_eq_true_eq, decide_eq_false_iff_not, Bool.not_eq_eq_eq_not, Bool.not_true, Bool.not_false, Bool.and_eq_true, Bool.or_eq_true, bne_iff_ne, beq_iff_eq, ne_eq, Decidable.not_not] at hc) <;> (try (exfalso; first | contradiction | omega; done))))
          | (first | refine DL_nilA ?_ | refine DL_nilS ?_ | refine DL_nilN ?_ | refine DL_nilE ?_ | refine DL_nilR ?_)
          | (first | refine DL_claimS rfl ?_ | refine DL_claim rfl rfl ?_)
          | (refine DL_alloc iI rfl ?_; intro g)
          | ((first | refine' LQ ?h rfl ?_ | refine' DL_qp rfl rfl rfl ?h ?_ | refine' DL_q rfl rfl ?h ?_); case h => intro F'; first | exact Q_move rfl | exact Q_assign rfl | exact Q_nilCheck rfl | exact Q_fieldAddr rfl iI rfl | exact Q_load rfl iI iI rfl | exact Q_bin_t rfl rfl iI (by first | assumption | omega | decide) | exact Q_bin_f rfl rfl iI (by first | assumption | omega | decide) | exact Q_bin_nt rfl rfl iI (by first | assumption | omega | decide) | exact Q_bin_nf rfl rfl iI (by first | assumption | omega | decide) | exact Q_addI rfl rfl (by omega) | exact Q_subI rfl rfl (by omega) | exact Q_extract rfl rfl | exact Q_pick_t rfl iI rfl | exact Q_pick_f rfl iI rfl | exact Q_pick rfl rfl rfl | exact Q_un rfl iI | exact Q_loadA rfl iI iI rfl | exact Q_build iI iI rfl rfl | exact Q_buildA iI iI iI rfl rfl | exact Q_len rfl iI | exact Q_lenS rfl iI | exact Q_index rfl rfl iI iI iI iI (by first | assumption | omega | (simp [be_length] <;> omega)) | exact Q_fieldR rfl iI iI rfl (by first | assumption | omega | (simp [be_length] <;> omega)) | exact Q_loadR rfl iI iI iI (by assumption) rfl | exact Q_loadR rfl iI iI iI rfl rfl | exact Q_loadRA rfl iI iI iI (by assumption) | exact Q_lenR rfl iI iI | exact Q_lenM rfl iI iI | exact Q_lookupOk_s rfl rfl iI iI iI iI iI (by assumption) | exact Q_lookupOk_n rfl rfl iI iI iI iI iI (by assumption) | exact Q_lookup_s rfl rfl iI iI iI iI iI (by assumption) | exact Q_lookup_n rfl rfl iI iI iI iI iI (by assumption) | exact Q_lookupOk rfl rfl iI iI iI iI iI | exact Q_lookup rfl rfl iI iI iI iI iI | exact Q_addS rfl rfl (by first | omega | (simp [be_length] <;> omega)) | exact Q_indexV rfl rfl iI iI iI (by first | assumption | omega) | exact Q_nilCheck_f rfl | exact Q_quoI rfl rfl (by omega) | exact Q_remI rfl rfl (by omega) | exact Q_negI rfl (by omega) | exact Q_mulI rfl rfl (by omega))
          | ((first | refine LS_binS rfl rfl iI rfl ?_ ?_ | refine LS_binN rfl rfl iI rfl ?_ ?_ | refine DL_binS rfl rfl iI rfl ?_ ?_) <;> intro hc)
          | ((first | refine' LQ ?h rfl ?_ | refine' DL_qp rfl rfl rfl ?h ?_ | refine' DL_q rfl rfl ?h ?_); case h => intro F'; first | exact Q_bin rfl rfl iI)
          | ((first | refine' LS_h ?h rfl ?_ | refine' DL_h ?h rfl rfl rfl ?_); (case h => first | exact H_alloc iI); intro g)
          | ((first | refine' LS_h0 ?h ?_ | refine' DL_h0 ?h rfl rfl ?_); (case h => first | exact H_storeO rfl rfl iI iI iI rfl | exact H_storeAO rfl rfl iI iI iI rfl | exact H_store8 rfl rfl iI iI rfl iI (by first | assumption | omega | (simp [be_length] <;> omega)) | exact H_storeRA _ rfl rfl rfl iI iI iI rfl rfl (by first | assumption | omega | (simp [be_length] <;> omega)) | exact H_storeR _ rfl rfl iI iI iI rfl (by assumption) rfl | exact H_store rfl rfl iI (by first | rfl | assumption) iI rfl | exact H_storeA rfl rfl iI iI (by first | rfl | (simp only [List.all_cons, List.all_nil, *]; rfl)) rfl); intro g)
          | (first | refine WS_block ?_ | refine WS_skip ?_ | refine WS_ret ?_ | refine WS_exit ?_ | refine WS_label ?_)
          | (show WS _ _ _ (.cond _ _ _) _ _; first | refine WS_condT rfl iI ?_ | refine WS_condF rfl iI ?_ | refine WS_condH_t rfl (by assumption) ?_ | refine WS_condH_f rfl (by assumption) ?_ | (refine WS_cond rfl ?_ ?_ <;> intro hc <;> (try simp only [decide_eq_true_eq, decide_eq_false_iff_not, Bool.not_eq_eq_eq_not, Bool.not_true, Bool.not_false, Bool.and_eq_true, Bool.or_eq_true, bne_iff_ne, beq_iff_eq, ne_eq, Decidable.not_not] at hc) <;> (try (exfalso; first | contradiction | omega; done)))))
        exact ret_none (.inr rfl) rfl ⟨vr, rfl, by ((try simp only [star_assoc, emp_star, star_emp]); (repeat' (first | exact Ent.last | refine Ent.take ?_ | refine Ent.nilT ?_ | refine Ent.takeR (by first | rfl | assumption | (simp; done)) ?_ | exact Ent.refl _)))⟩
end Go.Proofs.YtapoehkdnglahabGreat

/- A node's lock: its contracts, by the kit's; nothing else is in it. -/
namespace Go.Proofs.YtapoehkdnglahabGreat
open Go.RowKit
set_option linter.unusedVariables false
set_option linter.unusedSimpArgs false
set_option maxRecDepth 100000
noncomputable def par0 (f : Func) : Nat := f.params.toList.headD 0
noncomputable def muL : Go.Conc.Locks.MuLink := { lock := 62, unlock := 63, ilock := 113, iunlock := 114, lockSlow := 164, unlockSlow := 167, disable := 160, enable := 162, acquire := 163, relMerge := 165, cas32 := 161, add32 := 166, tMutex := 155, tIMutex := 153, tPMutex := par0 Tryz.f62, tPIMutex := par0 Tryz.f113, tPI32 := 261, tUP := 263, tNoCopy := 151, tU32 := 26 }
theorem muLib : Go.Conc.Locks.MuLib Tryz.prog muL := {
  f_lock := Tryz.func62.trans (congrArg some (by kernel_rfl)),
  f_unlock := Tryz.func63.trans (congrArg some (by kernel_rfl)),
  f_ilock := Tryz.func113.trans (congrArg some (by kernel_rfl)),
  f_iunlock := Tryz.func114.trans (congrArg some (by kernel_rfl)),
  f_disable := Tryz.func160.trans (congrArg some (by kernel_rfl)),
  f_enable := Tryz.func162.trans (congrArg some (by kernel_rfl)),
  f_acquire := Tryz.func163.trans (congrArg some (by kernel_rfl)),
  f_relMerge := Tryz.func165.trans (congrArg some (by kernel_rfl)),
  f_cas32 := Tryz.func161.trans (congrArg some (by kernel_rfl)),
  f_add32 := Tryz.func166.trans (congrArg some (by kernel_rfl)),
  underlying_tIMutex := by kernel_rfl,
  runUnderlying_tIMutex := fun w => by kernel_rfl,
  sizeOf_tIMutex := fun w => by kernel_rfl,
  isAgg_tIMutex := fun w => by kernel_rfl,
  zeroValue_tIMutex := fun w => by kernel_rfl,
  underlying_tMutex := by kernel_rfl,
  runUnderlying_tMutex := fun w => by kernel_rfl,
  sizeOf_tMutex := fun w => by kernel_rfl,
  isAgg_tMutex := fun w => by kernel_rfl,
  zeroValue_tMutex := fun w => by kernel_rfl,
  underlying_tPMutex := by kernel_rfl,
  runUnderlying_tPMutex := fun w => by kernel_rfl,
  sizeOf_tPMutex := fun w => by kernel_rfl,
  isAgg_tPMutex := fun w => by kernel_rfl,
  zeroValue_tPMutex := fun w => by kernel_rfl,
  underlying_tPIMutex := by kernel_rfl,
  runUnderlying_tPIMutex := fun w => by kernel_rfl,
  sizeOf_tPIMutex := fun w => by kernel_rfl,
  isAgg_tPIMutex := fun w => by kernel_rfl,
  zeroValue_tPIMutex := fun w => by kernel_rfl,
  underlying_tPI32 := by kernel_rfl,
  runUnderlying_tPI32 := fun w => by kernel_rfl,
  sizeOf_tPI32 := fun w => by kernel_rfl,
  isAgg_tPI32 := fun w => by kernel_rfl,
  zeroValue_tPI32 := fun w => by kernel_rfl,
  underlying_tUP := by kernel_rfl,
  runUnderlying_tUP := fun w => by kernel_rfl,
  sizeOf_tUP := fun w => by kernel_rfl,
  isAgg_tUP := fun w => by kernel_rfl,
  zeroValue_tUP := fun w => by kernel_rfl,
  underlying_tNoCopy := by kernel_rfl,
  runUnderlying_tNoCopy := fun w => by kernel_rfl,
  sizeOf_tNoCopy := fun w => by kernel_rfl,
  isAgg_tNoCopy := fun w => by kernel_rfl,
  zeroValue_tNoCopy := fun w => by kernel_rfl,
  underlying_t21 := by kernel_rfl,
  runUnderlying_t21 := fun w => by kernel_rfl,
  sizeOf_t21 := fun w => by kernel_rfl,
  isAgg_t21 := fun w => by kernel_rfl,
  zeroValue_t21 := fun w => by kernel_rfl,
  room_tIMutex := by kernel_rfl }
variable (w0 : World)
theorem lock_spec (g : Nat) (t : TypeId) (cs : List Value) : Spec Tryz.prog w0 62 [ptr g 0] (cel g t (.int .i32 0 :: cs)) (fun _ : Unit => .tuple #[]) (fun _ => cel g t (.int .i32 1 :: cs)) := by
  intro G w hs
  have hc : w.cell? ⟨g, 0, none⟩ = some (.int .i32 0) := by have := Sat.cell hs 0; simpa using this
  have hz : w.frozen? ⟨g, 0, none⟩ = false := Sat.frozen hs 0
  refine (Go.MuLone.lock_free (L := muL) muLib ⟨g, 0, none⟩ w hc hz).mono ?_
  rintro e w' ⟨rfl, rfl⟩
  refine ⟨(), rfl, ?_⟩
  have := Sat.set hs 0 (.int .i32 1)
  exact this.cast (by simp [cel])
theorem iunlock_spec (g : Nat) (t : TypeId) (cs : List Value) : Spec Tryz.prog w0 114 [ptr g 0] (cel g t (.int .i32 1 :: cs)) (fun _ : Unit => .tuple #[]) (fun _ => cel g t (.int .i32 0 :: cs)) := by
  intro G w hs
  have hc : w.cell? ⟨g, 0, none⟩ = some (.int .i32 1) := by have := Sat.cell hs 0; simpa using this
  have hz : w.frozen? ⟨g, 0, none⟩ = false := Sat.frozen hs 0
  refine (Go.MuLone.iunlock_held (L := muL) muLib ⟨g, 0, none⟩ w hc hz).mono ?_
  rintro e w' ⟨rfl, rfl⟩
  refine ⟨(), rfl, ?_⟩
  have := Sat.set hs 0 (.int .i32 0)
  exact this.cast (by simp [cel])
attribute [local irreducible] WS LS OpQ OpT OpH OpTQ Spec SpecQ cel
/-- Unlock, as a deferred call. -/
theorem unlock_D {u : FrameMode} {K : FrameMode → HProp → Prop} {g : Nat} {t : TypeId} {cs cs' : List Value} {H F : HProp} (hl : LimbB H g t cs' F) (hc : cs' = .int .i32 1 :: cs) (hk : K u (cel g t (.int .i32 0 :: cs) * F)) : DSpec Tryz.prog w0 63 [ptr g 0] u H K := by
  rw [hl.eq, hc]
  have p1 := iunlock_spec w0 g t cs
  refine DSpec.enter Tryz.func63 rfl Tryz.ntmps63 rfl ?_
  simp only [argE]
  repeat' (first
    | (refine WS_seqK ?_; intro K hK)
    | (refine hK _ ?_; clear hK K)
    | (with_reducible (first | refine thenS_n ?_ | refine thenS_e ?_ | refine blockS_n ?_ | refine blockS_e ?_ | refine blockS_o rfl ?_ | refine thenS_r ?_ | refine blockS_r ?_ | refine use_K (by assumption) ?_))
    | refine WS_region ?_
    | refine LS_nil ?_
    | ((refine' LQ ?h rfl ?_); case h => intro F'; first | exact Q_move rfl | exact Q_nilCheck rfl | exact Q_fieldAddr rfl iI rfl | exact Q_fieldR rfl iI iI rfl (by first | assumption | omega | (simp [be_length] <;> omega)) | exact Q_nilCheck_f rfl)
    | (first | refine WS_block ?_ | refine WS_skip ?_ | refine WS_ret ?_ | refine WS_exit ?_ | refine WS_label ?_)
    | (show WS _ _ _ (.cond _ _ _) _ _; first | refine WS_condT rfl iI ?_ | refine WS_condF rfl iI ?_ | refine WS_condH_t rfl (by assumption) ?_ | refine WS_condH_f rfl (by assumption) ?_ | (refine WS_cond rfl ?_ ?_ <;> intro hc <;> (try simp only [decide_eq_true_eq, decide_eq_false_iff_not, Bool.not_eq_eq_eq_not, Bool.not_true, Bool.not_false, Bool.and_eq_true, Bool.or_eq_true, bne_iff_ne, beq_iff_eq, ne_eq, Decidable.not_not] at hc) <;> (try (exfalso; first | contradiction | omega; done))))
    | (refine LS_h (H_callX iI rfl p1 iI) rfl ?_; intro g))
  exact ret_none (.inr rfl) rfl hk
end Go.Proofs.YtapoehkdnglahabGreat

/- What a table keeps: in plain Lean. -/
namespace Go.Proofs.YtapoehkdnglahabGreat
open Go.RowKit
set_option linter.unusedVariables false
set_option linter.unusedSimpArgs false
/-- A line is changed, its destination is not. -/
theorem TabOk.set {ls : List Ln} (h : TabOk ls) {i : Nat} {l x : Ln} (hl : ls[i]? = some l) (hd : x.dest = l.dest) (h1 : 0 ≤ x.hops ∧ x.hops ≤ 1000) (h2 : x.before.length ≤ 4) : TabOk (ls.set i x) := by
  obtain ⟨hlt, he⟩ := List.getElem?_eq_some_iff.1 hl
  have e : dests (ls.set i x) = dests ls := by
    unfold dests
    rw [List.map_set, hd, ← he]
    apply List.ext_getElem?
    intro k
    rw [List.getElem?_set]
    split
    · rename_i hk; subst hk; simp [hlt]
    · rfl
  refine ⟨by rw [e]; exact h.nodup, by simp; exact h.short, fun y hy => ?_, fun y hy => ?_⟩
  · rcases List.mem_or_eq_of_mem_set hy with hy | rfl
    · exact h.hops y hy
    · exact h1
  · rcases List.mem_or_eq_of_mem_set hy with hy | rfl
    · exact h.before y hy
    · exact h2
theorem TabOk.mod {ls : List Ln} (h : TabOk ls) (d : UInt32) (f : Ln → Ln) (hd : ∀ l ∈ ls, (f l).dest = l.dest) (h1 : ∀ l ∈ ls, 0 ≤ (f l).hops ∧ (f l).hops ≤ 1000) (h2 : ∀ l ∈ ls, (f l).before.length ≤ 4) : TabOk (lmod ls d f) := by
  cases hf : lfind ls d with
  | none => rw [lmod, hf]; exact h
  | some i =>
    obtain ⟨l, hl, _⟩ := lfind_some hf
    rw [lmod_some hf hl]
    have hm := List.mem_of_getElem? hl
    exact h.set hl (hd l hm) (h1 l hm) (h2 l hm)
theorem TabOk.map {ls : List Ln} (h : TabOk ls) (f : Ln → Ln) (hd : ∀ l ∈ ls, (f l).dest = l.dest) (h1 : ∀ l ∈ ls, 0 ≤ (f l).hops ∧ (f l).hops ≤ 1000) (h2 : ∀ l ∈ ls, (f l).before.length ≤ 4) : TabOk (ls.map f) := by
  have e : dests (ls.map f) = dests ls := by
    unfold dests
    rw [List.map_map]
    exact List.map_congr_left hd
  refine ⟨by rw [e]; exact h.nodup, by simp; exact h.short, fun y hy => ?_, fun y hy => ?_⟩
  all_goals
    obtain ⟨l, hl, rfl⟩ := List.mem_map.1 hy
    first | exact h1 l hl | exact h2 l hl
theorem TabOk.exp {ls : List Ln} (h : TabOk ls) (now : UInt64) : TabOk (expT now ls) := by
  refine h.map _ (fun l hl => ?_) (fun l hl => ?_) (fun l hl => ?_)
  all_goals
    have h1 := h.hops l hl
    have h2 := h.before l hl
    unfold Ln.exp
    split <;> simp_all [Ln.ended]
theorem TabOk.brk {ls : List Ln} (h : TabOk ls) (nb : UInt32) : TabOk (brkT nb ls) := by
  refine h.map _ (fun l hl => ?_) (fun l hl => ?_) (fun l hl => ?_)
  all_goals
    have h1 := h.hops l hl
    have h2 := h.before l hl
    unfold Ln.brk
    split <;> simp_all [Ln.ended]
theorem TabOk.bump {ls : List Ln} (h : TabOk ls) (d : UInt32) : TabOk (bumpT ls d) := by
  refine h.mod _ _ (fun l hl => ?_) (fun l hl => ?_) (fun l hl => ?_)
  all_goals
    have h1 := h.hops l hl
    have h2 := h.before l hl
    simp_all
theorem TabOk.lose {ls : List Ln} (h : TabOk ls) (src d s : UInt32) : TabOk (loseT ls src d s) := by
  refine h.mod _ _ (fun l hl => ?_) (fun l hl => ?_) (fun l hl => ?_)
  all_goals
    have h1 := h.hops l hl
    have h2 := h.before l hl
    split <;> simp_all [Ln.ended]
theorem lfind_notin {d : UInt32} {ls : List Ln} (h : lfind ls d = none) : d ∉ dests ls := by
  intro hm
  obtain ⟨l, hl, e⟩ := List.mem_map.1 hm
  exact lfind_none.1 h l hl e
theorem TabOk.put {ls : List Ln} (h : TabOk ls) (x : Ln) (hs : lfind ls x.dest = none → ls.length < 8) (h1 : 0 ≤ x.hops ∧ x.hops ≤ 1000) (h2 : x.before.length ≤ 4) : TabOk (putT ls x) := by
  unfold putT
  cases hf : lfind ls x.dest with
  | some i =>
    obtain ⟨l, hl, hd⟩ := lfind_some hf
    exact h.set hl hd.symm h1 h2
  | none =>
    have hn := lfind_notin hf
    have hlt := hs hf
    refine ⟨?_, by simp; omega, fun y hy => ?_, fun y hy => ?_⟩
    · have e : dests (ls ++ [x]) = dests ls ++ [x.dest] := by simp [dests]
      rw [e]
      exact List.nodup_append.2 ⟨h.nodup, by simp, fun a ha b hb => by simp at hb; subst hb; exact fun e => hn (e ▸ ha)⟩
    all_goals
      rcases List.mem_append.1 hy with hy | hy
      · first | exact h.hops y hy | exact h.before y hy
      · simp at hy; subst hy; first | exact h1 | exact h2
theorem TabOk.nil : TabOk [] := ⟨by simp [dests], by simp, by simp, by simp⟩
theorem TabOk.new (self : UInt32) (c : List Rec) : TabOk (newT self c) := by
  induction c using snocInd with
  | nil => exact TabOk.nil
  | snoc c r ih =>
    rw [newT_snoc]
    unfold newStep
    split
    · rename_i hc
      exact ih.put _ (fun _ => hc.2.2) (by simp [Rec.ln]) (by simp [Rec.ln])
    · exact ih
end Go.Proofs.YtapoehkdnglahabGreat

/- What a node's does does: the frame of each call. -/
namespace Go.Proofs.YtapoehkdnglahabGreat
open Go.RowKit
set_option linter.unusedVariables false
set_option linter.unusedSimpArgs false
section
variable {P : Program} {n : Frm} {w0 : World} {E : Env} {D : List Deferred} {H F : HProp} {ops : Array Oper} {l' : List Oper} {Q : Exit → St → Prop} {d : Option Tmp} {ty : TypeId} {pos : String} {after : Array Edge} {gu : Option (Tmp × Bool)}
theorem H_callVX {t : Tmp} {f : FuncId} {args caps : List Value} {α : Type} {X : HProp} {res : α → Value} {post : α → HProp} {xs : List Operand} {ts : Array TypeId} (hf : IsFun P f) (ht : E.get t = some (.func (.func f) #[] caps.toArray)) (hargs : E.evs xs = some args) (spec : Spec P w0 f (args ++ caps) X res post) (hl : Own H X F) :
    OpH P n w0 ⟨d, .call ⟨.value (.tmp t), xs.toArray, ts⟩, ty, pos, after, gu⟩ E H res (fun x => post x * F) := OpH.mk' (T_callV hf ht hargs spec) hl.eq
end
/-- A node between two calls; what its answer holds is not its own. -/
def nodI (g : Nat) (s : Nd) : HProp := hex fun p : NH × OutD => cel g 159 (nodC 0 s p.1 p.2) * (rows 28 3 Rec.cells p.1.vr s.recs * (mp u32 u32 p.1.rh s.held * (tabQ p.1.tb s.self s.ls * restP g s p.1)))
theorem WS_nodI {P : Program} {n : Frm} {w0 : World} {E : Env} {D : List Deferred} {F : HProp} {c : Code} {Q : Exit → St → Prop} {g : Nat} {s : Nd} (h : ∀ (h : NH) (o : OutD), WS P n w0 c Q ⟨E, D, (cel g 159 (nodC 0 s h o) * (rows 28 3 Rec.cells h.vr s.recs * (mp u32 u32 h.rh s.held * (tabQ h.tb s.self s.ls * restP g s h)))) * F⟩) : WS P n w0 c Q ⟨E, D, nodI g s * F⟩ := by
  unfold nodI
  exact WS_hex fun p => h p.1 p.2
theorem ent_nodI {g : Nat} {s : Nd} {H F : HProp} (h : NH) (o : OutD) (e : Ent H ((cel g 159 (nodC 0 s h o) * (rows 28 3 Rec.cells h.vr s.recs * (mp u32 u32 h.rh s.held * (tabQ h.tb s.self s.ls * restP g s h)))) * F)) : Ent H (nodI g s * F) := Ent.hexI (p := fun p : NH × OutD => cel g 159 (nodC 0 s p.1 p.2) * (rows 28 3 Rec.cells p.1.vr s.recs * (mp u32 u32 p.1.rh s.held * (tabQ p.1.tb s.self s.ls * restP g s p.1)))) (h, o) e
/-- An answer. -/
def outA (o : OutD) (v : Value × Value × Value) : Value := .agg #[strV o.journal, .bool o.replace, v.1, v.2.1, v.2.2]
def outR (o : OutD) (v : Value × Value × Value) : HProp := rows 48 2 txtC v.1 o.frames * (rows 70 2 txtC v.2.1 o.came * rows 166 1 intC v.2.2 o.dropped)
theorem Nd.noteL_recs (s : Nd) (l : Ln) : (s.noteL l).recs.length ≤ s.recs.length + 1 := by
  unfold Nd.noteL
  (repeat' split) <;> simp [Nd.write]
theorem Nd.noteO_recs (s : Nd) : s.noteO.recs.length ≤ s.recs.length + 1 := by
  unfold Nd.noteO
  split <;> simp [Nd.write]
theorem Nd.noteLs_recs (L : List Ln) : ∀ s : Nd, (L.foldl Nd.noteL s).recs.length ≤ s.recs.length + L.length := by
  induction L with
  | nil => intro s; simp
  | cons l L ih => intro s; have h1 := ih (s.noteL l); have h2 := s.noteL_recs l; simp only [List.foldl_cons, List.length_cons]; omega
theorem Nd.note_recs (s : Nd) (ok : TabOk s.ls) : s.note.recs.length ≤ s.recs.length + 9 := by
  have h1 := Nd.noteLs_recs (listT s.ls) s.noteO
  have h2 := s.noteO_recs
  have h3 := listT_length s.ls
  have h4 := ok.short
  unfold Nd.note
  omega
attribute [local irreducible] WS LS OpQ OpT OpH OpTQ Spec SpecQ cel
variable (w0 : World)
set_option maxRecDepth 100000 in
set_option maxHeartbeats 8000000 in
theorem does_spec {β : Type} (gn : Nat) (s s2 : Nd) (now : UInt64) (hr : s.recs.length ≤ 400000) (ok : TabOk s.ls) (hr2 : s2.recs.length ≤ 9000) (hj2 : s2.out.journal.length ≤ 800000) (ok2 : TabOk s2.ls) (fc : FuncId) (caps : List Value) (X : HProp) (Y : β → HProp) [hf : IsFun Tryz.prog fc]
    (hcl : Spec Tryz.prog w0 fc caps (nodA gn (s.begin now) * X) (fun _ : β => .tuple #[]) (fun y => nodA gn s2 * Y y)) :
    Spec Tryz.prog w0 64 [ptr gn 0, u64 now, .func (.func fc) #[] caps.toArray] (nodI gn s * X) (fun x : (Value × Value × Value) × β => outA s2.done.out x.1) (fun x => nodI gn s2.done * (outR s2.done.out x.1 * Y x.2)) := by
  refine Spec.enterM Tryz.func64 rfl Tryz.ntmps64 rfl fun G => ?_
  rw [star_assoc]
  refine WS_nodI fun h o => ?_
  simp only [argE, nodC]
  have p1 := lock_spec w0 gn 159 (nodC 0 s h o).tail
  have p2 := expire_spec w0 h.tb s.self s.ls ok now
  simp only [nodC, List.tail_cons] at p1
  repeat' (first
    | (refine WS_seqK ?_; intro K hK)
    | (refine hK _ ?_; clear hK K)
    | (with_reducible (first | refine thenS_n ?_ | refine thenS_e ?_ | refine blockS_n ?_ | refine blockS_e ?_ | refine blockS_o rfl ?_ | refine thenS_r ?_ | refine blockS_r ?_ | refine use_K (by assumption) ?_))
    | refine WS_region ?_
    | refine LS_nil ?_
    | ((refine' LQ ?h rfl ?_); case h => intro F'; first | exact Q_move rfl | exact Q_nilCheck rfl | exact Q_fieldAddr rfl iI rfl | exact Q_load rfl iI iI rfl | exact Q_bin_t rfl rfl iI (by first | assumption | omega | decide) | exact Q_bin_f rfl rfl iI (by first | assumption | omega | decide) | exact Q_bin_nt rfl rfl iI (by first | assumption | omega | decide) | exact Q_bin_nf rfl rfl iI (by first | assumption | omega | decide) | exact Q_addI rfl rfl (by omega) | exact Q_subI rfl rfl (by omega) | exact Q_loadA rfl iI iI rfl | exact Q_build iI iI rfl rfl | exact Q_buildA iI iI iI rfl rfl | exact Q_len rfl iI | exact Q_lenS rfl iI | exact Q_fieldR rfl iI iI rfl (by first | assumption | omega | (simp [be_length] <;> omega)) | exact Q_loadR rfl iI iI iI (by assumption) rfl | exact Q_loadR rfl iI iI iI rfl rfl | exact Q_loadRA rfl iI iI iI (by assumption) | exact Q_lenR rfl iI iI | exact Q_lenM rfl iI iI | exact Q_conv32_8 rfl iI iI iI | exact Q_conv64 rfl iI iI iI | exact Q_conv32 rfl iI iI iI | exact Q_convS rfl iI rfl iI iI iI | exact Q_convSame rfl iI iI (by omega) | exact Q_convI8 rfl iI iI | exact Q_conv328 rfl iI iI | exact Q_conv8 rfl iI iI | exact Q_bytesS rfl iI iI rfl iI iI iI | exact Q_addS rfl rfl (by first | omega | (simp [be_length] <;> omega)) | exact Q_nilCheck_f rfl | exact Q_quoI rfl rfl (by omega) | exact Q_remI rfl rfl (by omega) | exact Q_mulI rfl rfl (by omega))
    | ((first | refine LS_binS rfl rfl iI rfl ?_ ?_ | refine LS_binN rfl rfl iI rfl ?_ ?_) <;> intro hc)
    | ((refine' LQ ?h rfl ?_); case h => intro F'; first | exact Q_bin rfl rfl iI)
    | ((refine' LS_h ?h rfl ?_); (case h => first | exact H_convS rfl iI rfl iI iI iI); intro g)
    | ((refine' LS_h0 ?h ?_); (case h => first | exact H_storeO rfl rfl iI iI iI rfl | exact H_storeAO rfl rfl iI iI iI rfl | exact H_store8 rfl rfl iI iI rfl iI (by first | assumption | omega | (simp [be_length] <;> omega)) | exact H_storeRA _ rfl rfl rfl iI iI iI rfl rfl (by first | assumption | omega | (simp [be_length] <;> omega)) | exact H_storeR _ rfl rfl iI iI iI rfl (by assumption) rfl | exact H_store rfl rfl iI (by first | rfl | assumption) iI rfl | exact H_storeA rfl rfl iI iI (by first | rfl | (simp only [List.all_cons, List.all_nil, *]; rfl)) rfl); intro g)
    | (first | refine WS_block ?_ | refine WS_skip ?_ | refine WS_ret ?_ | refine WS_exit ?_ | refine WS_label ?_)
    | (show WS _ _ _ (.cond _ _ _) _ _; first | refine WS_condT rfl iI ?_ | refine WS_condF rfl iI ?_ | refine WS_condH_t rfl (by assumption) ?_ | refine WS_condH_f rfl (by assumption) ?_ | (refine WS_cond rfl ?_ ?_ <;> intro hc <;> (try simp only [decide_eq_true_eq, decide_eq_false_iff_not, Bool.not_eq_eq_eq_not, Bool.not_true, Bool.not_false, Bool.and_eq_true, Bool.or_eq_true, bne_iff_ne, beq_iff_eq, ne_eq, Decidable.not_not] at hc) <;> (try (exfalso; first | contradiction | omega; done))))
    | (refine LS_h (H_alloc iI) rfl ?_; intro go)
    | (refine LS_h (H_callX iI rfl p1 iI) rfl ?_; intro u1)
    | (refine LS_h (H_callX iI rfl p2 iI) rfl ?_; intro u2)
    | refine LS_defer rfl rfl rfl ?_)
  simp only [Env.putO]
  obtain ⟨h1, hh1⟩ : ∃ h1 : NH, h1 = { h with vf := .slice none 0 0, vc := .slice none 0 0, vd := .slice none 0 0 } := ⟨_, rfl⟩
  obtain ⟨s1, hs1⟩ : ∃ s1 : Nd, s1 = { s with now := now, out := OutD.zero, ls := expT now s.ls } := ⟨_, rfl⟩
  have eb : s.begin now = s1.note := by rw [hs1]; rfl
  have p3 := note_spec w0 1 gn s1 h1 (by rw [hs1]; unfold Nd.Room; simp only [OutD.zero, List.length_nil]; omega) (by rw [hs1]; exact ok.exp now)
  have er : restP gn s h = restP gn s1 h1 := by rw [hs1, hh1]; rfl
  refine LS_ent (Ent.nil _ 48 2 txtC none) ?_
  refine LS_ent (Ent.nil _ 70 2 txtC none) ?_
  refine LS_ent (Ent.nil _ 166 1 intC none) ?_
  refine LS_ent (H' := nodP gn s1 h1 * (cel go 35 [strV [], .bool false, .slice none 0 0, .slice none 0 0, .slice none 0 0] * (X * G))) (by rw [er]; rw [hs1, hh1]; simp only [nodP, nodPm, nodC, outH, OutD.zero]; ((try simp only [star_assoc, emp_star, star_emp]); (repeat' (first | exact Ent.last | refine Ent.take ?_ | refine Ent.nilT ?_ | refine Ent.takeR (by first | rfl | assumption | (simp; done)) ?_ | exact Ent.refl _)))) ?_
  clear er
  repeat' (first
    | (refine WS_seqK ?_; intro K hK)
    | (refine hK _ ?_; clear hK K)
    | (with_reducible (first | refine thenS_n ?_ | refine thenS_e ?_ | refine blockS_n ?_ | refine blockS_e ?_ | refine blockS_o rfl ?_ | refine thenS_r ?_ | refine blockS_r ?_ | refine use_K (by assumption) ?_))
    | refine WS_region ?_
    | refine LS_nil ?_
    | ((refine' LQ ?h rfl ?_); case h => intro F'; first | exact Q_move rfl | exact Q_nilCheck rfl | exact Q_fieldAddr rfl iI rfl | exact Q_load rfl iI iI rfl | exact Q_bin_t rfl rfl iI (by first | assumption | omega | decide) | exact Q_bin_f rfl rfl iI (by first | assumption | omega | decide) | exact Q_bin_nt rfl rfl iI (by first | assumption | omega | decide) | exact Q_bin_nf rfl rfl iI (by first | assumption | omega | decide) | exact Q_addI rfl rfl (by omega) | exact Q_subI rfl rfl (by omega) | exact Q_loadA rfl iI iI rfl | exact Q_build iI iI rfl rfl | exact Q_buildA iI iI iI rfl rfl | exact Q_len rfl iI | exact Q_lenS rfl iI | exact Q_fieldR rfl iI iI rfl (by first | assumption | omega | (simp [be_length] <;> omega)) | exact Q_loadR rfl iI iI iI (by assumption) rfl | exact Q_loadR rfl iI iI iI rfl rfl | exact Q_loadRA rfl iI iI iI (by assumption) | exact Q_lenR rfl iI iI | exact Q_lenM rfl iI iI | exact Q_conv32_8 rfl iI iI iI | exact Q_conv64 rfl iI iI iI | exact Q_conv32 rfl iI iI iI | exact Q_convS rfl iI rfl iI iI iI | exact Q_convSame rfl iI iI (by omega) | exact Q_convI8 rfl iI iI | exact Q_conv328 rfl iI iI | exact Q_conv8 rfl iI iI | exact Q_bytesS rfl iI iI rfl iI iI iI | exact Q_addS rfl rfl (by first | omega | (simp [be_length] <;> omega)) | exact Q_nilCheck_f rfl | exact Q_quoI rfl rfl (by omega) | exact Q_remI rfl rfl (by omega) | exact Q_mulI rfl rfl (by omega))
    | ((first | refine LS_binS rfl rfl iI rfl ?_ ?_ | refine LS_binN rfl rfl iI rfl ?_ ?_) <;> intro hc)
    | ((refine' LQ ?h rfl ?_); case h => intro F'; first | exact Q_bin rfl rfl iI)
    | ((refine' LS_h ?h rfl ?_); (case h => first | exact H_alloc iI | exact H_convS rfl iI rfl iI iI iI); intro g)
    | ((refine' LS_h0 ?h ?_); (case h => first | exact H_storeO rfl rfl iI iI iI rfl | exact H_storeAO rfl rfl iI iI iI rfl | exact H_store8 rfl rfl iI iI rfl iI (by first | assumption | omega | (simp [be_length] <;> omega)) | exact H_storeRA _ rfl rfl rfl iI iI iI rfl rfl (by first | assumption | omega | (simp [be_length] <;> omega)) | exact H_storeR _ rfl rfl iI iI iI rfl (by assumption) rfl | exact H_store rfl rfl iI (by first | rfl | assumption) iI rfl | exact H_storeA rfl rfl iI iI (by first | rfl | (simp only [List.all_cons, List.all_nil, *]; rfl)) rfl); intro g)
    | (first | refine WS_block ?_ | refine WS_skip ?_ | refine WS_ret ?_ | refine WS_exit ?_ | refine WS_label ?_)
    | (show WS _ _ _ (.cond _ _ _) _ _; first | refine WS_condT rfl iI ?_ | refine WS_condF rfl iI ?_ | refine WS_condH_t rfl (by assumption) ?_ | refine WS_condH_f rfl (by assumption) ?_ | (refine WS_cond rfl ?_ ?_ <;> intro hc <;> (try simp only [decide_eq_true_eq, decide_eq_false_iff_not, Bool.not_eq_eq_eq_not, Bool.not_true, Bool.not_false, Bool.and_eq_true, Bool.or_eq_true, bne_iff_ne, beq_iff_eq, ne_eq, Decidable.not_not] at hc) <;> (try (exfalso; first | contradiction | omega; done))))
    | (refine LS_h (H_callX iI rfl p3 iI) rfl ?_; intro v3))
  refine LS_ent (Ent.nod (g := gn) (s := s1.note) (F := X * (cel go 35 [strV [], .bool false, .slice none 0 0, .slice none 0 0, .slice none 0 0] * G)) { h1 with vr := v3 } (by ((try simp only [star_assoc, emp_star, star_emp]); (repeat' (first | exact Ent.last | refine Ent.take ?_ | refine Ent.nilT ?_ | refine Ent.takeR (by first | rfl | assumption | (simp; done)) ?_ | exact Ent.refl _))))) ?_
  rw [← eb]
  repeat' (first
    | (refine WS_seqK ?_; intro K hK)
    | (refine hK _ ?_; clear hK K)
    | (with_reducible (first | refine thenS_n ?_ | refine thenS_e ?_ | refine blockS_n ?_ | refine blockS_e ?_ | refine blockS_o rfl ?_ | refine thenS_r ?_ | refine blockS_r ?_ | refine use_K (by assumption) ?_))
    | refine WS_region ?_
    | refine LS_nil ?_
    | ((refine' LQ ?h rfl ?_); case h => intro F'; first | exact Q_move rfl | exact Q_nilCheck rfl | exact Q_fieldAddr rfl iI rfl | exact Q_load rfl iI iI rfl | exact Q_bin_t rfl rfl iI (by first | assumption | omega | decide) | exact Q_bin_f rfl rfl iI (by first | assumption | omega | decide) | exact Q_bin_nt rfl rfl iI (by first | assumption | omega | decide) | exact Q_bin_nf rfl rfl iI (by first | assumption | omega | decide) | exact Q_addI rfl rfl (by omega) | exact Q_subI rfl rfl (by omega) | exact Q_loadA rfl iI iI rfl | exact Q_build iI iI rfl rfl | exact Q_buildA iI iI iI rfl rfl | exact Q_len rfl iI | exact Q_lenS rfl iI | exact Q_fieldR rfl iI iI rfl (by first | assumption | omega | (simp [be_length] <;> omega)) | exact Q_loadR rfl iI iI iI (by assumption) rfl | exact Q_loadR rfl iI iI iI rfl rfl | exact Q_loadRA rfl iI iI iI (by assumption) | exact Q_lenR rfl iI iI | exact Q_lenM rfl iI iI | exact Q_conv32_8 rfl iI iI iI | exact Q_conv64 rfl iI iI iI | exact Q_conv32 rfl iI iI iI | exact Q_convS rfl iI rfl iI iI iI | exact Q_convSame rfl iI iI (by omega) | exact Q_convI8 rfl iI iI | exact Q_conv328 rfl iI iI | exact Q_conv8 rfl iI iI | exact Q_bytesS rfl iI iI rfl iI iI iI | exact Q_addS rfl rfl (by first | omega | (simp [be_length] <;> omega)) | exact Q_nilCheck_f rfl | exact Q_quoI rfl rfl (by omega) | exact Q_remI rfl rfl (by omega) | exact Q_mulI rfl rfl (by omega))
    | ((first | refine LS_binS rfl rfl iI rfl ?_ ?_ | refine LS_binN rfl rfl iI rfl ?_ ?_) <;> intro hc)
    | ((refine' LQ ?h rfl ?_); case h => intro F'; first | exact Q_bin rfl rfl iI)
    | ((refine' LS_h ?h rfl ?_); (case h => first | exact H_alloc iI | exact H_convS rfl iI rfl iI iI iI); intro g)
    | ((refine' LS_h0 ?h ?_); (case h => first | exact H_storeO rfl rfl iI iI iI rfl | exact H_storeAO rfl rfl iI iI iI rfl | exact H_store8 rfl rfl iI iI rfl iI (by first | assumption | omega | (simp [be_length] <;> omega)) | exact H_storeRA _ rfl rfl rfl iI iI iI rfl rfl (by first | assumption | omega | (simp [be_length] <;> omega)) | exact H_storeR _ rfl rfl iI iI iI rfl (by assumption) rfl | exact H_store rfl rfl iI (by first | rfl | assumption) iI rfl | exact H_storeA rfl rfl iI iI (by first | rfl | (simp only [List.all_cons, List.all_nil, *]; rfl)) rfl); intro g)
    | (first | refine WS_block ?_ | refine WS_skip ?_ | refine WS_ret ?_ | refine WS_exit ?_ | refine WS_label ?_)
    | (show WS _ _ _ (.cond _ _ _) _ _; first | refine WS_condT rfl iI ?_ | refine WS_condF rfl iI ?_ | refine WS_condH_t rfl (by assumption) ?_ | refine WS_condH_f rfl (by assumption) ?_ | (refine WS_cond rfl ?_ ?_ <;> intro hc <;> (try simp only [decide_eq_true_eq, decide_eq_false_iff_not, Bool.not_eq_eq_eq_not, Bool.not_true, Bool.not_false, Bool.and_eq_true, Bool.or_eq_true, bne_iff_ne, beq_iff_eq, ne_eq, Decidable.not_not] at hc) <;> (try (exfalso; first | contradiction | omega; done))))
    | (refine LS_h (H_callVX hf rfl rfl hcl iI) rfl ?_; intro y))
  rw [star_assoc]
  refine LS_nod fun h2 => ?_
  have p4 := note_spec w0 1 gn s2 h2 ⟨by omega, by omega⟩ ok2
  have hn2 := Nd.note_recs s2 ok2
  have hcl := compR_length s2.note.recs
  simp only [nodP, nodPm, outH] at p4 ⊢
  simp only [nodC] at p4 ⊢
  by_cases hm : 24 < s2.note.recs.length
  · have p5 := fun v => wcompact_spec w0 s2.note.recs (by omega) v (rows 28 3 Rec.cells v s2.note.recs)
    have p6 := fun v => wrecords_spec w0 (compR s2.note.recs) (by omega) v (rows 28 3 Rec.cells v (compR s2.note.recs))
    have hd : s2.done = { s2.note with recs := compR s2.note.recs, out := { s2.note.out with journal := recsB (compR s2.note.recs), replace := true } } := by unfold Nd.done; rw [if_pos hm]
    repeat' (first
      | (refine WS_seqK ?_; intro K hK)
      | (refine hK _ ?_; clear hK K)
      | (with_reducible (first | refine thenS_n ?_ | refine thenS_e ?_ | refine blockS_n ?_ | refine blockS_e ?_ | refine blockS_o rfl ?_ | refine thenS_r ?_ | refine blockS_r ?_ | refine use_K (by assumption) ?_))
      | refine WS_region ?_
      | refine LS_nil ?_
      | ((refine' LQ ?h rfl ?_); case h => intro F'; first | exact Q_move rfl | exact Q_nilCheck rfl | exact Q_fieldAddr rfl iI rfl | exact Q_load rfl iI iI rfl | exact Q_bin_t rfl rfl iI (by first | assumption | omega) | exact Q_bin_f rfl rfl iI (by first | assumption | omega) | exact Q_bin_nt rfl rfl iI (by first | assumption | omega) | exact Q_bin_nf rfl rfl iI (by first | assumption | omega) | exact Q_addI rfl rfl (by omega) | exact Q_subI rfl rfl (by omega) | exact Q_loadA rfl iI iI rfl | exact Q_build iI iI rfl rfl | exact Q_buildA iI iI iI rfl rfl | exact Q_len rfl iI | exact Q_lenS rfl iI | exact Q_fieldR rfl iI iI rfl (by first | assumption | omega | (simp [be_length] <;> omega)) | exact Q_loadR rfl iI iI iI (by assumption) rfl | exact Q_loadR rfl iI iI iI rfl rfl | exact Q_loadRA rfl iI iI iI (by assumption) | exact Q_lenR rfl iI iI | exact Q_lenM rfl iI iI | exact Q_conv32_8 rfl iI iI iI | exact Q_conv64 rfl iI iI iI | exact Q_conv32 rfl iI iI iI | exact Q_convS rfl iI rfl iI iI iI | exact Q_convSame rfl iI iI (by omega) | exact Q_convI8 rfl iI iI | exact Q_conv328 rfl iI iI | exact Q_conv8 rfl iI iI | exact Q_bytesS rfl iI iI rfl iI iI iI | exact Q_addS rfl rfl (by first | omega | (simp [be_length] <;> omega)) | exact Q_nilCheck_f rfl | exact Q_quoI rfl rfl (by omega) | exact Q_remI rfl rfl (by omega) | exact Q_mulI rfl rfl (by omega))
      | ((first | refine LS_binS rfl rfl iI rfl ?_ ?_ | refine LS_binN rfl rfl iI rfl ?_ ?_) <;> intro hc)
      | ((refine' LQ ?h rfl ?_); case h => intro F'; first | exact Q_bin rfl rfl iI)
      | ((refine' LS_h ?h rfl ?_); (case h => first | exact H_alloc iI | exact H_convS rfl iI rfl iI iI iI); intro g)
      | ((refine' LS_h0 ?h ?_); (case h => first | exact H_storeO rfl rfl iI iI iI rfl | exact H_storeAO rfl rfl iI iI iI rfl | exact H_store8 rfl rfl iI iI rfl iI (by first | assumption | omega | (simp [be_length] <;> omega)) | exact H_storeRA _ rfl rfl rfl iI iI iI rfl rfl (by first | assumption | omega | (simp [be_length] <;> omega)) | exact H_storeR _ rfl rfl iI iI iI rfl (by assumption) rfl | exact H_store rfl rfl iI (by first | rfl | assumption) iI rfl | exact H_storeA rfl rfl iI iI (by first | rfl | (simp only [List.all_cons, List.all_nil, *]; rfl)) rfl); intro g)
      | (first | refine WS_block ?_ | refine WS_skip ?_ | refine WS_ret ?_ | refine WS_exit ?_ | refine WS_label ?_)
      | (show WS _ _ _ (.cond _ _ _) _ _; first | refine WS_condT rfl iI ?_ | refine WS_condF rfl iI ?_ | refine WS_condH_t rfl (by assumption) ?_ | refine WS_condH_f rfl (by assumption) ?_ | (refine WS_cond rfl ?_ ?_ <;> intro hc <;> (try simp only [decide_eq_true_eq, decide_eq_false_iff_not, Bool.not_eq_eq_eq_not, Bool.not_true, Bool.not_false, Bool.and_eq_true, Bool.or_eq_true, bne_iff_ne, beq_iff_eq, ne_eq, Decidable.not_not] at hc) <;> (try (exfalso; first | contradiction | omega; done))))
      | (refine LS_h (H_callX iI rfl p4 iI) rfl ?_; intro v4)
      | (refine LS_h (H_callX iI rfl (p5 _) iI) rfl ?_; intro vc)
      | (refine LS_h (H_callX iI rfl (p6 _) iI) rfl ?_; intro vb))
    refine out_r (lv_call (u := .returning) (caps := []) (args := [ptr gn 0]) (by simp) inferInstance ?_)
    refine unlock_D w0 iI rfl ?_
    refine lv_ret1 rfl (RV_cell rfl iI iI rfl) ⟨((h2.vf, h2.vc, h2.vd), y), by rw [hd]; rfl, ?_⟩
    rw [hd]
    unfold outR
    rw [star_assoc (nodI _ _)]
    refine ent_nodI { h2 with vr := vc } { s2.note.out with journal := recsB (compR s2.note.recs), replace := true } ?_
    have er : restP gn { s2.note with recs := compR s2.note.recs, out := { s2.note.out with journal := recsB (compR s2.note.recs), replace := true } } { h2 with vr := vc } = restP gn s2.note { h2 with vr := v4 } := rfl
    dsimp only
    rw [er]
    simp only [nodC]
    ((try simp only [star_assoc, emp_star, star_emp]); (repeat' (first | exact Ent.last | refine Ent.take ?_ | refine Ent.nilT ?_ | refine Ent.takeR (by first | rfl | assumption | (simp; done)) ?_ | exact Ent.refl _)))
  · have hd : s2.done = s2.note := by unfold Nd.done; rw [if_neg hm]
    repeat' (first
      | (refine WS_seqK ?_; intro K hK)
      | (refine hK _ ?_; clear hK K)
      | (with_reducible (first | refine thenS_n ?_ | refine thenS_e ?_ | refine blockS_n ?_ | refine blockS_e ?_ | refine blockS_o rfl ?_ | refine thenS_r ?_ | refine blockS_r ?_ | refine use_K (by assumption) ?_))
      | refine WS_region ?_
      | refine LS_nil ?_
      | ((refine' LQ ?h rfl ?_); case h => intro F'; first | exact Q_move rfl | exact Q_nilCheck rfl | exact Q_fieldAddr rfl iI rfl | exact Q_load rfl iI iI rfl | exact Q_bin_t rfl rfl iI (by first | assumption | omega) | exact Q_bin_f rfl rfl iI (by first | assumption | omega) | exact Q_bin_nt rfl rfl iI (by first | assumption | omega) | exact Q_bin_nf rfl rfl iI (by first | assumption | omega) | exact Q_addI rfl rfl (by omega) | exact Q_subI rfl rfl (by omega) | exact Q_loadA rfl iI iI rfl | exact Q_build iI iI rfl rfl | exact Q_buildA iI iI iI rfl rfl | exact Q_len rfl iI | exact Q_lenS rfl iI | exact Q_fieldR rfl iI iI rfl (by first | assumption | omega | (simp [be_length] <;> omega)) | exact Q_loadR rfl iI iI iI (by assumption) rfl | exact Q_loadR rfl iI iI iI rfl rfl | exact Q_loadRA rfl iI iI iI (by assumption) | exact Q_lenR rfl iI iI | exact Q_lenM rfl iI iI | exact Q_conv32_8 rfl iI iI iI | exact Q_conv64 rfl iI iI iI | exact Q_conv32 rfl iI iI iI | exact Q_convS rfl iI rfl iI iI iI | exact Q_convSame rfl iI iI (by omega) | exact Q_convI8 rfl iI iI | exact Q_conv328 rfl iI iI | exact Q_conv8 rfl iI iI | exact Q_bytesS rfl iI iI rfl iI iI iI | exact Q_addS rfl rfl (by first | omega | (simp [be_length] <;> omega)) | exact Q_nilCheck_f rfl | exact Q_quoI rfl rfl (by omega) | exact Q_remI rfl rfl (by omega) | exact Q_mulI rfl rfl (by omega))
      | ((first | refine LS_binS rfl rfl iI rfl ?_ ?_ | refine LS_binN rfl rfl iI rfl ?_ ?_) <;> intro hc)
      | ((refine' LQ ?h rfl ?_); case h => intro F'; first | exact Q_bin rfl rfl iI)
      | ((refine' LS_h ?h rfl ?_); (case h => first | exact H_alloc iI | exact H_convS rfl iI rfl iI iI iI); intro g)
      | ((refine' LS_h0 ?h ?_); (case h => first | exact H_storeO rfl rfl iI iI iI rfl | exact H_storeAO rfl rfl iI iI iI rfl | exact H_store8 rfl rfl iI iI rfl iI (by first | assumption | omega | (simp [be_length] <;> omega)) | exact H_storeRA _ rfl rfl rfl iI iI iI rfl rfl (by first | assumption | omega | (simp [be_length] <;> omega)) | exact H_storeR _ rfl rfl iI iI iI rfl (by assumption) rfl | exact H_store rfl rfl iI (by first | rfl | assumption) iI rfl | exact H_storeA rfl rfl iI iI (by first | rfl | (simp only [List.all_cons, List.all_nil, *]; rfl)) rfl); intro g)
      | (first | refine WS_block ?_ | refine WS_skip ?_ | refine WS_ret ?_ | refine WS_exit ?_ | refine WS_label ?_)
      | (show WS _ _ _ (.cond _ _ _) _ _; first | refine WS_condT rfl iI ?_ | refine WS_condF rfl iI ?_ | refine WS_condH_t rfl (by assumption) ?_ | refine WS_condH_f rfl (by assumption) ?_ | (refine WS_cond rfl ?_ ?_ <;> intro hc <;> (try simp only [decide_eq_true_eq, decide_eq_false_iff_not, Bool.not_eq_eq_eq_not, Bool.not_true, Bool.not_false, Bool.and_eq_true, Bool.or_eq_true, bne_iff_ne, beq_iff_eq, ne_eq, Decidable.not_not] at hc) <;> (try (exfalso; first | contradiction | omega; done))))
      | (refine LS_h (H_callX iI rfl p4 iI) rfl ?_; intro v4))
    refine out_r (lv_call (u := .returning) (caps := []) (args := [ptr gn 0]) (by simp) inferInstance ?_)
    refine unlock_D w0 iI rfl ?_
    refine lv_ret1 rfl (RV_cell rfl iI iI rfl) ⟨((h2.vf, h2.vc, h2.vd), y), by rw [hd]; rfl, ?_⟩
    rw [hd]
    unfold outR
    rw [star_assoc (nodI _ _)]
    refine ent_nodI { h2 with vr := v4 } s2.note.out ?_
    simp only [nodC]
    ((try simp only [star_assoc, emp_star, star_emp]); (repeat' (first | exact Ent.last | refine Ent.take ?_ | refine Ent.nilT ?_ | refine Ent.takeR (by first | rfl | assumption | (simp; done)) ?_ | exact Ent.refl _)))
end Go.Proofs.YtapoehkdnglahabGreat

