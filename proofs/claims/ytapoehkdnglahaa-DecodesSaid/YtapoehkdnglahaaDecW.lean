/- What wire.Decode returns, by a walk. -/
import Derived.Test.YtapoehkdnglahaaDecS
import Derived.Test.YtapoehkdnglahaaAny
namespace Go.Proofs.Ytapoehkdnglahaa
open Go.RowKit
set_option linter.unusedVariables false
set_option linter.unusedSimpArgs false
theorem WS_at {P : Program} {n : Frm} {w0 : World} {c : Code} {Q : Exit → St → Prop} {σ : St} (h : ∀ w, Sat w0 w σ.H → WS P n w0 c Q σ) : WS P n w0 c Q σ := fun a w g => h w g.sat a w g
attribute [local irreducible] WS LS OpQ OpT OpH OpTQ Spec SpecQ SpecX DSpec cel AS
variable (w0 : World)
instance rdr_tail1 {w0 : World} {H : HProp} {v : Value} {α : Type} {size : Nat} {f : α → List Value} {b : α} {l : List α} [h : Rdr w0 H v α size f (b :: l)] : Rdr w0 H (sTail size v 1) α size f l := ⟨fun w hs => (h.at_ w hs).tail 1⟩
instance : IfaceT Try.prog 20 := ⟨by kernel_rfl⟩
section rules
variable {w0 : World} {n : Frm} {E : Env} {D : List Deferred} {H F : HProp} {ops : Array Oper} {ol : List Oper} {Q : Exit → St → Prop} {d : Nat} {xs : List Operand} {ts : Array TypeId} {ty : TypeId} {pos : String} {after : Array Edge} {g : Nat} {v : Value} {b : UInt8} {l : List UInt8}
theorem LS_one_t (hx : E.evs xs = some [ptr g 0]) (hl : LimbB H g 139 [v] F) (hX : Rdr w0 F v UInt8 1 byteC (b :: l)) (hd : Nat.blt d n.tmps = true) (h : LS Try.prog n w0 ops Q ol ⟨(d, .int .i64 (b.toNat : Int)) :: E, D, cel g 139 [sTail 1 v 1] * F⟩) : LS Try.prog n w0 ops Q (⟨some d, .call ⟨.value (.func 93), xs.toArray, ts⟩, ty, pos, after, none⟩ :: ol) ⟨E, D, H⟩ := by
  refine LS_h (H_callH inferInstance hx (one_t w0 (b :: l) v g F (by simp)) (hl.eq.trans star_emp.symm)) hd fun u => ?_
  rw [star_emp]
  exact h
theorem LS_one_f (hx : E.evs xs = some [ptr g 0]) (hl : LimbB H g 139 [v] F) (hX : Rdr w0 F v UInt8 1 byteC []) (h : Q (.panic brk) ⟨E, D, cel g 139 [v] * F⟩) : LS Try.prog n w0 ops Q (⟨some d, .call ⟨.value (.func 93), xs.toArray, ts⟩, ty, pos, after, none⟩ :: ol) ⟨E, D, H⟩ := by
  refine LS_callX inferInstance hx (one_f w0 [] v g F (by simp)) ⟨hl.eq.trans star_emp.symm⟩ ?_
  rw [star_emp]; exact h
theorem LS_four (hx : E.evs xs = some [ptr g 0]) (hl : LimbB H g 139 [v] F) (hX : Rdr w0 F v UInt8 1 byteC l) (hd : Nat.blt d n.tmps = true) (h1 : 4 ≤ l.length → LS Try.prog n w0 ops Q ol ⟨(d, u32 (numAt l 0)) :: E, D, cel g 139 [sTail 1 v 4] * F⟩) (h2 : l.length < 4 → Q (.panic brk) ⟨E, D, cel g 139 [v] * F⟩) : LS Try.prog n w0 ops Q (⟨some d, .call ⟨.value (.func 95), xs.toArray, ts⟩, ty, pos, after, none⟩ :: ol) ⟨E, D, H⟩ := by
  rcases Nat.lt_or_ge l.length 4 with hk | hk
  · refine LS_callX inferInstance hx (four_f w0 l v g F hk) ⟨hl.eq.trans star_emp.symm⟩ ?_
    rw [star_emp]; exact h2 hk
  · refine LS_h (H_callH inferInstance hx (four_t w0 l v g F hk) (hl.eq.trans star_emp.symm)) hd fun u => ?_
    rw [star_emp]
    exact h1 hk
theorem LS_take {k : Nat} {x : Int} (hx : E.evs xs = some [ptr g 0, .int .i64 x]) (hk : AsNat x k) (hl : LimbB H g 139 [v] F) (hX : Rdr w0 F v UInt8 1 byteC l) (hd : Nat.blt d n.tmps = true) (h1 : k ≤ l.length → LS Try.prog n w0 ops Q ol ⟨(d, sHead v k) :: E, D, cel g 139 [sTail 1 v k] * F⟩) (h2 : l.length < k → Q (.panic brk) ⟨E, D, cel g 139 [v] * F⟩) : LS Try.prog n w0 ops Q (⟨some d, .call ⟨.value (.func 96), xs.toArray, ts⟩, ty, pos, after, none⟩ :: ol) ⟨E, D, H⟩ := by
  rcases Nat.lt_or_ge l.length k with hk' | hk'
  · refine LS_callX inferInstance hx (take_f w0 l v g F k x hk.eq hk') ⟨hl.eq.trans star_emp.symm⟩ ?_
    rw [star_emp]; exact h2 hk'
  · refine LS_h (H_callH inferInstance hx (take_t w0 l v g F k x hk.eq hk') (hl.eq.trans star_emp.symm)) hd fun u => ?_
    rw [star_emp]
    exact h1 hk'
theorem LS_must {b : Bool} (hx : E.evs xs = some [.bool b]) (hd : Nat.blt d n.tmps = true) (h1 : b = true → LS Try.prog n w0 ops Q ol ⟨(d, .tuple #[]) :: E, D, H⟩) (h2 : b = false → Q (.panic brk) ⟨E, D, H⟩) : LS Try.prog n w0 ops Q (⟨some d, .call ⟨.value (.func 94), xs.toArray, ts⟩, ty, pos, after, none⟩ :: ol) ⟨E, D, H⟩ := by
  cases b with
  | false =>
    refine LS_callX inferInstance hx (must_f w0) ⟨emp_star.symm⟩ ?_
    rw [emp_star]; exact h2 rfl
  | true =>
    refine LS_h (H_callH inferInstance hx (must_t w0) emp_star.symm) hd fun u => ?_
    rw [emp_star]
    exact h1 rfl
theorem LS_deferV0 {t : Tmp} {f : FuncId} {caps args : List Value} (hn : n.round = none) (ht : E.get t = some (.func (.func f) #[] caps.toArray)) (hargs : E.evs xs = some args)
    (h : LS Try.prog n w0 ops Q ol ⟨E, ⟨.fn (.func f) caps.toArray, args.toArray⟩ :: D, H⟩) : LS Try.prog n w0 ops Q (⟨none, .defer ⟨.value (.tmp t), xs.toArray, ts⟩, ty, pos, after, none⟩ :: ol) ⟨E, D, H⟩ := LS_deferV (d := none) hn rfl ht hargs h
theorem WS_formR {α : Type} {size : Nat} {f : α → List Value} {l : List α} {c : Code} (v : Value) (hl : Rdr w0 H v α size f l) (h : ∀ A cap, v = .slice A l.length cap → WS Try.prog n w0 c Q ⟨E, D, H⟩) : WS Try.prog n w0 c Q ⟨E, D, H⟩ := WS_at fun w hs => by
  obtain ⟨A, cap, e, _⟩ := (hl.at_ w hs).form
  exact h A cap e
end rules
/-- The nothing of packets. -/
def Pk.zero : Pk := ⟨0, 0, 0, false, 0, 0, 0, 0, 0, 0, [], []⟩
section out
variable {w0 : World} {m : Frm} {E : Env} {H F Y : HProp} {R : Value → HProp → Prop} {p q : Nat} {cs bs : List Value}
theorem dspec_p {K : FrameMode → HProp → Prop} (hl : LimbB H p 38 cs F) (hl2 : LimbB F q 4 bs Y) (hcs : cs.length = 12) (hbs : bs.length = 1) (h : K (.panicking [{ v := .iface 177 (.agg #[]), recovered := true }]) (cel p 38 (Pk.zero.cells (.slice none 0 0)) * (cel q 4 [.bool false] * Y))) :
    DSpec Try.prog w0 92 [ptr p 0, ptr q 0] (.panicking brk) H K := by
  obtain ⟨c0, c1, c2, c3, c4, c5, c6, c7, c8, c9, c10, c11, rfl⟩ : ∃ c0 c1 c2 c3 c4 c5 c6 c7 c8 c9 c10 c11, cs = [c0, c1, c2, c3, c4, c5, c6, c7, c8, c9, c10, c11] := by
    match cs, hcs with
    | [c0, c1, c2, c3, c4, c5, c6, c7, c8, c9, c10, c11], _ => exact ⟨_, _, _, _, _, _, _, _, _, _, _, _, rfl⟩
  obtain ⟨b0, rfl⟩ : ∃ b0, bs = [b0] := by
    match bs, hbs with
    | [b0], _ => exact ⟨_, rfl⟩
  refine DSpec.enterR Try.func92 rfl Try.ntmps92 rfl rfl rfl (Q_bin (v := .iface 177 (.agg #[])) (u := .nilIface) (r := .bool true) rfl rfl inferInstance) ?_
  simp only [argE, recV, brk]
  have e : H = cel p 38 [c0, c1, c2, c3, c4, c5, c6, c7, c8, c9, c10, c11] * (cel q 4 [b0] * Y) := by rw [hl.eq, hl2.eq]
  rw [e]
  repeat' (first
    | (refine WS_seqK ?_; intro K hK)
    | (refine hK _ ?_; clear hK K)
    | with_reducible refine thenS_n ?_
    | with_reducible refine thenS_e ?_
    | with_reducible refine blockS_n ?_
    | with_reducible refine blockS_e ?_
    | with_reducible refine blockS_o rfl ?_
    | with_reducible refine thenS_r ?_
    | with_reducible refine blockS_r ?_
    | with_reducible refine use_K (by assumption) ?_
    | refine WS_region ?_
    | refine LS_nil ?_
    | (show LS _ _ _ _ _ (⟨some _, .binOp _ _ _ _ _, _, _, _, none⟩ :: _) _; first | refine LS_q (Q_bin_t rfl rfl inferInstance (by first | assumption | omega | decide)) rfl ?_ | refine LS_q (Q_bin_f rfl rfl inferInstance (by first | assumption | omega | decide)) rfl ?_ | refine LS_q (Q_bin_nt rfl rfl inferInstance (by first | assumption | omega | decide)) rfl ?_ | refine LS_q (Q_bin_nf rfl rfl inferInstance (by first | assumption | omega | decide)) rfl ?_ | (refine LS_binS rfl rfl inferInstance rfl ?_ ?_ <;> intro hc) | (refine LS_binN rfl rfl inferInstance rfl ?_ ?_ <;> intro hc) | refine LS_q (Q_bin rfl rfl inferInstance) rfl ?_ | refine LS_q (Q_addI rfl rfl (by omega)) rfl ?_ | refine LS_q (Q_subI rfl rfl (by omega)) rfl ?_ | refine LS_q (Q_addS rfl rfl (by (try simp only [List.length_append, List.length_cons, List.length_nil, be_length, List.length_set]); omega)) rfl ?_ | refine LS_q (Q_quoI rfl rfl (by omega)) rfl ?_ | refine LS_q (Q_remI rfl rfl (by omega)) rfl ?_ | refine LS_q (Q_mulI rfl rfl (by omega)) rfl ?_)
    | (show LS _ _ _ _ _ (⟨some _, .build _ _, _, _, _, none⟩ :: _) _; first | refine LS_q (Q_build inferInstance inferInstance rfl rfl) rfl ?_ | refine LS_q (Q_buildA inferInstance inferInstance inferInstance rfl rfl) rfl ?_)
    | (show LS _ _ _ _ _ (⟨none, _, _, _, _, none⟩ :: _) _; first | (refine LS_h0 (H_storeO rfl rfl inferInstance inferInstance inferInstance rfl) ?_; intro g) | (refine LS_h0 (H_storeAO rfl rfl inferInstance inferInstance inferInstance rfl) ?_; intro g) | (refine LS_h0 (H_store8 rfl rfl inferInstance inferInstance rfl inferInstance (by first | assumption | omega | ((try simp only [List.length_append, List.length_cons, List.length_nil, be_length, List.length_set]); omega))) ?_; intro g) | (refine LS_h0 (H_storeRA _ rfl rfl rfl inferInstance inferInstance inferInstance rfl rfl (by first | assumption | omega | ((try simp only [List.length_append, List.length_cons, List.length_nil, be_length, List.length_set]); omega))) ?_; intro g) | (refine LS_h0 (H_storeR _ rfl rfl inferInstance inferInstance inferInstance rfl (by assumption) rfl) ?_; intro g) | (refine LS_h0 (H_store rfl rfl inferInstance (by first | rfl | assumption) inferInstance rfl) ?_; intro g) | (refine LS_h0 (H_storeA rfl rfl inferInstance inferInstance (by first | rfl | (simp only [List.all_cons, List.all_nil, *]; rfl)) rfl) ?_; intro g))
    | refine WS_block ?_
    | refine WS_skip ?_
    | refine WS_ret ?_
    | refine WS_exit ?_
    | refine WS_label ?_
    | (show WS _ _ _ (.cond _ _ _) _ _; first | refine WS_condT rfl inferInstance ?_ | refine WS_condF rfl inferInstance ?_ | refine WS_condH_t rfl (by assumption) ?_ | refine WS_condH_f rfl (by assumption) ?_ | (refine WS_cond rfl ?_ ?_ <;> intro hc <;> (try simp only [decide_eq_true_eq, decide_eq_false_iff_not, Bool.not_eq_eq_eq_not, Bool.not_true, Bool.not_false, Bool.and_eq_true, Bool.or_eq_true, bne_iff_ne, beq_iff_eq, ne_eq, Decidable.not_not] at hc) <;> (try (exfalso; first | contradiction | omega; done)))))
  refine ret_none (.inr rfl) rfl ?_
  have e2 : ∀ A B C : HProp, B * (A * C) = A * (B * C) := fun A B C => star_left_comm _ _ _
  simpa only [e2, Pk.zero, Pk.cells] using h
theorem dspec_r {K : FrameMode → HProp → Prop} (h : K .returning H) : DSpec Try.prog w0 92 [ptr p 0, ptr q 0] .returning H K := by
  refine DSpec.enterR Try.func92 rfl Try.ntmps92 rfl rfl rfl (Q_neqNilC rfl inferInstance) ?_
  simp only [argE, recV]
  repeat' (first
    | (refine WS_seqK ?_; intro K hK)
    | (refine hK _ ?_; clear hK K)
    | with_reducible refine thenS_n ?_
    | with_reducible refine thenS_e ?_
    | with_reducible refine blockS_n ?_
    | with_reducible refine blockS_e ?_
    | with_reducible refine blockS_o rfl ?_
    | with_reducible refine thenS_r ?_
    | with_reducible refine blockS_r ?_
    | with_reducible refine use_K (by assumption) ?_
    | refine WS_region ?_
    | refine LS_nil ?_
    | (show LS _ _ _ _ _ (⟨some _, .binOp _ _ _ _ _, _, _, _, none⟩ :: _) _; first | refine LS_q (Q_bin_t rfl rfl inferInstance (by first | assumption | omega | decide)) rfl ?_ | refine LS_q (Q_bin_f rfl rfl inferInstance (by first | assumption | omega | decide)) rfl ?_ | refine LS_q (Q_bin_nt rfl rfl inferInstance (by first | assumption | omega | decide)) rfl ?_ | refine LS_q (Q_bin_nf rfl rfl inferInstance (by first | assumption | omega | decide)) rfl ?_ | (refine LS_binS rfl rfl inferInstance rfl ?_ ?_ <;> intro hc) | (refine LS_binN rfl rfl inferInstance rfl ?_ ?_ <;> intro hc) | refine LS_q (Q_bin rfl rfl inferInstance) rfl ?_ | refine LS_q (Q_addI rfl rfl (by omega)) rfl ?_ | refine LS_q (Q_subI rfl rfl (by omega)) rfl ?_ | refine LS_q (Q_addS rfl rfl (by (try simp only [List.length_append, List.length_cons, List.length_nil, be_length, List.length_set]); omega)) rfl ?_ | refine LS_q (Q_quoI rfl rfl (by omega)) rfl ?_ | refine LS_q (Q_remI rfl rfl (by omega)) rfl ?_ | refine LS_q (Q_mulI rfl rfl (by omega)) rfl ?_)
    | (show LS _ _ _ _ _ (⟨some _, .build _ _, _, _, _, none⟩ :: _) _; first | refine LS_q (Q_build inferInstance inferInstance rfl rfl) rfl ?_ | refine LS_q (Q_buildA inferInstance inferInstance inferInstance rfl rfl) rfl ?_)
    | (show LS _ _ _ _ _ (⟨none, _, _, _, _, none⟩ :: _) _; first | (refine LS_h0 (H_storeO rfl rfl inferInstance inferInstance inferInstance rfl) ?_; intro g) | (refine LS_h0 (H_storeAO rfl rfl inferInstance inferInstance inferInstance rfl) ?_; intro g) | (refine LS_h0 (H_store8 rfl rfl inferInstance inferInstance rfl inferInstance (by first | assumption | omega | ((try simp only [List.length_append, List.length_cons, List.length_nil, be_length, List.length_set]); omega))) ?_; intro g) | (refine LS_h0 (H_storeRA _ rfl rfl rfl inferInstance inferInstance inferInstance rfl rfl (by first | assumption | omega | ((try simp only [List.length_append, List.length_cons, List.length_nil, be_length, List.length_set]); omega))) ?_; intro g) | (refine LS_h0 (H_storeR _ rfl rfl inferInstance inferInstance inferInstance rfl (by assumption) rfl) ?_; intro g) | (refine LS_h0 (H_store rfl rfl inferInstance (by first | rfl | assumption) inferInstance rfl) ?_; intro g) | (refine LS_h0 (H_storeA rfl rfl inferInstance inferInstance (by first | rfl | (simp only [List.all_cons, List.all_nil, *]; rfl)) rfl) ?_; intro g))
    | refine WS_block ?_
    | refine WS_skip ?_
    | refine WS_ret ?_
    | refine WS_exit ?_
    | refine WS_label ?_
    | (show WS _ _ _ (.cond _ _ _) _ _; first | refine WS_condT rfl inferInstance ?_ | refine WS_condF rfl inferInstance ?_ | refine WS_condH_t rfl (by assumption) ?_ | refine WS_condH_f rfl (by assumption) ?_ | (refine WS_cond rfl ?_ ?_ <;> intro hc <;> (try simp only [decide_eq_true_eq, decide_eq_false_iff_not, Bool.not_eq_eq_eq_not, Bool.not_true, Bool.not_false, Bool.and_eq_true, Bool.or_eq_true, bne_iff_ne, beq_iff_eq, ne_eq, Decidable.not_not] at hc) <;> (try (exfalso; first | contradiction | omega; done)))))
  exact ret_none (.inr rfl) rfl h
theorem out_brk (h2 : E.get 2 = some (ptr p 0)) (h3 : E.get 3 = some (ptr q 0)) (hl : LimbB H p 38 cs F) (hl2 : LimbB F q 4 bs Y) (hcs : cs.length = 12) (hbs : bs.length = 1)
    (hR : R (.tuple #[Pk.zero.val (.slice none 0 0), .bool false]) (cel p 38 (Pk.zero.cells (.slice none 0 0)) * (cel q 4 [.bool false] * Y))) :
    outS Try.prog m w0 Try.f57 R (.panic brk) ⟨E, [⟨.fn (.func 92) ([ptr p 0, ptr q 0] : List Value).toArray, ([] : List Value).toArray⟩], H⟩ :=
  out_p (lv_call (caps := [ptr p 0, ptr q 0]) (args := []) (by simp) inferInstance (dspec_p hl hl2 hcs hbs (lv_ret2 rfl (RV_cell h2 inferInstance inferInstance rfl) (RV_cellS h3 inferInstance inferInstance rfl) hR)))
theorem out_ok {vs : List Value} (h2 : E.get 2 = some (ptr p 0)) (h3 : E.get 3 = some (ptr q 0)) (hl : LimbB H p 38 cs F) (hl2 : LimbB H q 4 [.bool true] Y) (hcs : takeL cs 0 12 = some vs)
    (hR : R (.tuple #[.agg vs.toArray, .bool true]) H) :
    outS Try.prog m w0 Try.f57 R .ret ⟨E, [⟨.fn (.func 92) ([ptr p 0, ptr q 0] : List Value).toArray, ([] : List Value).toArray⟩], H⟩ :=
  out_r (lv_call (caps := [ptr p 0, ptr q 0]) (args := []) (by simp) inferInstance (dspec_r (lv_ret2 rfl (RV_cell h2 hl inferInstance hcs) (RV_cellS h3 hl2 inferInstance rfl) hR)))
end out
/-- What Decode hands out. -/
def decV (l : List UInt8) (v' : Value) : Value := .tuple #[((Pk.dec l).getD Pk.zero).val v', .bool (Pk.dec l).isSome]
abbrev decH (l : List UInt8) (v' : Value) (X : HProp) : HProp := rows 96 2 lostC v' ((Pk.dec l).getD Pk.zero).lost * X
theorem dec_short (l : List UInt8) (h : l.length < 5) : Pk.dec l = none := by
  match l, h with
  | [], _ => rfl
  | [_], _ => rfl
  | [_, _], _ => rfl
  | [_, _, _], _ => rfl
  | [_, _, _, _], _ => rfl
  | _ :: _ :: _ :: _ :: _ :: _, h => simp at h; omega
set_option maxRecDepth 100000 in
set_option maxHeartbeats 4000000 in
theorem wdecode_short (l : List UInt8) (hl : l.length < 5) (v : Value) (X : HProp) [hX : Rdr w0 X v UInt8 1 byteC l] : Spec Try.prog w0 57 [v] X (fun v' : Value => decV l v') (fun v' => decH l v' X) := by
  have hd := dec_short l hl
  simp only [decV, decH, hd]
  refine Spec.enterM Try.func57 rfl Try.ntmps57 rfl fun G => ?_
  simp only [argE]
  refine WS_formR v (inferInstance : Rdr w0 (X * G) v UInt8 1 byteC l) fun A cap hv => ?_
  subst hv
  iterate 5
    rcases l with _ | ⟨a, l⟩
    · repeat' (first
        | (refine WS_seqK ?_; intro K hK)
        | (refine hK _ ?_; clear hK K)
        | with_reducible refine thenS_n ?_
        | with_reducible refine thenS_e ?_
        | with_reducible refine blockS_n ?_
        | with_reducible refine blockS_e ?_
        | with_reducible refine blockS_o rfl ?_
        | with_reducible refine thenS_r ?_
        | with_reducible refine blockS_r ?_
        | with_reducible refine use_K (by assumption) ?_
        | refine WS_region ?_
        | refine LS_nil ?_
        | (show LS _ _ _ _ _ (⟨_, _, _, _, _, some _⟩ :: _) _; first | refine LS_wantT rfl rfl inferInstance rfl ?_ | refine LS_wantF rfl rfl inferInstance rfl ?_ | refine LS_wantU rfl rfl rfl ?_ | (refine LS_wantS rfl rfl rfl ?_ ?_ <;> intro hc <;> (try simp only [decide_eq_true_eq, decide_eq_false_iff_not, Bool.not_eq_eq_eq_not, Bool.not_true, Bool.not_false, Bool.and_eq_true, Bool.or_eq_true, bne_iff_ne, beq_iff_eq, ne_eq, Decidable.not_not] at hc) <;> (try (exfalso; first | contradiction | omega; done))) | (refine LS_wantN rfl ?_ ?_ <;> intro hc <;> (try simp only [decide_eq_true_eq, decide_eq_false_iff_not, Bool.not_eq_eq_eq_not, Bool.not_true, Bool.not_false, Bool.and_eq_true, Bool.or_eq_true, bne_iff_ne, beq_iff_eq, ne_eq, Decidable.not_not] at hc) <;> (try (exfalso; first | contradiction | omega; done))))
        | (show LS _ _ _ _ _ (⟨some _, .move _, _, _, _, none⟩ :: _) _; first | refine LS_q (Q_move rfl) rfl ?_)
        | (show LS _ _ _ _ _ (⟨some _, .fieldAddr _ _ _, _, _, _, none⟩ :: _) _; first | refine LS_q (Q_fieldAddr rfl inferInstance rfl) rfl ?_ | refine LS_q (Q_fieldR rfl inferInstance inferInstance rfl (by first | assumption | omega | ((try simp only [List.length_append, List.length_cons, List.length_nil, be_length, List.length_set]); omega))) rfl ?_)
        | (show LS _ _ _ _ _ (⟨some _, .load _ _, _, _, _, none⟩ :: _) _; first | refine LS_q (Q_load rfl inferInstance inferInstance rfl) rfl ?_ | refine LS_q (Q_loadA rfl inferInstance inferInstance rfl) rfl ?_ | refine LS_q (Q_loadR rfl inferInstance inferInstance inferInstance (by assumption) rfl) rfl ?_ | refine LS_q (Q_loadR rfl inferInstance inferInstance inferInstance rfl rfl) rfl ?_ | refine LS_q (Q_loadRA rfl inferInstance inferInstance inferInstance (by assumption)) rfl ?_)
        | (show LS _ _ _ _ _ (⟨some _, .binOp _ _ _ _ _, _, _, _, none⟩ :: _) _; first | refine LS_q (Q_bin_t rfl rfl inferInstance (by first | assumption | omega | decide)) rfl ?_ | refine LS_q (Q_bin_f rfl rfl inferInstance (by first | assumption | omega | decide)) rfl ?_ | refine LS_q (Q_bin_nt rfl rfl inferInstance (by first | assumption | omega | decide)) rfl ?_ | refine LS_q (Q_bin_nf rfl rfl inferInstance (by first | assumption | omega | decide)) rfl ?_ | (refine LS_binS rfl rfl inferInstance rfl ?_ ?_ <;> intro hc) | (refine LS_binN rfl rfl inferInstance rfl ?_ ?_ <;> intro hc) | refine LS_q (Q_bin rfl rfl inferInstance) rfl ?_ | refine LS_q (Q_addI rfl rfl (by omega)) rfl ?_ | refine LS_q (Q_subI rfl rfl (by omega)) rfl ?_ | refine LS_q (Q_addS rfl rfl (by (try simp only [List.length_append, List.length_cons, List.length_nil, be_length, List.length_set]); omega)) rfl ?_ | refine LS_q (Q_quoI rfl rfl (by omega)) rfl ?_ | refine LS_q (Q_remI rfl rfl (by omega)) rfl ?_ | refine LS_q (Q_mulI rfl rfl (by omega)) rfl ?_)
        | (show LS _ _ _ _ _ (⟨some _, .assign _, _, _, _, none⟩ :: _) _; first | refine LS_q (Q_assign rfl) rfl ?_)
        | (show LS _ _ _ _ _ (⟨some _, .pick _ _ _, _, _, _, none⟩ :: _) _; first | refine LS_q (Q_pick_t rfl inferInstance rfl) rfl ?_ | refine LS_q (Q_pick_f rfl inferInstance rfl) rfl ?_ | refine LS_q (Q_pick rfl rfl rfl) rfl ?_)
        | (show LS _ _ _ _ _ (⟨some _, .call ⟨.builtin .len, _, _⟩, _, _, _, none⟩ :: _) _; first | refine LS_q (Q_len rfl inferInstance) rfl ?_ | refine LS_q (Q_lenS rfl inferInstance) rfl ?_ | refine LS_q (Q_lenR rfl inferInstance inferInstance) rfl ?_ | refine LS_q (Q_lenM rfl inferInstance inferInstance) rfl ?_)
        | (show LS _ _ _ _ _ (⟨some _, .convert _ _ _, _, _, _, none⟩ :: _) _; first | refine LS_q (Q_conv32_8 rfl inferInstance inferInstance inferInstance) rfl ?_ | refine LS_q (Q_conv64 rfl inferInstance inferInstance inferInstance) rfl ?_ | refine LS_q (Q_conv32 rfl inferInstance inferInstance inferInstance) rfl ?_ | refine LS_q (Q_convS rfl inferInstance rfl inferInstance inferInstance inferInstance) rfl ?_ | refine LS_q (Q_convSame rfl inferInstance inferInstance (by omega)) rfl ?_ | refine LS_q (Q_convI8 rfl inferInstance inferInstance) rfl ?_ | refine LS_q (Q_conv328 rfl inferInstance inferInstance) rfl ?_ | refine LS_q (Q_conv8 rfl inferInstance inferInstance) rfl ?_ | refine LS_q (Q_bytesS rfl inferInstance inferInstance rfl inferInstance inferInstance inferInstance) rfl ?_)
        | (show LS _ _ _ _ _ (⟨some _, .unOp _ _ _, _, _, _, none⟩ :: _) _; first | refine LS_q (Q_un rfl inferInstance) rfl ?_ | refine LS_q (Q_negI rfl (by omega)) rfl ?_)
        | (show LS _ _ _ _ _ (⟨some _, .alloc _, _, _, _, none⟩ :: _) _; first | (refine LS_h (H_alloc inferInstance) rfl ?_; intro g))
        | (show LS _ _ _ _ _ (⟨some _, .box _ _, _, _, _, none⟩ :: _) _; first | (refine LS_h (H_box rfl) rfl ?_; intro g) | (refine LS_h (H_boxO rfl inferInstance) rfl ?_; intro g) | (refine LS_h (H_box1 rfl (by first | rfl | assumption)) rfl ?_; intro g))
        | (show LS _ _ _ _ _ (⟨some _, .build _ _, _, _, _, none⟩ :: _) _; first | refine LS_q (Q_build inferInstance inferInstance rfl rfl) rfl ?_ | refine LS_q (Q_buildA inferInstance inferInstance inferInstance rfl rfl) rfl ?_)
        | (show LS _ _ _ _ _ (⟨some _, .nilCheck _, _, _, _, none⟩ :: _) _; first | refine LS_q (Q_nilCheck rfl) rfl ?_ | refine LS_q (Q_nilCheck_f rfl) rfl ?_)
        | (show LS _ _ _ _ _ (⟨some _, .makeFunc _ _ _, _, _, _, none⟩ :: _) _; first | refine LS_q (Q_makeFunc rfl rfl) rfl ?_)
        | (show LS _ _ _ _ _ (⟨none, _, _, _, _, none⟩ :: _) _; first | (refine LS_h0 (H_storeO rfl rfl inferInstance inferInstance inferInstance rfl) ?_; intro g) | (refine LS_h0 (H_storeAO rfl rfl inferInstance inferInstance inferInstance rfl) ?_; intro g) | (refine LS_h0 (H_store8 rfl rfl inferInstance inferInstance rfl inferInstance (by first | assumption | omega | ((try simp only [List.length_append, List.length_cons, List.length_nil, be_length, List.length_set]); omega))) ?_; intro g) | (refine LS_h0 (H_storeRA _ rfl rfl rfl inferInstance inferInstance inferInstance rfl rfl (by first | assumption | omega | ((try simp only [List.length_append, List.length_cons, List.length_nil, be_length, List.length_set]); omega))) ?_; intro g) | (refine LS_h0 (H_storeR _ rfl rfl inferInstance inferInstance inferInstance rfl (by assumption) rfl) ?_; intro g) | (refine LS_h0 (H_store rfl rfl inferInstance (by first | rfl | assumption) inferInstance rfl) ?_; intro g) | (refine LS_h0 (H_storeA rfl rfl inferInstance inferInstance (by first | rfl | (simp only [List.all_cons, List.all_nil, *]; rfl)) rfl) ?_; intro g))
        | refine WS_block ?_
        | refine WS_skip ?_
        | refine WS_ret ?_
        | refine WS_exit ?_
        | refine WS_label ?_
        | (show WS _ _ _ (.cond _ _ _) _ _; first | refine WS_condT rfl inferInstance ?_ | refine WS_condF rfl inferInstance ?_ | refine WS_condH_t rfl (by assumption) ?_ | refine WS_condH_f rfl (by assumption) ?_ | (refine WS_cond rfl ?_ ?_ <;> intro hc <;> (try simp only [decide_eq_true_eq, decide_eq_false_iff_not, Bool.not_eq_eq_eq_not, Bool.not_true, Bool.not_false, Bool.and_eq_true, Bool.or_eq_true, bne_iff_ne, beq_iff_eq, ne_eq, Decidable.not_not] at hc) <;> (try (exfalso; first | contradiction | omega; done))))
        | refine WS_drawS (by kernel_rfl) ?_
        | refine DL_nilA ?_
        | refine DL_nilS ?_
        | refine DL_nilN ?_
        | refine DL_nilE ?_
        | refine DL_claimS rfl ?_
        | refine DL_claim rfl rfl ?_
        | (show DL _ _ _ _ _ _ _ _ _ _ _ _ (⟨some _, .move _, _, _, _, none⟩ :: _) _ _; first | refine DL_qp rfl rfl rfl (fun F' => Q_move rfl) ?_ | refine DL_q rfl rfl (fun F' => Q_move rfl) ?_)
        | (show DL _ _ _ _ _ _ _ _ _ _ _ _ (⟨some _, .fieldAddr _ _ _, _, _, _, none⟩ :: _) _ _; first | refine DL_qp rfl rfl rfl (fun F' => Q_fieldAddr rfl inferInstance rfl) ?_ | refine DL_q rfl rfl (fun F' => Q_fieldAddr rfl inferInstance rfl) ?_ | refine DL_qp rfl rfl rfl (fun F' => Q_fieldR rfl inferInstance inferInstance rfl (by first | assumption | omega | ((try simp only [List.length_append, List.length_cons, List.length_nil, be_length, List.length_set]); omega))) ?_ | refine DL_q rfl rfl (fun F' => Q_fieldR rfl inferInstance inferInstance rfl (by first | assumption | omega | ((try simp only [List.length_append, List.length_cons, List.length_nil, be_length, List.length_set]); omega))) ?_)
        | (show DL _ _ _ _ _ _ _ _ _ _ _ _ (⟨some _, .load _ _, _, _, _, none⟩ :: _) _ _; first | refine DL_qp rfl rfl rfl (fun F' => Q_load rfl inferInstance inferInstance rfl) ?_ | refine DL_q rfl rfl (fun F' => Q_load rfl inferInstance inferInstance rfl) ?_ | refine DL_qp rfl rfl rfl (fun F' => Q_loadA rfl inferInstance inferInstance rfl) ?_ | refine DL_q rfl rfl (fun F' => Q_loadA rfl inferInstance inferInstance rfl) ?_ | refine DL_qp rfl rfl rfl (fun F' => Q_loadR rfl inferInstance inferInstance inferInstance (by assumption) rfl) ?_ | refine DL_q rfl rfl (fun F' => Q_loadR rfl inferInstance inferInstance inferInstance (by assumption) rfl) ?_ | refine DL_qp rfl rfl rfl (fun F' => Q_loadR rfl inferInstance inferInstance inferInstance rfl rfl) ?_ | refine DL_q rfl rfl (fun F' => Q_loadR rfl inferInstance inferInstance inferInstance rfl rfl) ?_ | refine DL_qp rfl rfl rfl (fun F' => Q_loadRA rfl inferInstance inferInstance inferInstance (by assumption)) ?_ | refine DL_q rfl rfl (fun F' => Q_loadRA rfl inferInstance inferInstance inferInstance (by assumption)) ?_)
        | (show DL _ _ _ _ _ _ _ _ _ _ _ _ (⟨some _, .build _ _, _, _, _, none⟩ :: _) _ _; first | refine DL_qp rfl rfl rfl (fun F' => Q_build inferInstance inferInstance rfl rfl) ?_ | refine DL_q rfl rfl (fun F' => Q_build inferInstance inferInstance rfl rfl) ?_ | refine DL_qp rfl rfl rfl (fun F' => Q_buildA inferInstance inferInstance inferInstance rfl rfl) ?_ | refine DL_q rfl rfl (fun F' => Q_buildA inferInstance inferInstance inferInstance rfl rfl) ?_)
        | (refine DL_h (H_buildB inferInstance inferInstance inferInstance rfl rfl rfl rfl rfl inferInstance rfl rfl) rfl rfl rfl ?_; intro g)
        | (refine DL_h (H_buildSlice inferInstance inferInstance inferInstance rfl rfl rfl rfl rfl) rfl rfl rfl ?_; intro g)
        | (refine DL_h (H_buildSlice0 inferInstance inferInstance) rfl rfl rfl ?_; intro g)
        | (show DL _ _ _ _ _ _ _ _ _ _ _ _ (⟨some _, .call ⟨.builtin .append, _, _⟩, _, _, _, none⟩ :: _) _ _; first | (refine DL_h (H_appendD rfl rfl inferInstance inferInstance rfl inferInstance inferInstance byteC_one (by (try simp only [List.length_append, List.length_cons, List.length_nil, be_length, List.length_set]); omega) rfl) rfl rfl rfl ?_; intro g) | (refine DL_h (H_appendB rfl rfl inferInstance inferInstance inferInstance rfl rfl inferInstance (by (try simp only [List.length_append, List.length_cons, List.length_nil, be_length, List.length_set]); omega) rfl) rfl rfl rfl ?_; intro g) | (refine DL_h (H_appendS rfl rfl inferInstance rfl inferInstance inferInstance (by (try simp only [List.length_append, List.length_cons, List.length_nil, be_length, List.length_set]); omega) rfl) rfl rfl rfl ?_; intro g))
        | (show DL _ _ _ _ _ _ _ _ _ _ _ _ (⟨none, _, _, _, _, none⟩ :: _) _ _; first | (refine DL_h0 (H_storeO rfl rfl inferInstance inferInstance inferInstance rfl) rfl rfl ?_; intro g) | (refine DL_h0 (H_storeAO rfl rfl inferInstance inferInstance inferInstance rfl) rfl rfl ?_; intro g) | (refine DL_h0 (H_store8 rfl rfl inferInstance inferInstance rfl inferInstance (by first | assumption | omega | ((try simp only [List.length_append, List.length_cons, List.length_nil, be_length, List.length_set]); omega))) rfl rfl ?_; intro g) | (refine DL_h0 (H_storeRA _ rfl rfl rfl inferInstance inferInstance inferInstance rfl rfl (by first | assumption | omega | ((try simp only [List.length_append, List.length_cons, List.length_nil, be_length, List.length_set]); omega))) rfl rfl ?_; intro g) | (refine DL_h0 (H_storeR _ rfl rfl inferInstance inferInstance inferInstance rfl (by assumption) rfl) rfl rfl ?_; intro g) | (refine DL_h0 (H_store rfl rfl inferInstance (by first | rfl | assumption) inferInstance rfl) rfl rfl ?_; intro g) | (refine DL_h0 (H_storeA rfl rfl inferInstance inferInstance (by first | rfl | (simp only [List.all_cons, List.all_nil, *]; rfl)) rfl) rfl rfl ?_; intro g))
        | refine LS_deferV0 rfl rfl rfl ?_
        | refine LS_one_f rfl inferInstance inferInstance ?_
        | (refine LS_one_t rfl inferInstance inferInstance rfl ?_)
        | (refine LS_four rfl inferInstance inferInstance rfl ?_ ?_ <;> intro hc)
        | (refine LS_take rfl inferInstance inferInstance inferInstance rfl ?_ ?_ <;> intro hc)
        | (refine LS_must rfl rfl ?_ ?_ <;> (intro hc; first
        | (cases hc; done)
        | skip))
        | refine thenS_p ?_
        | refine blockS_p ?_)
      all_goals
        refine out_brk rfl rfl inferInstance inferInstance rfl rfl ?_
        exact ⟨.slice none 0 0, rfl, by ((try simp only [star_assoc, emp_star, star_emp]); (repeat' (first | exact Ent.last | refine Ent.take ?_ | refine Ent.nilT ?_ | refine Ent.takeR (by first | rfl | assumption | (simp; done)) ?_ | exact Ent.refl _)))⟩
  simp at hl; omega
end Go.Proofs.Ytapoehkdnglahaa
