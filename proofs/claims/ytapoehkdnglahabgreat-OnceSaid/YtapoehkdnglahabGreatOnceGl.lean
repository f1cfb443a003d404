/- A part of what Once needs. -/
import Derived.Test.YtapoehkdnglahabGreatOnceGk
set_option linter.unusedVariables false
set_option linter.unusedSimpArgs false
set_option linter.unusedSectionVars false
namespace Go.Proofs.YtapoehkdnglahabGreat
section
open Go.RowKit
theorem Nd.Fit.unwait {s : Nd} {k : Nat} (h : s.Fit k) (d : UInt32) : (s.unwait d).Fit k := ⟨h.frames, h.came, h.dropped, h.recs, h.journal⟩
theorem Nd.Fit.stop {s : Nd} {k : Nat} (h : s.Fit k) (i : Nat) : (s.stop i).Fit k := ⟨h.frames, h.came, h.dropped, h.recs, h.journal⟩
theorem Nd.Fit.flush {s : Nd} {k : Nat} (d : UInt32) (h : s.Fit ((s.texts d).length + k)) : (s.flush d).Fit k := by
  have h1 := Nd.Fit.handAll (k := k) d (s.texts d) h
  unfold Nd.flush
  simp only
  split
  · exact (h1.unwait d).stop _
  · exact h1.unwait d
attribute [local irreducible] WS LS OpQ OpT OpH OpTQ Spec SpecQ cel
variable (w0 : World)
set_option maxRecDepth 100000 in
set_option maxHeartbeats 16000000 in
theorem reply_spec (gn : Nat) (s : Nd) (h : NH) (src : UInt32) (p : Pk) (hp : p.Read) (v : Value) (ok : TabOk s.ls) (so : SrOk s) (hl : (s.texts p.dest).length ≤ 100) (ht : ∀ t ∈ s.texts p.dest, t.length ≤ 100) (hf : s.Fit ((s.texts p.dest).length + 1)) : Spec Tryz.prog w0 119 [ptr gn 0, u32 src, p.val v] (nodP gn s h * rows 180 2 lostC v p.lost) (fun _ : Unit => .tuple #[]) (fun _ => nodA gn (s.rep src p)) := by
  have hf1 : s.Fit 1 := hf.le (by omega)
  refine Spec.enter Tryz.func119 rfl Tryz.ntmps119 rfl fun G => ?_
  refine WS_form v iI fun A c hv => ?_
  subst hv
  obtain ⟨hp1, hp2, hp3, hp4, hp5⟩ := hp
  obtain ⟨ttl, kind, hops, unknown, id, dest, destSeq, from_, fromSeq, life, lost, payload⟩ := p
  simp only [Pk.val, Pk.cells, argE] at *
  by_cases h1 : dest = s.self
  · have es : s.rep src ⟨ttl, kind, hops, unknown, id, dest, destSeq, from_, fromSeq, life, lost, payload⟩ = s.drop 1 := by unfold Nd.rep; rw [if_pos h1]
    have p1 := drop_A w0 gn s h 1 hf1
    simp only [nodP, nodPm, nodC, outH, restP] at p1 ⊢
    repeat' (first | (show WS _ _ _ (.region 1 _ true) _ _; refine WS_drawA (.range 7) (by decide +kernel) rfl ?_) | (refine WS_seqK ?_; intro K hK) | (refine hK _ ?_; clear hK K) | refine stZ ?_ | (refine s2Z ?_ ?_ <;> intro hc <;> (try simp only [cS] at hc) <;> (try (exfalso; first | contradiction | omega))) | refine sbZ ?_ | ((first | refine' LQ ?zh rfl ?_ | refine' DL_q rfl rfl ?zh ?_); case zh => intro F'; first | exact Q_move rfl | exact Q_nilCheck rfl | exact Q_fieldAddr rfl iI rfl | exact Q_load rfl iI iI rfl) | (refine shZ ?_; intro g) | (refine LS_h (H_callX iI rfl p1 iI) rfl ?_; intro x1))
    exact ret_none (.inl rfl) rfl ⟨(), rfl, by rw [es]; exact finE⟩
  have p4 := update_spec w0 h.tb s.self s.ls ok (Ln.learned dest destSeq (min (hops + 1) 255) src (s.now + life.toUInt64)) rfl rfl (by simp only [Ln.learned]; omega)
  have hcd := updT_code s.self s.ls (Ln.learned dest destSeq (min (hops + 1) 255) src (s.now + life.toUInt64))
  have okU := ok.upd s.self (Ln.learned dest destSeq (min (hops + 1) 255) src (s.now + life.toUInt64)) (by simp only [Ln.learned]; omega)
  obtain ⟨u, hu⟩ : ∃ u, u = updT s.self s.ls (Ln.learned dest destSeq (min (hops + 1) 255) src (s.now + life.toUInt64)) := ⟨_, rfl⟩
  have es : s.rep src ⟨ttl, kind, hops, unknown, id, dest, destSeq, from_, fromSeq, life, lost, payload⟩ = if u.1 = 4 then Nd.drop { s with ls := u.2 } 2 else if from_ = s.self then (if u.1 = 3 then Nd.drop (if (lookT u.2 dest s.now).isSome then Nd.flush { s with ls := u.2 } dest else { s with ls := u.2 }) 7 else (if (lookT u.2 dest s.now).isSome then Nd.flush { s with ls := u.2 } dest else { s with ls := u.2 })) else match lookT u.2 from_ s.now with
    | none => if ttl = 1 then Nd.drop { s with ls := u.2 } 4 else Nd.drop { s with ls := u.2 } 3
    | some b => if ttl = 1 then Nd.drop { s with ls := u.2 } 4 else { Nd.send { s with ls := u.2 } b.next ⟨ttl - 1, kind, min (hops + 1) 255, unknown, id, dest, destSeq, from_, fromSeq, life, lost, payload⟩ with ls := useT (befT (befT u.2 dest b.next) from_ src) from_ s.soon } := by
    unfold Nd.rep
    simp only
    rw [if_neg h1, hu]
    rfl
  rw [← hu] at p4 hcd okU
  clear hu
  obtain ⟨e, ls1⟩ := u
  simp only at p4 hcd okU es
  simp only [Ln.learned, routeC] at p4
  have hf2 : Nd.Fit { s with ls := ls1 } 1 := hf1.ls ls1
  by_cases he4 : e = 4
  · subst he4
    rw [if_pos rfl] at es
    have p5 := drop_A w0 gn { s with ls := ls1 } h 2 hf2
    simp only [nodP, nodPm, nodC, outH, restP] at p5 ⊢
    repeat' (first | (show WS _ _ _ (.region 1 _ true) _ _; refine WS_drawA (.range 7) (by decide +kernel) rfl ?_) | (show WS _ _ _ (.region 4 _ true) _ _; refine WS_drawK (.range 21) 19 [3, 5, 7, 13, 15, 16] (by decide +kernel) rfl ?_) | (refine WS_seqK ?_; intro K hK) | (refine hK _ ?_; clear hK K) | refine stZ ?_ | (refine s2Z ?_ ?_ <;> intro hc <;> (try simp only [cS] at hc) <;> (try (exfalso; first | contradiction | omega))) | refine sbZ ?_ | ((first | refine' LQ ?zh rfl ?_ | refine' DL_qp rfl rfl rfl ?zh ?_ | refine' DL_q rfl rfl ?zh ?_); case zh => intro F'; first | exact Q_move rfl | exact Q_assign rfl | exact Q_nilCheck rfl | exact Q_fieldAddr rfl iI rfl | exact Q_load rfl iI iI rfl | exact Q_addI rfl rfl (by omega) | exact Q_build iI iI rfl rfl | exact Q_minI rfl rfl | exact Q_conv64 rfl iI iI iI) | ((first | refine' LQ ?zh rfl ?_ | refine' DL_q rfl rfl ?zh ?_); case zh => intro F'; exact Q_bin rfl rfl iI) | (refine shZ ?_; intro g) | (refine DL_h (H_callX iI rfl p4 iI) rfl rfl rfl ?_; intro x4) | (refine LS_h (H_callX iI rfl p5 iI) rfl ?_; intro x1))
    exact ret_none (.inl rfl) rfl ⟨(), rfl, by rw [es]; exact finE⟩
  rw [if_neg he4] at es
  by_cases h2 : from_ = s.self
  · rw [if_pos h2] at es
    have p6 := find_spec w0 h.tb s.self ls1 okU dest s.now
    cases hx : lookT ls1 dest s.now with
    | none =>
      simp only [hx, findV, findH, routeC] at p6
      simp only [hx, Option.isSome_none, Bool.false_eq_true, if_false] at es
      by_cases he3 : e = 3
      · subst he3
        rw [if_pos rfl] at es
        have p5 := drop_A w0 gn { s with ls := ls1 } h 7 hf2
        simp only [nodP, nodPm, nodC, outH, restP] at p5 ⊢
        repeat' (first | (show WS _ _ _ (.region 1 _ true) _ _; refine WS_drawA (.range 7) (by decide +kernel) rfl ?_) | (show WS _ _ _ (.region 4 _ true) _ _; refine WS_drawK (.range 21) 19 [3, 5, 7, 13, 15, 16] (by decide +kernel) rfl ?_) | (show WS _ _ _ (.region 7 _ true) _ _; refine WS_drawA (.range 7) (by decide +kernel) rfl ?_) | (show WS _ _ _ (.region 8 _ true) _ _; first | refine WS_drawR2 0 5 (.range 17) (by decide +kernel) rfl rfl rfl iI iI ?_ | refine WS_drawK (.range 17) 10 [3, 5, 9] (by decide +kernel) rfl ?_) | (refine WS_seqK ?_; intro K hK) | (refine hK _ ?_; clear hK K) | refine stZ ?_ | (refine s2Z ?_ ?_ <;> intro hc <;> (try simp only [cS] at hc) <;> (try (exfalso; first | contradiction | omega))) | (refine DL_alloc iI rfl ?_; intro g) | refine sbZ ?_ | ((first | refine' LQ ?zh rfl ?_ | refine' DL_qp rfl rfl rfl ?zh ?_ | refine' DL_q rfl rfl ?zh ?_); case zh => intro F'; first | exact Q_move rfl | exact Q_assign rfl | exact Q_nilCheck rfl | exact Q_fieldAddr rfl iI rfl | exact Q_load rfl iI iI rfl | exact Q_addI rfl rfl (by omega) | exact Q_extract rfl rfl | exact Q_build iI iI rfl rfl | exact Q_minI rfl rfl | exact Q_conv64 rfl iI iI iI) | ((first | refine' LQ ?zh rfl ?_ | refine' DL_q rfl rfl ?zh ?_); case zh => intro F'; exact Q_bin rfl rfl iI) | (refine shZ ?_; intro g) | (refine s0Z ?_; intro g) | (refine DL_h (H_callX iI rfl p4 iI) rfl rfl rfl ?_; intro x4) | (refine DL_h (H_callX iI rfl p6 iI) rfl rfl rfl ?_; intro x6) | (refine LS_h (H_callX iI rfl p5 iI) rfl ?_; intro x1))
        exact ret_none (.inl rfl) rfl ⟨(), rfl, by rw [es]; exact finE⟩
      · rw [if_neg he3] at es
        simp only [nodP, nodPm, nodC, outH, restP]
        repeat' (first | (show WS _ _ _ (.region 1 _ true) _ _; refine WS_drawA (.range 7) (by decide +kernel) rfl ?_) | (show WS _ _ _ (.region 4 _ true) _ _; refine WS_drawK (.range 21) 19 [3, 5, 7, 13, 15, 16] (by decide +kernel) rfl ?_) | (show WS _ _ _ (.region 7 _ true) _ _; refine WS_drawA (.range 7) (by decide +kernel) rfl ?_) | (show WS _ _ _ (.region 8 _ true) _ _; first | refine WS_drawR2 0 5 (.range 17) (by decide +kernel) rfl rfl rfl iI iI ?_ | refine WS_drawK (.range 17) 10 [3, 5, 9] (by decide +kernel) rfl ?_) | (refine WS_seqK ?_; intro K hK) | (refine hK _ ?_; clear hK K) | refine stZ ?_ | (refine s2Z ?_ ?_ <;> intro hc <;> (try simp only [cS] at hc) <;> (try (exfalso; first | contradiction | omega))) | (refine DL_alloc iI rfl ?_; intro g) | refine sbZ ?_ | ((first | refine' LQ ?zh rfl ?_ | refine' DL_qp rfl rfl rfl ?zh ?_ | refine' DL_q rfl rfl ?zh ?_); case zh => intro F'; first | exact Q_move rfl | exact Q_assign rfl | exact Q_nilCheck rfl | exact Q_fieldAddr rfl iI rfl | exact Q_load rfl iI iI rfl | exact Q_addI rfl rfl (by omega) | exact Q_extract rfl rfl | exact Q_build iI iI rfl rfl | exact Q_minI rfl rfl | exact Q_conv64 rfl iI iI iI) | ((first | refine' LQ ?zh rfl ?_ | refine' DL_q rfl rfl ?zh ?_); case zh => intro F'; exact Q_bin rfl rfl iI) | (refine shZ ?_; intro g) | (refine s0Z ?_; intro g) | (refine DL_h (H_callX iI rfl p4 iI) rfl rfl rfl ?_; intro x4) | (refine DL_h (H_callX iI rfl p6 iI) rfl rfl rfl ?_; intro x6))
        refine ret_none (.inl rfl) rfl ⟨(), rfl, ?_⟩
        rw [es]
        refine Ent.nod h ?_
        simp only [nodP, nodPm, nodC, outH, restP]
        exact finE
    | some x =>
      simp only [hx, findV, findH, routeC] at p6
      simp only [hx, Option.isSome_some, if_true] at es
      have so1 : SrOk { s with ls := ls1 } := ⟨so.dests, so.names, so.each⟩
      have p7 := flush_spec w0 gn { s with ls := ls1 } h dest okU so1 hl ht (hf.ls ls1)
      have hf3 : (Nd.flush { s with ls := ls1 } dest).Fit 1 := Nd.Fit.flush (s := { s with ls := ls1 }) dest (hf.ls ls1)
      generalize Nd.flush { s with ls := ls1 } dest = s2 at p7 hf3 es
      by_cases he3 : e = 3
      · subst he3
        rw [if_pos rfl] at es
        have p5 := fun h2 => drop_A w0 gn s2 h2 7 hf3
        simp only [nodP, nodPm, nodC, outH, restP] at p5 p7 ⊢
        repeat' (first | (show WS _ _ _ (.region 1 _ true) _ _; refine WS_drawA (.range 7) (by decide +kernel) rfl ?_) | (show WS _ _ _ (.region 4 _ true) _ _; refine WS_drawK (.range 21) 19 [3, 5, 7, 13, 15, 16] (by decide +kernel) rfl ?_) | (show WS _ _ _ (.region 7 _ true) _ _; refine WS_drawA (.range 7) (by decide +kernel) rfl ?_) | (show WS _ _ _ (.region 8 _ true) _ _; first | refine WS_drawR2 0 5 (.range 17) (by decide +kernel) rfl rfl rfl iI iI ?_ | refine WS_drawK (.range 17) 10 [3, 5, 9] (by decide +kernel) rfl ?_) | (refine WS_seqK ?_; intro K hK) | (refine hK _ ?_; clear hK K) | refine stZ ?_ | (refine s2Z ?_ ?_ <;> intro hc <;> (try simp only [cS] at hc) <;> (try (exfalso; first | contradiction | omega))) | (refine DL_alloc iI rfl ?_; intro g) | refine sbZ ?_ | ((first | refine' LQ ?zh rfl ?_ | refine' DL_qp rfl rfl rfl ?zh ?_ | refine' DL_q rfl rfl ?zh ?_); case zh => intro F'; first | exact Q_move rfl | exact Q_assign rfl | exact Q_nilCheck rfl | exact Q_fieldAddr rfl iI rfl | exact Q_load rfl iI iI rfl | exact Q_addI rfl rfl (by omega) | exact Q_extract rfl rfl | exact Q_build iI iI rfl rfl | exact Q_minI rfl rfl | exact Q_conv64 rfl iI iI iI) | ((first | refine' LQ ?zh rfl ?_ | refine' DL_q rfl rfl ?zh ?_); case zh => intro F'; exact Q_bin rfl rfl iI) | (refine shZ ?_; intro g) | (refine s0Z ?_; intro g) | (refine DL_h (H_callX iI rfl p4 iI) rfl rfl rfl ?_; intro x4) | (refine DL_h (H_callX iI rfl p6 iI) rfl rfl rfl ?_; intro x6) | (refine LS_h (H_callX iI rfl p7 iI) rfl ?_; intro x7) | (refine LS_h (H_callX iI rfl p5 iI) rfl ?_; intro x1) | (refine LS_nod fun h9 => ?_; replace p5 := p5 h9; simp only [nodP, nodPm, nodC, outH, restP]))
        exact ret_none (.inl rfl) rfl ⟨(), rfl, by rw [es]; exact finE⟩
      · rw [if_neg he3] at es
        simp only [nodP, nodPm, nodC, outH, restP] at p7 ⊢
        repeat' (first | (show WS _ _ _ (.region 1 _ true) _ _; refine WS_drawA (.range 7) (by decide +kernel) rfl ?_) | (show WS _ _ _ (.region 4 _ true) _ _; refine WS_drawK (.range 21) 19 [3, 5, 7, 13, 15, 16] (by decide +kernel) rfl ?_) | (show WS _ _ _ (.region 7 _ true) _ _; refine WS_drawA (.range 7) (by decide +kernel) rfl ?_) | (show WS _ _ _ (.region 8 _ true) _ _; first | refine WS_drawR2 0 5 (.range 17) (by decide +kernel) rfl rfl rfl iI iI ?_ | refine WS_drawK (.range 17) 10 [3, 5, 9] (by decide +kernel) rfl ?_) | (refine WS_seqK ?_; intro K hK) | (refine hK _ ?_; clear hK K) | refine stZ ?_ | (refine s2Z ?_ ?_ <;> intro hc <;> (try simp only [cS] at hc) <;> (try (exfalso; first | contradiction | omega))) | (refine DL_alloc iI rfl ?_; intro g) | refine sbZ ?_ | ((first | refine' LQ ?zh rfl ?_ | refine' DL_qp rfl rfl rfl ?zh ?_ | refine' DL_q rfl rfl ?zh ?_); case zh => intro F'; first | exact Q_move rfl | exact Q_assign rfl | exact Q_nilCheck rfl | exact Q_fieldAddr rfl iI rfl | exact Q_load rfl iI iI rfl | exact Q_addI rfl rfl (by omega) | exact Q_extract rfl rfl | exact Q_build iI iI rfl rfl | exact Q_minI rfl rfl | exact Q_conv64 rfl iI iI iI) | ((first | refine' LQ ?zh rfl ?_ | refine' DL_q rfl rfl ?zh ?_); case zh => intro F'; exact Q_bin rfl rfl iI) | (refine shZ ?_; intro g) | (refine s0Z ?_; intro g) | (refine DL_h (H_callX iI rfl p4 iI) rfl rfl rfl ?_; intro x4) | (refine DL_h (H_callX iI rfl p6 iI) rfl rfl rfl ?_; intro x6) | (refine LS_h (H_callX iI rfl p7 iI) rfl ?_; intro x7))
        exact ret_none (.inl rfl) rfl ⟨(), rfl, by rw [es]; exact finE⟩
  rw [if_neg h2] at es
  have p6 := find_spec w0 h.tb s.self ls1 okU from_ s.now
  by_cases ht1 : ttl = 1
  · have p5 := drop_A w0 gn { s with ls := ls1 } h 4 hf2
    simp only [nodP, nodPm, nodC, outH, restP] at p5 ⊢
    cases hx : lookT ls1 from_ s.now
    all_goals
      simp only [hx, findV, findH, routeC] at p6
      simp only [hx, if_pos ht1] at es
      repeat' (first | (show WS _ _ _ (.region 1 _ true) _ _; refine WS_drawA (.range 7) (by decide +kernel) rfl ?_) | (show WS _ _ _ (.region 4 _ true) _ _; refine WS_drawK (.range 21) 19 [3, 5, 7, 13, 15, 16] (by decide +kernel) rfl ?_) | (show WS _ _ _ (.region 7 _ true) _ _; refine WS_drawA (.range 7) (by decide +kernel) rfl ?_) | (show WS _ _ _ (.region 13 _ true) _ _; first | refine WS_drawR2 0 5 (.range 17) (by decide +kernel) rfl rfl rfl iI iI ?_ | refine WS_drawK (.range 17) 10 [3, 5, 9] (by decide +kernel) rfl ?_) | (refine WS_seqK ?_; intro K hK) | (refine hK _ ?_; clear hK K) | refine stZ ?_ | (refine s2Z ?_ ?_ <;> intro hc <;> (try simp only [cS] at hc) <;> (try (exfalso; first | contradiction | omega))) | (refine DL_alloc iI rfl ?_; intro g) | refine sbZ ?_ | ((first | refine' LQ ?zh rfl ?_ | refine' DL_qp rfl rfl rfl ?zh ?_ | refine' DL_q rfl rfl ?zh ?_); case zh => intro F'; first | exact Q_move rfl | exact Q_assign rfl | exact Q_nilCheck rfl | exact Q_fieldAddr rfl iI rfl | exact Q_load rfl iI iI rfl | exact Q_addI rfl rfl (by omega) | exact Q_extract rfl rfl | exact Q_build iI iI rfl rfl | exact Q_minI rfl rfl | exact Q_conv64 rfl iI iI iI) | ((first | refine' LQ ?zh rfl ?_ | refine' DL_q rfl rfl ?zh ?_); case zh => intro F'; exact Q_bin rfl rfl iI) | (refine shZ ?_; intro g) | (refine s0Z ?_; intro g) | (refine DL_h (H_callX iI rfl p4 iI) rfl rfl rfl ?_; intro x4) | (refine DL_h (H_callX iI rfl p6 iI) rfl rfl rfl ?_; intro x6) | (refine LS_h (H_callX iI rfl p5 iI) rfl ?_; intro x1))
      exact ret_none (.inr rfl) rfl ⟨(), rfl, by rw [es]; exact finE⟩
  cases hx : lookT ls1 from_ s.now with
  | none =>
    have p5 := drop_A w0 gn { s with ls := ls1 } h 3 hf2
    simp only [nodP, nodPm, nodC, outH, restP] at p5 ⊢
    simp only [hx, findV, findH, routeC] at p6
    simp only [hx, if_neg ht1] at es
    repeat' (first | (show WS _ _ _ (.region 1 _ true) _ _; refine WS_drawA (.range 7) (by decide +kernel) rfl ?_) | (show WS _ _ _ (.region 4 _ true) _ _; refine WS_drawK (.range 21) 19 [3, 5, 7, 13, 15, 16] (by decide +kernel) rfl ?_) | (show WS _ _ _ (.region 7 _ true) _ _; refine WS_drawA (.range 7) (by decide +kernel) rfl ?_) | (show WS _ _ _ (.region 13 _ true) _ _; first | refine WS_drawR2 0 5 (.range 17) (by decide +kernel) rfl rfl rfl iI iI ?_ | refine WS_drawK (.range 17) 10 [3, 5, 9] (by decide +kernel) rfl ?_) | (refine WS_seqK ?_; intro K hK) | (refine hK _ ?_; clear hK K) | refine stZ ?_ | (refine s2Z ?_ ?_ <;> intro hc <;> (try simp only [cS] at hc) <;> (try (exfalso; first | contradiction | omega))) | (refine DL_alloc iI rfl ?_; intro g) | refine sbZ ?_ | ((first | refine' LQ ?zh rfl ?_ | refine' DL_qp rfl rfl rfl ?zh ?_ | refine' DL_q rfl rfl ?zh ?_); case zh => intro F'; first | exact Q_move rfl | exact Q_assign rfl | exact Q_nilCheck rfl | exact Q_fieldAddr rfl iI rfl | exact Q_load rfl iI iI rfl | exact Q_addI rfl rfl (by omega) | exact Q_extract rfl rfl | exact Q_un rfl iI | exact Q_build iI iI rfl rfl | exact Q_minI rfl rfl | exact Q_conv64 rfl iI iI iI) | ((first | refine' LQ ?zh rfl ?_ | refine' DL_q rfl rfl ?zh ?_); case zh => intro F'; exact Q_bin rfl rfl iI) | (refine shZ ?_; intro g) | (refine s0Z ?_; intro g) | (refine DL_h (H_callX iI rfl p4 iI) rfl rfl rfl ?_; intro x4) | (refine DL_h (H_callX iI rfl p6 iI) rfl rfl rfl ?_; intro x6) | (refine LS_h (H_callX iI rfl p5 iI) rfl ?_; intro x1))
    exact ret_none (.inr rfl) rfl ⟨(), rfl, by rw [es]; exact finE⟩
  | some b =>
    simp only [hx, findV, findH, routeC] at p6
    simp only [hx, if_neg ht1] at es
    obtain ⟨s2, hs2⟩ : ∃ s2 : Nd, s2 = Nd.send { s with ls := ls1 } b.next ⟨ttl - 1, kind, min (hops + 1) 255, unknown, id, dest, destSeq, from_, fromSeq, life, lost, payload⟩ := ⟨_, rfl⟩
    have p7 := nsend_spec w0 gn { s with ls := ls1 } h b.next ⟨ttl - 1, kind, min (hops + 1) 255, unknown, id, dest, destSeq, from_, fromSeq, life, lost, payload⟩ ⟨by simp only [i64R] at *; omega, by simpa only [i64R] using hp2, by simp only [i64R] at *; omega, by simp only; omega, by simp only; omega⟩ (.slice A lost.length c) rfl (rows 180 2 lostC (.slice A lost.length c) lost) (hX := rdr_bare _ _ _ _ _) (by have := hf2.frames; omega)
    have e1 : s2.ls = ls1 := by rw [hs2]; rfl
    have e2 : s2.soon = s.soon := by rw [hs2]; rfl
    have p8 := before_spec w0 h.tb s2.self s2.ls dest b.next
    have p9 := before_spec w0 h.tb s2.self (befT s2.ls dest b.next) from_ src
    have p10 := fun vf => soon_spec w0 gn s2 { h with vf := vf }
    have p11 := use_spec w0 h.tb s2.self (befT (befT s2.ls dest b.next) from_ src) from_ s2.soon
    rw [← hs2] at p7 es
    rw [← e1, ← e2] at es
    simp only [nodP, nodPm, nodC, outH, restP, Pk.val, Pk.cells] at p7 p10 ⊢
    repeat' (first | (show WS _ _ _ (.region 1 _ true) _ _; refine WS_drawA (.range 7) (by decide +kernel) rfl ?_) | (show WS _ _ _ (.region 4 _ true) _ _; refine WS_drawK (.range 21) 19 [3, 5, 7, 13, 15, 16] (by decide +kernel) rfl ?_) | (show WS _ _ _ (.region 7 _ true) _ _; refine WS_drawA (.range 7) (by decide +kernel) rfl ?_) | (show WS _ _ _ (.region 13 _ true) _ _; first | refine WS_drawR2 0 5 (.range 17) (by decide +kernel) rfl rfl rfl iI iI ?_ | refine WS_drawK (.range 17) 10 [3, 5, 9] (by decide +kernel) rfl ?_) | (show WS _ _ _ (.region 17 _ true) _ _; refine WS_drawK (.range 9) 8 [3, 5, 7] (by decide +kernel) rfl ?_) | (show WS _ _ _ (.region 18 _ true) _ _; refine WS_drawK (.range 8) 7 [3, 5] (by decide +kernel) rfl ?_) | (show WS _ _ _ (.region 19 _ true) _ _; refine WS_drawK (.range 9) 8 [3, 5] (by decide +kernel) rfl ?_) | (refine WS_seqK ?_; intro K hK) | (refine hK _ ?_; clear hK K) | refine stZ ?_ | (refine s2Z ?_ ?_ <;> intro hc <;> (try simp only [cS] at hc) <;> (try (exfalso; first | contradiction | omega))) | (refine DL_alloc iI rfl ?_; intro g) | refine sbZ ?_ | ((first | refine' LQ ?zh rfl ?_ | refine' DL_qp rfl rfl rfl ?zh ?_ | refine' DL_q rfl rfl ?zh ?_); case zh => intro F'; first | exact Q_move rfl | exact Q_assign rfl | exact Q_nilCheck rfl | exact Q_fieldAddr rfl iI rfl | exact Q_load rfl iI iI rfl | exact Q_addI rfl rfl (by omega) | exact Q_subI rfl rfl (by omega) | exact Q_extract rfl rfl | exact Q_un rfl iI | exact Q_loadA rfl iI iI rfl | exact Q_build iI iI rfl rfl | exact Q_minI rfl rfl | exact Q_conv64 rfl iI iI iI) | ((first | refine' LQ ?zh rfl ?_ | refine' DL_q rfl rfl ?zh ?_); case zh => intro F'; exact Q_bin rfl rfl iI) | (refine shZ ?_; intro g) | (refine s0Z ?_; intro g) | (refine DL_h (H_callX iI rfl p4 iI) rfl rfl rfl ?_; intro x4) | (refine DL_h (H_callX iI rfl p6 iI) rfl rfl rfl ?_; intro x6) | (refine LS_h (H_callX iI rfl p7 iI) rfl ?_; intro vf; replace p10 := p10 vf) | (refine DL_h (H_callX iI rfl p8 iI) rfl rfl rfl ?_; intro x8) | (refine DL_h (H_callX iI rfl p9 iI) rfl rfl rfl ?_; intro x9) | (refine DL_callS iI rfl p10 iI rfl ?_) | (refine DL_h (H_callX iI rfl p11 iI) rfl rfl rfl ?_; intro x11))
    refine ret_none (.inr rfl) rfl ⟨(), rfl, ?_⟩
    rw [es]
    refine Ent.nod { h with vf := vf } ?_
    simp only [nodP, nodPm, nodC, outH, restP]
    exact finE
end

section
open Go.RowKit
theorem Nd.drops_succ (s : Nd) (n : Nat) (k : Int) : s.drops (n + 1) k = (s.drops n k).drop k := by
  unfold Nd.drops Nd.drop
  simp only [List.replicate_succ', List.append_assoc]
theorem Nd.drops_zero (s : Nd) (k : Int) : s.drops 0 k = s := by
  unfold Nd.drops
  simp
attribute [local irreducible] WS LS OpQ OpT OpH OpTQ Spec SpecQ cel
variable (w0 : World)
set_option maxRecDepth 100000 in
set_option maxHeartbeats 16000000 in
theorem again_spec (gn : Nat) (s : Nd) (h : NH) {k b : Nat} {x : Sr} (hx : s.srs[k]? = some x) (hb : h.sb[k]? = some b) (so : SrOk s) (ok : TabOk s.ls) (hod : s.order.length ≤ 16) (hsn : s.sent.length ≤ 100) (hck : s.clk.length ≤ 900000) (hla : 0 ≤ s.last ∧ s.last ≤ 1000000000000) (hl : (s.texts x.dest).length ≤ 100) (ht : ∀ t ∈ s.texts x.dest, t.length ≤ 100) (hf : s.Fit ((s.texts x.dest).length + 3)) : Spec Tryz.prog w0 197 [ptr b 0] (nodP gn s h) (fun _ : Unit => .tuple #[]) (fun _ => nodA gn (s.again k x)) := by
  have hxr := so.each x (List.mem_of_getElem? hx)
  refine Spec.enter Tryz.func197 rfl Tryz.ntmps197 rfl fun G => ?_
  refine WS_lens fun hsb hwv => ?_
  refine WS_texts x.dest hwv fun A cap R1 hm _ _ => ?_
  obtain ⟨F1, e1, e2⟩ := srs_open gn hsb hb hx
  have p1 := find_spec w0 h.tb s.self s.ls ok x.dest s.now
  have hkl : k < s.srs.length := (List.getElem?_eq_some_iff.1 hx).1
  cases hfd : lookT s.ls x.dest s.now with
  | some y =>
    have es : s.again k x = s.flush x.dest := by unfold Nd.again; rw [hfd]
    have p2 := flush_spec w0 gn s h x.dest ok so hl ht (hf.le (by omega))
    simp only [hfd, findV, findH, routeC] at p1
    simp only [nodP, nodPm, nodC, outH, restP, restC, e1, srC] at p2 ⊢
    simp only [argE]
    repeat' (first | (show WS _ _ _ (.region 1 _ true) _ _; first | refine WS_drawR2 0 2 (.range 19) (by decide +kernel) rfl rfl rfl iI iI ?_ | refine WS_drawK (.range 19) 12 [3, 7, 11] (by decide +kernel) rfl ?_) | (refine WS_seqK ?_; intro K hK) | (refine hK _ ?_; clear hK K) | refine stZ ?_ | (refine s2Z ?_ ?_ <;> intro hc <;> (try simp only [cS] at hc) <;> (try (exfalso; first | contradiction | omega))) | (refine DL_alloc iI rfl ?_; intro g) | ((first | refine' LQ ?zh rfl ?_ | refine' DL_q rfl rfl ?zh ?_); case zh => intro F'; first | exact Q_move rfl | exact Q_assign rfl | exact Q_nilCheck rfl | exact Q_fieldAddr rfl iI rfl | exact Q_load rfl iI iI rfl | exact Q_extract rfl rfl) | (refine s0Z ?_; intro g) | (refine DL_h (H_callX iI rfl p1 iI) rfl rfl rfl ?_; intro x1) | (refine LS_h (H_callX iI rfl p2 iI) rfl ?_; intro x2))
    exact ret_none (.inl rfl) rfl ⟨(), rfl, by rw [es]; exact finE⟩
  | none =>
    simp only [hfd, findV, findH, routeC] at p1
    cases hxo : x.out with
    | false =>
      have es : s.again k x = s.ask k x := by unfold Nd.again; rw [hfd]; simp only; rw [if_neg (by rw [hxo]; exact Bool.false_ne_true)]
      have p2 := ask_spec w0 gn s h hx hb ⟨hxr.1, hxr.2.1, hxr.2.2.1, hxr.2.2.2.1⟩ ok hod hsn hck hla (hf.le (by omega))
      simp only [nodP, nodPm, nodC, outH, restP, restC, e1, srC, hxo] at p2 ⊢
      simp only [argE]
      repeat' (first | (show WS _ _ _ (.region 1 _ true) _ _; first | refine WS_drawR2 0 2 (.range 19) (by decide +kernel) rfl rfl rfl iI iI ?_ | refine WS_drawK (.range 19) 12 [3, 7, 11] (by decide +kernel) rfl ?_) | (refine WS_seqK ?_; intro K hK) | (refine hK _ ?_; clear hK K) | refine stZ ?_ | (refine s2Z ?_ ?_ <;> intro hc <;> (try simp only [cS] at hc) <;> (try (exfalso; first | contradiction | omega))) | (refine DL_alloc iI rfl ?_; intro g) | ((first | refine' LQ ?zh rfl ?_ | refine' DL_q rfl rfl ?zh ?_); case zh => intro F'; first | exact Q_move rfl | exact Q_assign rfl | exact Q_nilCheck rfl | exact Q_fieldAddr rfl iI rfl | exact Q_load rfl iI iI rfl | exact Q_extract rfl rfl | exact Q_pick_f rfl iI rfl) | (refine s0Z ?_; intro g) | (refine DL_h (H_callX iI rfl p1 iI) rfl rfl rfl ?_; intro x1) | (refine LS_h (H_callX iI rfl p2 iI) rfl ?_; intro x2))
      exact ret_none (.inr rfl) rfl ⟨(), rfl, by rw [es]; exact finE⟩
    | true =>
      have pfu := further_spec w0 gn b x ⟨hxr.1, hxr.2.1, hxr.2.2.1, hxr.2.2.2.1⟩
      cases hfu : x.further with
      | some y =>
        have hyd : y.dest = x.dest ∧ y.name = x.name ∧ y.out = x.out ∧ 0 ≤ y.ttl ∧ y.ttl ≤ 8 ∧ 0 ≤ y.retries ∧ y.retries ≤ 2 := by
          unfold Sr.further at hfu
          split at hfu
          · cases hfu; simp only; exact ⟨trivial, trivial, trivial, by omega, by omega, by omega, by omega⟩
          · split at hfu
            · cases hfu; simp only; exact ⟨trivial, trivial, trivial, by omega, by omega, by omega, by omega⟩
            · split at hfu
              · cases hfu; simp only; exact ⟨trivial, trivial, trivial, by omega, by omega, by omega, by omega⟩
              · cases hfu
        have es : s.again k x = Nd.ask { s with srs := s.srs.set k y } k y := by unfold Nd.again; rw [hfd]; simp only; rw [if_pos hxo, hfu]
        have p2 := ask_spec w0 gn { s with srs := s.srs.set k y } h (show (s.srs.set k y)[k]? = some y by rw [List.getElem?_set]; simp [hkl]) hb ⟨hyd.2.2.2.1, hyd.2.2.2.2.1, hyd.2.2.2.2.2.1, hyd.2.2.2.2.2.2⟩ ok hod hsn hck hla ⟨by have := hf.frames; show s.out.frames.length + 3 ≤ _; omega, by have := hf.came; show s.out.came.length + 3 ≤ _; omega, by have := hf.dropped; show s.out.dropped.length + 3 ≤ _; omega, by have := hf.recs; show s.recs.length + 9 * 3 ≤ _; omega, by have := hf.journal; show s.out.journal.length + 120 * 3 ≤ _; omega⟩
        have hqm : qmap h.sb (s.srs.set k y) = qmap h.sb s.srs := zmap_set (key := fun x : Sr => x.dest) hx hyd.1
        have him : imap h.sb (s.srs.set k y) = imap h.sb s.srs := zmap_set (key := fun x : Sr => x.name) hx hyd.2.1
        simp only [hfu, Option.isSome_some, Option.getD_some] at pfu
        simp only [nodP, nodPm, nodC, outH, restP, restC, e1, e2, hqm, him, srC, hxo] at p2 pfu ⊢
        simp only [argE]
        repeat' (first | (show WS _ _ _ (.region 1 _ true) _ _; first | refine WS_drawR2 0 2 (.range 19) (by decide +kernel) rfl rfl rfl iI iI ?_ | refine WS_drawK (.range 19) 12 [3, 7, 11] (by decide +kernel) rfl ?_) | (refine WS_seqK ?_; intro K hK) | (refine hK _ ?_; clear hK K) | refine stZ ?_ | (refine s2Z ?_ ?_ <;> intro hc <;> (try simp only [cS] at hc) <;> (try (exfalso; first | contradiction | omega))) | (refine DL_alloc iI rfl ?_; intro g) | ((first | refine' LQ ?zh rfl ?_ | refine' DL_q rfl rfl ?zh ?_); case zh => intro F'; first | exact Q_move rfl | exact Q_assign rfl | exact Q_nilCheck rfl | exact Q_fieldAddr rfl iI rfl | exact Q_load rfl iI iI rfl | exact Q_extract rfl rfl | exact Q_pick_t rfl iI rfl | exact Q_un rfl iI) | (refine s0Z ?_; intro g) | (refine DL_h (H_callX iI rfl p1 iI) rfl rfl rfl ?_; intro x1) | (refine LS_h (H_callX iI rfl pfu iI) rfl ?_; intro x3) | (refine LS_h (H_callX iI rfl p2 iI) rfl ?_; intro x2))
        exact ret_none (.inr rfl) rfl ⟨(), rfl, by rw [es]; exact finE⟩
      | none =>
        obtain ⟨N, hN⟩ : ∃ N, N = (s.texts x.dest).length := ⟨_, rfl⟩
        have es : s.again k x = ((s.drops N 5).unwait x.dest).stop k := by unfold Nd.again; rw [hfd]; simp only; rw [if_pos hxo, hfu, hN]
        rw [← hN] at hm hl hf
        obtain ⟨wv', hwd⟩ := wait_del h.rw hwv x.dest
        simp only [hfu, Option.isSome_none, Option.getD_none] at pfu
        simp only [nodP, nodPm, nodC, outH, restP, restC, e1, srC, hxo, waitQ_eq hwv] at pfu ⊢
        simp only [argE]
        repeat' (first | (show WS _ _ _ (.region 1 _ true) _ _; first | refine WS_drawR2 0 2 (.range 19) (by decide +kernel) rfl rfl rfl iI iI ?_ | refine WS_drawK (.range 19) 12 [3, 7, 11] (by decide +kernel) rfl ?_) | (show WS _ _ _ (.region 5 _ true) _ _; refine WS_drawA (.range 11) (by decide +kernel) rfl ?_) | (refine WS_seqK ?_; intro K hK) | (refine hK _ ?_; clear hK K) | refine stZ ?_ | (refine s2Z ?_ ?_ <;> intro hc <;> (try simp only [cS] at hc) <;> (try (exfalso; first | contradiction | omega))) | (refine DL_alloc iI rfl ?_; intro g) | ((first | refine' LQ ?zh rfl ?_ | refine' DL_q rfl rfl ?zh ?_); case zh => intro F'; first | exact Q_move rfl | exact Q_assign rfl | exact Q_nilCheck rfl | exact Q_fieldAddr rfl iI rfl | exact Q_load rfl iI iI rfl | exact Q_extract rfl rfl | exact Q_pick_t rfl iI rfl | exact Q_un rfl iI | exact Q_len rfl iI | exact Q_lookupE rfl rfl iI iI iI iI iI (by assumption)) | (refine s0Z ?_; intro g) | (refine DL_h (H_callX iI rfl p1 iI) rfl rfl rfl ?_; intro x1) | (refine LS_h (H_callX iI rfl pfu iI) rfl ?_; intro x3))
        refine WS_loop (fun m τ => ∃ (j : Nat) (vd : Value), j + m = N ∧ τ = ⟨[(51, .int .i64 (j : Int)), (50, .int .i64 (N : Int)), (2, ptr gn 0), (0, ptr b 0)], [], nodO gn (s.drops j 5) { h with vd := vd } b x F1 * G⟩) ?_ ?_
        · exact ⟨N, _, ⟨0, h.vd, by omega, rfl⟩, ⟨rfl, rfl, rfl, rfl, trivial⟩, rfl, by simp only [nodO, Nd.drops_zero, nodC, outH, srC, hxo, waitQ_eq hwv]; exact finE⟩
        · rintro m τ ⟨j, vd, hjm, rfl⟩
          have hsj : (s.drops j 5).out.dropped.length = s.out.dropped.length + j := by unfold Nd.drops; simp
          have hsc := Nd.drops_succ s j 5
          have eqj : (s.drops j 5).srs = s.srs ∧ (s.drops j 5).wait = s.wait ∧ (s.drops j 5).names = s.names := ⟨rfl, rfl, rfl⟩
          have hdl := hf.dropped
          rcases Nat.lt_or_ge j N with hlt | hge
          · have p3 := ndrop_spec w0 gn (s.drops j 5) { h with vd := vd } 5 (by omega)
            rw [← hsc] at p3
            have hS1 : srsQ gn h.sb (s.drops (j + 1) 5).srs = cel b 247 (srC gn b x) * F1 := e1
            have hS0 : srsQ gn h.sb (s.drops j 5).srs = cel b 247 (srC gn b x) * F1 := e1
            have hj1 : (j : Int) < (N : Int) := by omega
            obtain ⟨sk, hsk⟩ : ∃ sk : Nd, sk = s.drops (j + 1) 5 := ⟨_, rfl⟩
            rw [← hsk] at p3 hS1
            clear hsc
            generalize s.drops j 5 = sj at *
            simp only [nodP, nodPm, nodC, outH, restP, restC, hS0, hS1] at p3
            simp only [nodO, nodC, outH]
            repeat' (first | (refine WS_seqK ?_; intro K hK) | (refine hK _ ?_; clear hK K) | refine stZ ?_ | (refine s2Z ?_ ?_ <;> intro hc <;> (try simp only [cS] at hc) <;> (try (exfalso; first | contradiction | omega))) | refine sbZ ?_ | ((refine' LQ ?zh rfl ?_); case zh => intro F'; first | exact Q_move rfl | exact Q_addI rfl rfl (by omega)) | (refine LS_h (H_callX iI rfl p3 iI) rfl ?_; intro vd2))
            exact ⟨m - 1, _, by omega, ⟨j + 1, vd2, by omega, rfl⟩, ⟨rfl, rfl, rfl, rfl, trivial⟩, rfl, by rw [← hsk]; simp only [nodO, nodC, outH]; exact finE⟩
          · obtain rfl : j = N := by omega
            have hj1 : ¬ (j : Int) < (j : Int) := by omega
            have so1 : SrOk ((s.drops j 5).unwait x.dest) := ⟨so.dests, so.names, so.each⟩
            have p4 := stop_spec w0 gn ((s.drops j 5).unwait x.dest) { h with vd := vd, wv := wv' } so1 hx hb
            have hS0 : srsQ gn h.sb (s.drops j 5).srs = cel b 247 (srC gn b x) * F1 := e1
            have hw0 : (s.drops j 5).wait = s.wait := rfl
            generalize s.drops j 5 = sj at *
            simp only [nodP, nodPm, nodC, outH, restP, restC, Nd.unwait, hS0, hw0, srC] at p4
            simp only [nodO, nodC, outH, hw0, waitQ_eq hwv, srC]
            repeat' (first | (show WS _ _ _ (.region 9 _ true) _ _; refine WS_drawK (.range 9) 8 [3, 7] (by decide +kernel) rfl ?_) | (refine WS_seqK ?_; intro K hK) | (refine hK _ ?_; clear hK K) | refine stZ ?_ | (refine s2Z ?_ ?_ <;> intro hc <;> (try simp only [cS] at hc) <;> (try (exfalso; first | contradiction | omega))) | refine sbZ ?_ | ((first | refine' LQ ?zh rfl ?_ | refine' DL_qp rfl rfl rfl ?zh ?_ | refine' DL_q rfl rfl ?zh ?_); case zh => intro F'; first | exact Q_move rfl | exact Q_nilCheck rfl | exact Q_fieldAddr rfl iI rfl | exact Q_load rfl iI iI rfl) | ((refine' DL_h0 ?zh rfl rfl ?_); (case zh => exact H_delete rfl rfl iI iI iI iI); intro g) | (refine LS_ent (Ent.two iI iI hwd (Ent.refl _)) ?_; refine LS_h (H_callX iI rfl p4 iI) rfl ?_; intro x4))
            refine ret_none (.inl rfl) rfl ⟨(), rfl, ?_⟩
            rw [es]
            refine Ent.nod { h with vd := vd, wv := wv', sb := h.sb.eraseIdx k } ?_
            simp only [nodP, nodPm, nodC, outH, restP, restC, Nd.unwait, hw0]
            exact finE
set_option maxRecDepth 100000 in
set_option maxHeartbeats 16000000 in
theorem begin_spec (gn : Nat) (s : Nd) (h : NH) (d : UInt32) (hd : srFind s.srs d = none) (so : SrOk s) (ok : TabOk s.ls) (hnm : 0 ≤ s.names ∧ s.names ≤ 1000000000000) (hod : s.order.length ≤ 16) (hsn : s.sent.length ≤ 100) (hck : s.clk.length ≤ 900000) (hla : 0 ≤ s.last ∧ s.last ≤ 1000000000000) (hf : s.Fit 3) : Spec Tryz.prog w0 146 [ptr gn 0, u32 d] (nodP gn s h) (fun _ : Unit => .tuple #[]) (fun _ => nodA gn ((s.newSr d).ask s.srs.length ⟨d, 1, 0, false, s.names + 1⟩)) := by
  refine Spec.enter Tryz.func146 rfl Tryz.ntmps146 rfl fun G => ?_
  refine WS_lens fun hsb hwv => ?_
  rw [srFind_k] at hd
  have hn : kfind (·.name) s.srs (s.names + 1) = none := kfind_none.2 fun x hx => by have := (so.each x hx).2.2.2.2; omega
  have hq := fun gb : Nat => mset_zmap_none (key := fun x : Sr => x.dest) gb ⟨d, 1, 0, false, s.names + 1⟩ rfl hsb hd
  have hi := fun gb : Nat => mset_zmap_none (key := fun x : Sr => x.name) gb ⟨d, 1, 0, false, s.names + 1⟩ rfl hsb hn
  have hS : ∀ gb : Nat, srsQ gn (h.sb ++ [gb]) (s.srs ++ [⟨d, 1, 0, false, s.names + 1⟩]) = cel gb 247 (srC gn gb ⟨d, 1, 0, false, s.names + 1⟩) * srsP gn h.sb s.srs := fun gb => by
    rw [srsQ_eq (by simp [hsb]), srsP_z, srsP_z, zrow_snoc gb _ hsb]; rfl
  have p1 := fun gb : Nat => ask_spec w0 gn (s.newSr d) { h with sb := h.sb ++ [gb] } (k := s.srs.length) (b := gb) (x := ⟨d, 1, 0, false, s.names + 1⟩) (by show (s.srs ++ [_])[s.srs.length]? = _; simp) (by show (h.sb ++ [gb])[s.srs.length]? = _; rw [← hsb]; simp) (by simp) ok hod hsn hck hla ⟨hf.frames, hf.came, hf.dropped, hf.recs, hf.journal⟩
  simp only [nodP, nodPm, nodC, outH, restP, restC, Nd.newSr, hS, qmap_z, imap_z, srC] at p1 ⊢
  simp only [← hq, ← hi] at p1
  rw [srsQ_eq hsb]
  simp only [argE]
  repeat' (first | (show WS _ _ _ (.region 4 _ true) _ _; refine WS_drawK (.range 10) 9 [3, 7] (by decide +kernel) rfl ?_) | (refine WS_seqK ?_; intro K hK) | (refine hK _ ?_; clear hK K) | refine stZ ?_ | ((first | refine' LQ ?zh rfl ?_ | refine' DL_qp rfl rfl rfl ?zh ?_ | refine' DL_q rfl rfl ?zh ?_); case zh => intro F'; first | exact Q_move rfl | exact Q_assign rfl | exact Q_nilCheck rfl | exact Q_fieldAddr rfl iI rfl | exact Q_load rfl iI iI rfl | exact Q_addI rfl rfl (by omega) | exact Q_build iI iI rfl rfl | exact Q_makeFunc rfl rfl) | (refine s0Z ?_; intro g) | ((first | refine' LS_h0 ?zh ?_ | refine' DL_h0 ?zh rfl rfl ?_); (case zh => exact H_mapUpdate rfl rfl rfl iI iI iI iI iI); intro g) | (refine LS_h (H_box rfl) rfl ?_; intro gb; replace p1 := p1 gb) | (refine LS_h (H_callX iI rfl p1 iI) rfl ?_; intro x2))
  exact ret_none (.inr rfl) rfl ⟨(), rfl, finE⟩
end

section
open Go.RowKit
section
variable {P : Program} {n : Frm} {w0 : World} {E : Env} {D : List Deferred} {H F F1 F2 : HProp} {Q : Exit → St → Prop} {l l' : List Oper}
theorem WS_drawG {id : Nat} (g1 g2 gL : Nat) (idx : List Nat) (cp : Nat) (bs : List Nat) {bt bt2 bt3 : TypeId} {cs cs2 cs3 : List Value} (hs : statD P l idx (inB bs) cp = true) (hl : permL l idx = some l') (hR : LimbB H g1 bt cs F1) (hR2 : LimbB F1 g2 bt2 cs2 F2) (hL : LimbB F2 gL bt3 cs3 F) (h : DL P n w0 l.toArray Q D (cel g1 bt cs * cel g2 bt2 cs2) (cel gL bt3 cs3) (inB bs) cp 0 false l' E F) : WS P n w0 (.region id l.toArray true) Q ⟨E, D, H⟩ :=
  WS_draw idx l' (cel g1 bt cs * cel g2 bt2 cs2) (cel gL bt3 cs3) F _ cp hs (by rw [hR.eq, hR2.eq, hL.eq, star_assoc]) (permL_eq hl) h
end
theorem loseAll_snoc (src : UInt32) (ls : List Ln) (l : List (UInt32 × UInt32)) (x : UInt32 × UInt32) : loseAll src ls (l ++ [x]) = loseStep src (loseAll src ls l) x := by simp [loseAll]
theorem loseAll_length (src : UInt32) (ls : List Ln) (l : List (UInt32 × UInt32)) : (loseAll src ls l).2.1.length ≤ l.length := by
  induction l using snocInd with
  | nil => simp [loseAll]
  | snoc l x ih =>
    rw [loseAll_snoc]
    unfold loseStep
    simp only
    split <;> simp <;> omega
attribute [local irreducible] WS LS OpQ OpT OpH OpTQ Spec SpecQ cel
variable (w0 : World)
set_option maxRecDepth 100000 in
set_option maxHeartbeats 16000000 in
theorem data_spec (gn : Nat) (s : Nd) (h : NH) (src : UInt32) (p : Pk) (hp : p.Read) (v : Value) (ok : TabOk s.ls) (hf : s.Fit 2) : Spec Tryz.prog w0 121 [ptr gn 0, u32 src, p.val v] (nodP gn s h * rows 180 2 lostC v p.lost) (fun _ : Unit => .tuple #[]) (fun _ => nodA gn (s.dat src p)) := by
  have hf1 : s.Fit 1 := hf.le (by omega)
  refine Spec.enter Tryz.func121 rfl Tryz.ntmps121 rfl fun G => ?_
  refine WS_form v iI fun A c hv => ?_
  subst hv
  obtain ⟨hp1, hp2, hp3, hp4, hp5⟩ := hp
  obtain ⟨ttl, kind, hops, unknown, id, dest, destSeq, from_, fromSeq, life, lost, payload⟩ := p
  simp only [Pk.val, Pk.cells, argE] at *
  by_cases h1 : dest = s.self
  · have es : s.dat src ⟨ttl, kind, hops, unknown, id, dest, destSeq, from_, fromSeq, life, lost, payload⟩ = s.came (from_, payload) := by unfold Nd.dat; rw [if_pos h1]
    have hcl := hf.came
    simp only [nodP, nodPm, nodC, outH, restP]
    repeat' (first | (show WS _ _ _ (.region 1 _ true) _ _; refine WS_drawA (.range 7) (by decide +kernel) rfl ?_) | (show WS _ _ _ (.region 2 _ true) _ _; first | refine WS_drawK (.range 17) 12 [5, 7, 9] (by decide +kernel) rfl ?_ | refine WS_drawN 0 5 (.range 17) 16 [5] (by decide +kernel) rfl rfl rfl iI iI ?_) | (refine WS_seqK ?_; intro K hK) | (refine hK _ ?_; clear hK K) | refine stZ ?_ | (refine s2Z ?_ ?_ <;> intro hc <;> (try simp only [cS] at hc) <;> (try (exfalso; first | contradiction | omega))) | refine sbZ ?_ | ((first | refine' LQ ?zh rfl ?_ | refine' DL_qp rfl rfl rfl ?zh ?_ | refine' DL_q rfl rfl ?zh ?_); case zh => intro F'; first | exact Q_move rfl | exact Q_nilCheck rfl | exact Q_fieldAddr rfl iI rfl | exact Q_load rfl iI iI rfl | exact Q_build iI iI rfl rfl) | (refine shZ ?_; intro g) | (refine s0Z ?_; intro g) | (refine DL_h (H_buildSliceR txtC [(from_, payload)] iI iI iI rfl rfl rfl rfl rfl iI rfl rfl rfl) rfl rfl rfl ?_; intro vx) | (refine DL_h (H_appendR rfl rfl iI iI rfl iI iI txtC_one (by first | omega | (simp [be_length] <;> omega)) rfl) rfl rfl rfl ?_; intro va))
    refine ret_none (.inl rfl) rfl ⟨(), rfl, ?_⟩
    rw [es]
    refine Ent.nod { h with vc := va } ?_
    simp only [nodP, nodPm, nodC, outH, restP, Nd.came]
    exact finE
  by_cases ht1 : ttl = 1
  · have es : s.dat src ⟨ttl, kind, hops, unknown, id, dest, destSeq, from_, fromSeq, life, lost, payload⟩ = s.drop 4 := by unfold Nd.dat; rw [if_neg h1, if_pos ht1]
    have p1 := drop_A w0 gn s h 4 hf1
    simp only [nodP, nodPm, nodC, outH, restP] at p1 ⊢
    repeat' (first | (show WS _ _ _ (.region 1 _ true) _ _; refine WS_drawA (.range 7) (by decide +kernel) rfl ?_) | (refine WS_seqK ?_; intro K hK) | (refine hK _ ?_; clear hK K) | refine stZ ?_ | (refine s2Z ?_ ?_ <;> intro hc <;> (try simp only [cS] at hc) <;> (try (exfalso; first | contradiction | omega))) | refine sbZ ?_ | ((first | refine' LQ ?zh rfl ?_ | refine' DL_q rfl rfl ?zh ?_); case zh => intro F'; first | exact Q_move rfl | exact Q_nilCheck rfl | exact Q_fieldAddr rfl iI rfl | exact Q_load rfl iI iI rfl) | (refine shZ ?_; intro g) | (refine LS_h (H_callX iI rfl p1 iI) rfl ?_; intro x1))
    exact ret_none (.inl rfl) rfl ⟨(), rfl, by rw [es]; exact finE⟩
  have p6 := find_spec w0 h.tb s.self s.ls ok dest s.now
  cases hx : lookT s.ls dest s.now with
  | none =>
    obtain ⟨s1, hs1⟩ : ∃ s1 : Nd, s1 = s.drop 3 := ⟨_, rfl⟩
    have e1 : s1.ls = s.ls := by rw [hs1]; rfl
    have es : s.dat src ⟨ttl, kind, hops, unknown, id, dest, destSeq, from_, fromSeq, life, lost, payload⟩ = Nd.tell { s1 with ls := bumpT s1.ls dest } src dest (numT (bumpT s1.ls dest) dest) := by unfold Nd.dat; rw [if_neg h1, if_neg ht1]; simp only [hx]; rw [hs1]; rfl
    have p1 := ndrop_spec w0 gn s h 3 (by have := hf.dropped; omega)
    have p2 := bump_spec w0 h.tb s1.self s1.ls dest
    have p3 := fun vd => tell_A w0 gn { s1 with ls := bumpT s1.ls dest } { h with vd := vd } src dest (numT (bumpT s1.ls dest) dest) (by rw [hs1]; exact (hf.drop 3).ls _)
    rw [← hs1] at p1
    simp only [nodP, nodPm, nodC, outH, restP] at p1 p3 ⊢
    simp only [hx, findV, findH, routeC] at p6
    repeat' (first | (show WS _ _ _ (.region 1 _ true) _ _; refine WS_drawA (.range 7) (by decide +kernel) rfl ?_) | (show WS _ _ _ (.region 5 _ true) _ _; first | refine WS_drawR2 0 5 (.range 17) (by decide +kernel) rfl rfl rfl iI iI ?_ | refine WS_drawK (.range 17) 10 [3, 5, 9] (by decide +kernel) rfl ?_) | (refine WS_seqK ?_; intro K hK) | (refine hK _ ?_; clear hK K) | refine stZ ?_ | (refine s2Z ?_ ?_ <;> intro hc <;> (try simp only [cS] at hc) <;> (try (exfalso; first | contradiction | omega))) | (refine DL_alloc iI rfl ?_; intro g) | refine sbZ ?_ | ((first | refine' LQ ?zh rfl ?_ | refine' DL_qp rfl rfl rfl ?zh ?_ | refine' DL_q rfl rfl ?zh ?_); case zh => intro F'; first | exact Q_move rfl | exact Q_assign rfl | exact Q_nilCheck rfl | exact Q_fieldAddr rfl iI rfl | exact Q_load rfl iI iI rfl | exact Q_extract rfl rfl | exact Q_un rfl iI) | (refine shZ ?_; intro g) | (refine s0Z ?_; intro g) | (show WS _ _ _ (.region 8 _ true) _ _; refine WS_drawN 0 5 (.range 12) 11 [7] (by decide +kernel) rfl rfl rfl iI iI ?_) | (refine DL_h (H_callX iI rfl p6 iI) rfl rfl rfl ?_; intro x6) | (refine LS_h (H_callX iI rfl p1 iI) rfl ?_; intro vd; replace p3 := p3 vd) | (refine DL_h (H_callX iI rfl p2 iI) rfl rfl rfl ?_; intro x2) | (refine DL_h (H_callX iI rfl p3 iI) rfl rfl rfl ?_; intro x3))
    exact ret_none (.inl rfl) rfl ⟨(), rfl, by rw [es]; exact finE⟩
  | some x =>
    obtain ⟨s2, hs2⟩ : ∃ s2 : Nd, s2 = Nd.send s x.next ⟨ttl - 1, kind, hops, unknown, id, dest, destSeq, from_, fromSeq, life, lost, payload⟩ := ⟨_, rfl⟩
    have e1 : s2.ls = s.ls := by rw [hs2]; rfl
    have e2 : s2.soon = s.soon := by rw [hs2]; rfl
    have es : s.dat src ⟨ttl, kind, hops, unknown, id, dest, destSeq, from_, fromSeq, life, lost, payload⟩ = { s2 with ls := useT (useT s2.ls dest s2.soon) from_ s2.soon } := by unfold Nd.dat; rw [if_neg h1, if_neg ht1]; simp only [hx]; rw [e1, e2, hs2]
    have p7 := nsend_spec w0 gn s h x.next ⟨ttl - 1, kind, hops, unknown, id, dest, destSeq, from_, fromSeq, life, lost, payload⟩ ⟨by simp only [i64R] at *; omega, by simpa only [i64R] using hp2, by simp only [i64R] at *; omega, by simp only; omega, by simp only; omega⟩ (.slice A lost.length c) rfl (rows 180 2 lostC (.slice A lost.length c) lost) (hX := rdr_bare _ _ _ _ _) (by have := hf.frames; omega)
    have p8 := use_spec w0 h.tb s2.self s2.ls dest s2.soon
    have p9 := use_spec w0 h.tb s2.self (useT s2.ls dest s2.soon) from_ s2.soon
    have p10 := fun vf => soon_spec w0 gn s2 { h with vf := vf }
    rw [← hs2] at p7
    simp only [nodP, nodPm, nodC, outH, restP, Pk.val, Pk.cells] at p7 p10 ⊢
    simp only [hx, findV, findH, routeC] at p6
    repeat' (first | (show WS _ _ _ (.region 1 _ true) _ _; refine WS_drawA (.range 7) (by decide +kernel) rfl ?_) | (show WS _ _ _ (.region 5 _ true) _ _; first | refine WS_drawR2 0 5 (.range 17) (by decide +kernel) rfl rfl rfl iI iI ?_ | refine WS_drawK (.range 17) 10 [3, 5, 9] (by decide +kernel) rfl ?_) | (show WS _ _ _ (.region 11 _ true) _ _; refine WS_drawK (.range 9) 8 [3, 5] (by decide +kernel) rfl ?_) | (show WS _ _ _ (.region 12 _ true) _ _; refine WS_drawK (.range 9) 8 [3, 5] (by decide +kernel) rfl ?_) | (refine WS_seqK ?_; intro K hK) | (refine hK _ ?_; clear hK K) | refine stZ ?_ | (refine s2Z ?_ ?_ <;> intro hc <;> (try simp only [cS] at hc) <;> (try (exfalso; first | contradiction | omega))) | (refine DL_alloc iI rfl ?_; intro g) | refine sbZ ?_ | ((first | refine' LQ ?zh rfl ?_ | refine' DL_qp rfl rfl rfl ?zh ?_ | refine' DL_q rfl rfl ?zh ?_); case zh => intro F'; first | exact Q_move rfl | exact Q_assign rfl | exact Q_nilCheck rfl | exact Q_fieldAddr rfl iI rfl | exact Q_load rfl iI iI rfl | exact Q_subI rfl rfl (by omega) | exact Q_extract rfl rfl | exact Q_un rfl iI | exact Q_loadA rfl iI iI rfl) | (refine shZ ?_; intro g) | (refine s0Z ?_; intro g) | (refine DL_h (H_callX iI rfl p6 iI) rfl rfl rfl ?_; intro x6) | (refine LS_h (H_callX iI rfl p7 iI) rfl ?_; intro vf; replace p10 := p10 vf) | (refine DL_callS iI rfl p10 iI rfl ?_) | (refine DL_h (H_callX iI rfl p8 iI) rfl rfl rfl ?_; intro x8) | (refine DL_h (H_callX iI rfl p9 iI) rfl rfl rfl ?_; intro x9))
    refine ret_none (.inr rfl) rfl ⟨(), rfl, ?_⟩
    rw [es]
    refine Ent.nod { h with vf := vf } ?_
    simp only [nodP, nodPm, nodC, outH, restP]
    exact finE
set_option maxRecDepth 100000 in
set_option maxHeartbeats 16000000 in
theorem lose_spec' (gn : Nat) (s : Nd) (h : NH) (src : UInt32) (p : Pk) (hp : p.Read) (v : Value) (hf : s.Fit 2) : Spec Tryz.prog w0 120 [ptr gn 0, u32 src, p.val v] (nodP gn s h * rows 180 2 lostC v p.lost) (fun _ : Unit => .tuple #[]) (fun _ => nodA gn (s.los src p)) := by
  have hf1 : s.Fit 1 := hf.le (by omega)
  refine Spec.enter Tryz.func120 rfl Tryz.ntmps120 rfl fun G => ?_
  refine WS_form v iI fun A c hv => ?_
  subst hv
  obtain ⟨hp1, hp2, hp3, hp4, hp5⟩ := hp
  obtain ⟨ttl, kind, hops, unknown, id, dest, destSeq, from_, fromSeq, life, lost, payload⟩ := p
  simp only [Pk.val, Pk.cells, argE] at *
  simp only [nodP, nodPm, nodC, outH, restP]
  repeat' (first | (refine WS_seqK ?_; intro K hK) | (refine hK _ ?_; clear hK K) | refine stZ ?_ | ((refine' LQ ?zh rfl ?_); case zh => intro F'; first | exact Q_move rfl | exact Q_assign rfl | exact Q_fieldAddr rfl iI rfl | exact Q_load rfl iI iI rfl | exact Q_len rfl iI) | (refine LS_h (H_box rfl) rfl ?_; intro gp))
  refine WS_ent (Ent.nil _ 180 2 lostC none) ?_
  obtain ⟨PC, hPC⟩ : ∃ PC : List Value, PC = [.int .i64 ttl, .int .i64 kind, .int .i64 hops, .bool unknown, u32 id, u32 dest, u32 destSeq, u32 from_, u32 fromSeq, u32 life, .slice A lost.length c, strV payload] := ⟨_, rfl⟩
  refine WS_loop (fun k τ => ∃ (j : Nat) (vt : Value), j + k = lost.length ∧ τ = ⟨[(16, .int .i64 (j : Int)), (15, .int .i64 (lost.length : Int)), (14, .slice A lost.length c), (7, .bool (loseAll src s.ls (lost.take j)).2.2), (6, vt), (0, ptr gn 0), (1, u32 src)], [], nodP gn { s with ls := (loseAll src s.ls (lost.take j)).1 } h * (rows 180 2 lostC vt (loseAll src s.ls (lost.take j)).2.1 * (rows 180 2 lostC (.slice A lost.length c) lost * G))⟩) ?_ ?_
  · exact ⟨lost.length, _, ⟨0, _, by omega, rfl⟩, ⟨rfl, rfl, rfl, rfl, rfl, rfl, rfl, trivial⟩, rfl, by simp only [List.take_zero, loseAll, List.foldl_nil, nodP, nodPm, nodC, outH, restP]; exact finE⟩
  · rintro k τ ⟨j, vt, hjk, rfl⟩
    rcases Nat.lt_or_ge j lost.length with hlt | hge
    · obtain ⟨⟨ld, lq⟩, hz⟩ : ∃ z, lost[j]? = some z := ⟨_, List.getElem?_eq_getElem hlt⟩
      have htk : loseAll src s.ls (lost.take (j + 1)) = loseStep src (loseAll src s.ls (lost.take j)) (ld, lq) := by rw [List.take_add_one, hz, Option.toList_some, loseAll_snoc]
      have hal := loseAll_length src s.ls (lost.take j)
      rw [List.length_take] at hal
      generalize loseAll src s.ls (lost.take j) = a at *
      obtain ⟨ls1, tl, sm⟩ := a
      simp only [loseStep] at htk hal
      have p1 := lose_spec w0 h.tb s.self ls1 src ld lq
      have hj1 : (j : Int) < (lost.length : Int) := by omega
      cases hd : losesT ls1 src ld
      all_goals cases hb : decide (0 < ((lget ls1 ld).getD Ln.zero).before.length)
      all_goals cases sm
      all_goals
        simp only [hd, hb, Bool.false_and, Bool.true_and, Bool.and_false, Bool.and_true, Bool.or_false, Bool.or_true, Bool.false_eq_true, if_false, if_true] at htk p1
        simp only [nodP, nodPm, nodC, outH, restP, lostC]
        repeat' (first | (show WS _ _ _ (.region 6 _ true) _ _; refine WS_drawK (.range 14) 6 [3, 5] (by decide +kernel) rfl ?_) | (refine WS_seqK ?_; intro K hK) | (refine hK _ ?_; clear hK K) | refine stZ ?_ | (refine s2Z ?_ ?_ <;> intro hc <;> (try simp only [cS] at hc) <;> (try (exfalso; first | contradiction | omega))) | refine sbZ ?_ | ((first | refine' LQ ?zh rfl ?_ | refine' DL_qp rfl rfl rfl ?zh ?_ | refine' DL_q rfl rfl ?zh ?_); case zh => intro F'; first | exact Q_move rfl | exact Q_assign rfl | exact Q_nilCheck rfl | exact Q_fieldAddr rfl iI rfl | exact Q_load rfl iI iI rfl | exact Q_addI rfl rfl (by omega) | exact Q_extract rfl rfl | exact Q_pick_t rfl iI rfl | exact Q_pick_f rfl iI rfl | exact Q_loadA rfl iI iI rfl | exact Q_build iI iI rfl rfl | exact Q_index rfl rfl iI iI iI iI (by first | assumption | omega | (simp [be_length] <;> omega)) | exact Q_loadRA rfl iI iI iI (by assumption)) | (refine shZ ?_; intro g) | ((refine' LS_h0 ?zh ?_); (case zh => exact H_storeA rfl rfl iI iI (by first | rfl | (simp only [List.all_cons, List.all_nil, *]; rfl)) rfl); intro g) | (refine LS_h (H_buildSliceR lostC [(ld, numT (loseT ls1 src ld lq) ld)] iI iI iI rfl rfl rfl rfl rfl iI rfl rfl rfl) rfl ?_; intro vx) | (refine LS_h (H_appendR rfl rfl iI iI rfl iI iI lostC_one (by first | omega | (simp [be_length] <;> omega)) rfl) rfl ?_; intro va) | (refine DL_h (H_callX iI rfl p1 iI) rfl rfl rfl ?_; intro x1))
        exact ⟨k - 1, _, by omega, ⟨j + 1, _, by omega, rfl⟩, ⟨rfl, rfl, rfl, by rw [htk]; rfl, rfl, rfl, rfl, trivial⟩, rfl, by rw [htk]; simp only [nodP, nodPm, nodC, outH, restP]; exact finE⟩
    · obtain rfl : j = lost.length := by omega
      rw [List.take_of_length_le (Nat.le_refl _)]
      have hal := loseAll_length src s.ls lost
      have es : s.los src ⟨ttl, kind, hops, unknown, id, dest, destSeq, from_, fromSeq, life, lost, payload⟩ = if (loseAll src s.ls lost).2.2 = true then Nd.lost { s with ls := (loseAll src s.ls lost).1 } (loseAll src s.ls lost).2.1 else Nd.drop (Nd.lost { s with ls := (loseAll src s.ls lost).1 } (loseAll src s.ls lost).2.1) 7 := rfl
      generalize loseAll src s.ls lost = a at *
      obtain ⟨ls1, tl, sm⟩ := a
      simp only at hal es
      have p1 := lost_spec w0 gn { s with ls := ls1 } h tl (by omega) vt (hf1.ls _)
      have hf3 : (Nd.lost { s with ls := ls1 } tl).Fit 1 := by unfold Nd.lost; split; exact (hf.ls ls1).send _ _; exact hf1.ls ls1
      generalize Nd.lost { s with ls := ls1 } tl = s2 at *
      have p5 := fun h2 => drop_A w0 gn s2 h2 7 hf3
      have hj1 : ¬ (lost.length : Int) < (lost.length : Int) := by omega
      cases sm
      · simp only [nodP, nodPm, nodC, outH, restP] at p1 p5 ⊢
        repeat' (first | (refine WS_seqK ?_; intro K hK) | (refine hK _ ?_; clear hK K) | refine stZ ?_ | (refine s2Z ?_ ?_ <;> intro hc <;> (try simp only [cS] at hc) <;> (try (exfalso; first | contradiction | omega))) | refine sbZ ?_ | ((refine' LQ ?zh rfl ?_); case zh => intro F'; first | exact Q_move rfl | exact Q_un rfl iI) | (refine LS_h (H_callX iI rfl p1 iI) rfl ?_; intro x1) | (refine LS_h (H_callX iI rfl p5 iI) rfl ?_; intro x2) | (refine LS_nod fun h9 => ?_; replace p5 := p5 h9; simp only [nodP, nodPm, nodC, outH, restP]))
        exact ret_none (.inr rfl) rfl ⟨(), rfl, by rw [es]; simp only [Bool.false_eq_true, if_false]; exact finE⟩
      · simp only [nodP, nodPm, nodC, outH, restP] at p1 ⊢
        repeat' (first | (refine WS_seqK ?_; intro K hK) | (refine hK _ ?_; clear hK K) | refine stZ ?_ | (refine s2Z ?_ ?_ <;> intro hc <;> (try simp only [cS] at hc) <;> (try (exfalso; first | contradiction | omega))) | refine sbZ ?_ | ((refine' LQ ?zh rfl ?_); case zh => intro F'; first | exact Q_move rfl | exact Q_un rfl iI) | (refine LS_h (H_callX iI rfl p1 iI) rfl ?_; intro x1))
        exact ret_none (.inr rfl) rfl ⟨(), rfl, by rw [es]; simp only [if_true]; exact finE⟩
theorem outB_length (nb : UInt32) (ds : List UInt32) (ls : List Ln) : (outB nb ds ls).length ≤ ds.length := List.length_filterMap_le _ _
set_option maxRecDepth 100000 in
set_option maxHeartbeats 16000000 in
theorem brkC_spec (gn : Nat) (s : Nd) (nb : UInt32) (ok : TabOk s.ls) (hf : s.Fit 1) (bn bx : Nat) (tn tx : TypeId) : Spec Tryz.prog w0 193 [ptr bn 0, ptr bx 0] (nodA gn s * (cel bn tn [ptr gn 0] * cel bx tx [u32 nb])) (fun _ : Unit => .tuple #[]) (fun _ => nodA gn (s.brk nb) * emp) := by
  refine Spec.enter Tryz.func193 rfl Tryz.ntmps193 rfl fun G => ?_
  rw [star_assoc (nodA gn s)]
  refine WS_nod fun h => ?_
  have p1 := broken_spec w0 h.tb s.self s.ls ok nb
  have hol := outB_length nb (sortU (dests s.ls)) s.ls
  have h8 : (sortU (dests s.ls)).length ≤ 8 := by rw [sortU_length]; simpa [dests] using ok.short
  have p2 := fun v => lost_spec w0 gn { s with ls := brkT nb s.ls } h (outB nb (sortU (dests s.ls)) s.ls) (by omega) v (hf.ls _)
  simp only [nodP, nodPm, nodC, outH, restP] at p2 ⊢
  simp only [argE]
  repeat' (first | refine stZ ?_ | ((first | refine' DL_qp rfl rfl rfl ?zh ?_ | refine' DL_q rfl rfl ?zh ?_); case zh => intro F'; first | exact Q_nilCheck rfl | exact Q_fieldAddr rfl iI rfl | exact Q_load rfl iI iI rfl) | (show WS _ _ _ (.region 0 _ true) _ _; refine WS_drawG bn bx gn [0, 1, 2, 3, 4, 5, 6, 7] 7 [4] (by decide +kernel) rfl iI iI iI ?_) | (refine DL_h (H_callX iI rfl p1 iI) rfl rfl rfl ?_; intro v1) | (refine DL_h (H_callX iI rfl (p2 _) iI) rfl rfl rfl ?_; intro x2))
  exact ret_none (.inr rfl) rfl ⟨(), rfl, by unfold Nd.brk; exact finE⟩
end

section
structure Nd.Step (s t : Nd) (a b : Nat) : Prop where
  self : t.self = s.self
  now : t.now = s.now
  repl : t.out.replace = s.out.replace
  frames : t.out.frames.length ≤ s.out.frames.length + a
  came : t.out.came.length ≤ s.out.came.length + a
  dropped : t.out.dropped.length ≤ s.out.dropped.length + a
  wr : ∃ W : List Rec, W.length ≤ b ∧ t.recs = s.recs ++ W ∧ t.out.journal = s.out.journal ++ recsB W
theorem Nd.Step.zero {s t : Nd} (h1 : t.self = s.self) (h2 : t.now = s.now) (h3 : t.out = s.out) (h4 : t.recs = s.recs) : s.Step t 0 0 := ⟨h1, h2, by rw [h3], by rw [h3]; omega, by rw [h3]; omega, by rw [h3]; omega, [], by simp, by simp [h4], by simp [h3, recsB]⟩
theorem Nd.Step.trans {s t u : Nd} {a b c d : Nat} (h : s.Step t a b) (g : t.Step u c d) : s.Step u (a + c) (b + d) := by
  obtain ⟨W, w1, w2, w3⟩ := h.wr
  obtain ⟨V, v1, v2, v3⟩ := g.wr
  refine ⟨g.self.trans h.self, g.now.trans h.now, g.repl.trans h.repl, ?_, ?_, ?_, W ++ V, by simp; omega, by rw [v2, w2, List.append_assoc], by rw [v3, w3]; simp [recsB]⟩
  · have := h.frames; have := g.frames; omega
  · have := h.came; have := g.came; omega
  · have := h.dropped; have := g.dropped; omega
theorem Nd.Step.le {s t : Nd} {a b c d : Nat} (h : s.Step t a b) (h1 : a ≤ c) (h2 : b ≤ d) : s.Step t c d := by
  obtain ⟨W, w1, w2, w3⟩ := h.wr
  exact ⟨h.self, h.now, h.repl, by have := h.frames; omega, by have := h.came; omega, by have := h.dropped; omega, W, by omega, w2, w3⟩
theorem recsB_length (l : List Rec) : (recsB l).length = 13 * l.length := by
  unfold recsB
  exact recBytes_length l
theorem Nd.Step.recs {s t : Nd} {a b : Nat} (h : s.Step t a b) : t.recs.length ≤ s.recs.length + b := by
  obtain ⟨W, w1, w2, w3⟩ := h.wr
  rw [w2]; simp; omega
theorem Nd.Step.journal {s t : Nd} {a b : Nat} (h : s.Step t a b) : t.out.journal.length ≤ s.out.journal.length + 13 * b := by
  obtain ⟨W, w1, w2, w3⟩ := h.wr
  rw [w3, List.length_append, recsB_length]; omega
theorem Nd.Step.fit {s t : Nd} {a b k : Nat} (h : s.Step t a b) (h1 : s.out.frames.length + a + k ≤ 800000) (h2 : s.out.came.length + a + k ≤ 800000) (h3 : s.out.dropped.length + a + k ≤ 800000) (h4 : s.recs.length + b + 9 * k ≤ 400000) (h5 : s.out.journal.length + 13 * b + 120 * k ≤ 800000) : t.Fit k := by
  have := h.frames; have := h.came; have := h.dropped; have := h.recs; have := h.journal
  constructor <;> omega
theorem Nd.Step.write (s : Nd) (r : Rec) : s.Step (s.write r) 0 1 := ⟨rfl, rfl, rfl, Nat.le_refl _, Nat.le_refl _, Nat.le_refl _, [r], by simp, rfl, by simp [Nd.write, recsB]⟩
theorem Nd.Step.noteL (s : Nd) (l : Ln) : s.Step (s.noteL l) 0 1 := by
  unfold Nd.noteL
  repeat' split
  all_goals first | exact Nd.Step.write _ _ | exact (Nd.Step.zero rfl rfl rfl rfl).le (by omega) (by omega)
theorem Nd.Step.noteO (s : Nd) : s.Step s.noteO 0 1 := by
  unfold Nd.noteO
  split
  · exact Nd.Step.write _ _
  · exact (Nd.Step.zero rfl rfl rfl rfl).le (by omega) (by omega)
theorem Nd.Step.noteLs (L : List Ln) : ∀ s : Nd, s.Step (L.foldl Nd.noteL s) 0 L.length := by
  induction L with
  | nil => intro s; exact Nd.Step.zero rfl rfl rfl rfl
  | cons l L ih => intro s; exact ((Nd.Step.noteL s l).trans (ih _)).le (by omega) (by simp only [List.length_cons]; omega)
theorem Nd.Step.note (s : Nd) : s.Step s.note 0 (1 + (listT s.ls).length) := ((Nd.Step.noteO s).trans (Nd.Step.noteLs _ _)).le (by omega) (Nat.le_refl _)
theorem Nd.Step.send (s : Nd) (to : UInt32) (p : Pk) : s.Step (s.send to p) 1 0 := ⟨rfl, rfl, rfl, by simp [Nd.send], by simp [Nd.send], by simp [Nd.send], [], by simp, by simp [Nd.send], by simp [Nd.send, recsB]⟩
theorem Nd.Step.drop (s : Nd) (r : Int) : s.Step (s.drop r) 1 0 := ⟨rfl, rfl, rfl, by simp [Nd.drop], by simp [Nd.drop], by simp [Nd.drop], [], by simp, by simp [Nd.drop], by simp [Nd.drop, recsB]⟩
theorem Nd.Step.came_ (s : Nd) (x : UInt32 × Str) : s.Step (s.came x) 1 0 := ⟨rfl, rfl, rfl, by simp [Nd.came], by simp [Nd.came], by simp [Nd.came], [], by simp, by simp [Nd.came], by simp [Nd.came, recsB]⟩
theorem Nd.Step.ls (s : Nd) (l : List Ln) : s.Step { s with ls := l } 0 0 := Nd.Step.zero rfl rfl rfl rfl
theorem Nd.Step.remember (s : Nd) (r : Rq) : s.Step (s.remember r) 0 0 := by
  obtain ⟨_, h1, h2, h3, h4⟩ := s.remember_eqs r
  exact Nd.Step.zero h1 h2 h3 h4
theorem Nd.Step.hand (s : Nd) (d : UInt32) (t : Str) : s.Step (s.hand d t) 1 0 := by
  unfold Nd.hand
  split
  · exact (Nd.Step.zero rfl rfl rfl rfl).le (by omega) (by omega)
  · have h0 : s.Step { s with datas := s.datas + 1 } 0 0 := Nd.Step.zero rfl rfl rfl rfl
    have h1 := fun to p => h0.trans (Nd.Step.send { s with datas := s.datas + 1 } to p)
    exact ((h1 _ _).trans (Nd.Step.ls _ _)).le (Nat.le_refl _) (Nat.le_refl _)
theorem Nd.Step.handAll (s : Nd) (d : UInt32) (l : List Str) : s.Step (s.handAll d l) l.length 0 := by
  induction l using snocInd with
  | nil => exact Nd.Step.zero rfl rfl rfl rfl
  | snoc l t ih => rw [Nd.handAll_snoc]; exact (ih.trans (Nd.Step.hand _ _ _)).le (by simp) (by omega)
theorem Nd.Step.flush (s : Nd) (d : UInt32) : s.Step (s.flush d) (s.texts d).length 0 := by
  unfold Nd.flush
  simp only
  have h1 := Nd.Step.handAll s d (s.texts d)
  split
  · exact (h1.trans (Nd.Step.zero (t := Nd.stop ((s.handAll d (s.texts d)).unwait d) _) rfl rfl rfl rfl)).le (by omega) (by omega)
  · exact (h1.trans (Nd.Step.zero (t := (s.handAll d (s.texts d)).unwait d) rfl rfl rfl rfl)).le (by omega) (by omega)
theorem Nd.Step.drops (s : Nd) (n : Nat) (k : Int) : s.Step (s.drops n k) n 0 := ⟨rfl, rfl, rfl, by simp [Nd.drops], by simp [Nd.drops], by simp [Nd.drops], [], by simp, by simp [Nd.drops], by simp [Nd.drops, recsB]⟩
theorem Nd.Step.arm (s : Nd) (k : Int) (w : UInt64) : s.Step (s.arm k w) 0 0 := Nd.Step.zero rfl rfl rfl rfl
theorem Nd.Step.ask1 (s : Nd) (x : Sr) : s.Step (s.ask1 x) 1 (1 + (listT s.ls).length) := by
  unfold Nd.ask1
  simp only
  have h0 : s.Step { s with seq := growS s.seq } 0 0 := Nd.Step.zero rfl rfl rfl rfl
  have h1 := h0.trans (Nd.Step.note _)
  generalize Nd.note { s with seq := growS s.seq } = t at *
  have h2 : t.Step { t with ids := t.ids + 1, sent := trimS (t.sent ++ [t.now]) } 0 0 := Nd.Step.zero rfl rfl rfl rfl
  have h3 := h1.trans h2
  generalize ({ t with ids := t.ids + 1, sent := trimS (t.sent ++ [t.now]) } : Nd) = u at *
  exact ((h3.trans (Nd.Step.send u _ _)).trans (Nd.Step.remember _ _)).le (by omega) (by simp only; omega)
theorem Nd.Step.ask (s : Nd) (k : Nat) (x : Sr) : s.Step (s.ask k x) 1 (1 + (listT s.ls).length) := by
  unfold Nd.ask
  have h0 : ∀ b, s.Step (s.setOut k b) 0 0 := fun _ => Nd.Step.zero rfl rfl rfl rfl
  split
  · exact ((h0 _).trans ((Nd.Step.drop _ _).trans (Nd.Step.arm _ _ _))).le (by omega) (by omega)
  · split
    · exact ((h0 _).trans ((Nd.Step.drop _ _).trans (Nd.Step.arm _ _ _))).le (by omega) (by omega)
    · exact ((h0 _).trans ((Nd.Step.ask1 _ _).trans (Nd.Step.arm _ _ _))).le (by omega) (by simp only [Nd.setOut]; omega)
theorem Nd.Step.again (s : Nd) (k : Nat) (x : Sr) : s.Step (s.again k x) ((s.texts x.dest).length + 1) (1 + (listT s.ls).length) := by
  unfold Nd.again
  split
  · exact (Nd.Step.flush _ _).le (by omega) (by omega)
  · split
    · split
      · rename_i y _
        have h0 : s.Step { s with srs := s.srs.set k y } 0 0 := Nd.Step.zero rfl rfl rfl rfl
        exact (h0.trans (Nd.Step.ask _ _ _)).le (by omega) (by simp only; omega)
      · exact ((Nd.Step.drops s (s.texts x.dest).length 5).trans (Nd.Step.zero (t := ((s.drops (s.texts x.dest).length 5).unwait x.dest).stop k) rfl rfl rfl rfl)).le (by omega) (by omega)
    · exact (Nd.Step.ask _ _ _).le (by omega) (by omega)
theorem Nd.Step.answer (s : Nd) (p : Pk) : s.Step (s.answer p) 1 0 := by
  unfold Nd.answer
  split
  · exact Nd.Step.send _ _ _
  · exact Nd.Step.drop _ _
theorem Nd.Step.req3 (s : Nd) (p : Pk) : s.Step (s.req3 p) 1 0 := by
  unfold Nd.req3
  split
  · exact Nd.Step.drop _ _
  · split <;> exact Nd.Step.send _ _ _
theorem Nd.Step.req2 (s : Nd) (p : Pk) : s.Step (s.req2 p) 1 0 := by
  unfold Nd.req2
  split
  · have h0 : ∀ q, s.Step { s with seq := q } 0 0 := fun _ => Nd.Step.zero rfl rfl rfl rfl
    exact ((h0 _).trans (Nd.Step.answer _ _)).le (by omega) (by omega)
  · split
    · split
      · exact ((Nd.Step.ls _ _).trans (Nd.Step.answer _ _)).le (by omega) (by omega)
      · exact Nd.Step.req3 _ _
    · exact Nd.Step.req3 _ _
theorem Nd.Step.req (s : Nd) (src : UInt32) (p : Pk) : s.Step (s.req src p) 1 0 := by
  unfold Nd.req
  split
  · exact Nd.Step.drop _ _
  · simp only
    split
    · exact ((Nd.Step.remember s _).trans ((Nd.Step.ls _ _).trans (Nd.Step.drop _ _))).le (by omega) (by omega)
    · exact ((Nd.Step.remember s _).trans ((Nd.Step.ls _ _).trans (Nd.Step.req2 _ _))).le (by omega) (by omega)
theorem Nd.Step.lost (s : Nd) (l : List (UInt32 × UInt32)) : s.Step (s.lost l) 1 0 := by
  unfold Nd.lost
  split
  · exact Nd.Step.send _ _ _
  · exact (Nd.Step.zero rfl rfl rfl rfl).le (by omega) (by omega)
theorem Nd.Step.los (s : Nd) (src : UInt32) (p : Pk) : s.Step (s.los src p) 2 0 := by
  unfold Nd.los
  simp only
  split
  · exact ((Nd.Step.ls _ _).trans (Nd.Step.lost _ _)).le (by omega) (by omega)
  · exact ((Nd.Step.ls _ _).trans ((Nd.Step.lost _ _).trans (Nd.Step.drop _ _))).le (by omega) (by omega)
theorem Nd.Step.tell (s : Nd) (a b c : UInt32) : s.Step (s.tell a b c) 1 0 := Nd.Step.send _ _ _
theorem Nd.Step.dat (s : Nd) (src : UInt32) (p : Pk) : s.Step (s.dat src p) 2 0 := by
  unfold Nd.dat
  split
  · exact (Nd.Step.came_ _ _).le (by omega) (by omega)
  · split
    · exact (Nd.Step.drop _ _).le (by omega) (by omega)
    · split
      · exact ((Nd.Step.drop _ _).trans ((Nd.Step.ls _ _).trans (Nd.Step.tell _ _ _ _))).le (by omega) (by omega)
      · exact ((Nd.Step.send _ _ _).trans (Nd.Step.ls _ _)).le (by omega) (by omega)
theorem Nd.Step.brk (s : Nd) (nb : UInt32) : s.Step (s.brk nb) 1 0 := ((Nd.Step.ls _ _).trans (Nd.Step.lost _ _)).le (by omega) (by omega)
theorem Nd.texts_ls (s : Nd) (l : List Ln) (d : UInt32) : Nd.texts { s with ls := l } d = s.texts d := rfl
theorem Nd.Step.rep (s : Nd) (src : UInt32) (p : Pk) : s.Step (s.rep src p) ((s.texts p.dest).length + 1) 0 := by
  unfold Nd.rep
  split
  · exact (Nd.Step.drop _ _).le (by omega) (by omega)
  · simp only
    split
    · exact ((Nd.Step.ls _ _).trans (Nd.Step.drop _ _)).le (by omega) (by omega)
    · split
      · have h1 : ∀ l : List Ln, s.Step (if (lookT l p.dest s.now).isSome then Nd.flush { s with ls := l } p.dest else { s with ls := l }) (s.texts p.dest).length 0 := fun l => by
          split
          · exact ((Nd.Step.ls s l).trans (Nd.Step.flush _ _)).le (by rw [Nd.texts_ls]; omega) (by omega)
          · exact (Nd.Step.ls s l).le (by omega) (by omega)
        split
        · exact ((h1 _).trans (Nd.Step.drop _ _)).le (by omega) (by omega)
        · exact (h1 _).le (by omega) (by omega)
      · split
        · split <;> exact ((Nd.Step.ls _ _).trans (Nd.Step.drop _ _)).le (by omega) (by omega)
        · split
          · exact ((Nd.Step.ls _ _).trans (Nd.Step.drop _ _)).le (by omega) (by omega)
          · exact ((Nd.Step.ls _ _).trans ((Nd.Step.send _ _ _).trans (Nd.Step.ls _ _))).le (by omega) (by omega)
theorem Nd.Step.handle (s : Nd) (src : UInt32) (p : Pk) : s.Step (s.handle src p) ((s.texts p.dest).length + 2) 0 := by
  unfold Nd.handle
  repeat' split
  · exact (Nd.Step.req _ _ _).le (by omega) (by omega)
  · exact (Nd.Step.rep _ _ _).le (by omega) (by omega)
  · exact (Nd.Step.los _ _ _).le (by omega) (by omega)
  · exact (Nd.Step.dat _ _ _).le (by omega) (by omega)
end

section
structure LnsOk (me : UInt32) (ls : List Ln) : Prop where
  tab : TabOk ls
  line : ∀ l ∈ ls, l.dest ≠ me ∧ (l.valid = false → l.before = [])
theorem mem_lmod {ls : List Ln} {d : UInt32} {f : Ln → Ln} {x : Ln} (h : x ∈ lmod ls d f) : x ∈ ls ∨ ∃ l ∈ ls, x = f l := by
  cases hf : lfind ls d with
  | none => rw [lmod, hf] at h; exact .inl h
  | some i =>
    obtain ⟨l, hl, _⟩ := lfind_some hf
    rw [lmod_some hf hl] at h
    rcases List.mem_or_eq_of_mem_set h with h | rfl
    · exact .inl h
    · exact .inr ⟨l, List.mem_of_getElem? hl, rfl⟩
theorem dests_set {ls : List Ln} {i : Nat} {l x : Ln} (hl : ls[i]? = some l) (hd : x.dest = l.dest) : dests (ls.set i x) = dests ls := by
  obtain ⟨hlt, he⟩ := List.getElem?_eq_some_iff.1 hl
  unfold dests
  rw [List.map_set, hd, ← he]
  apply List.ext_getElem?
  intro k
  rw [List.getElem?_set]
  split
  · rename_i hk; subst hk; simp [hlt]
  · rfl
theorem dests_lmod {ls : List Ln} {d : UInt32} {f : Ln → Ln} (hd : ∀ l ∈ ls, (f l).dest = l.dest) : dests (lmod ls d f) = dests ls := by
  cases hf : lfind ls d with
  | none => rw [lmod, hf]
  | some i =>
    obtain ⟨l, hl, _⟩ := lfind_some hf
    rw [lmod_some hf hl]
    exact dests_set hl (hd l (List.mem_of_getElem? hl))
theorem dests_use (ls : List Ln) (d : UInt32) (e : UInt64) : dests (useT ls d e) = dests ls := dests_lmod fun l _ => by split <;> rfl
theorem dests_bef (ls : List Ln) (d nb : UInt32) : dests (befT ls d nb) = dests ls := dests_lmod fun l _ => by split <;> rfl
theorem dests_bump (ls : List Ln) (d : UInt32) : dests (bumpT ls d) = dests ls := dests_lmod fun l _ => rfl
theorem dests_lose (ls : List Ln) (a d s : UInt32) : dests (loseT ls a d s) = dests ls := dests_lmod fun l _ => by split <;> rfl
theorem dests_map {ls : List Ln} {f : Ln → Ln} (hd : ∀ l ∈ ls, (f l).dest = l.dest) : dests (ls.map f) = dests ls := by
  unfold dests
  rw [List.map_map]
  exact List.map_congr_left hd
theorem dests_exp (now : UInt64) (ls : List Ln) : dests (expT now ls) = dests ls := dests_map fun l _ => by unfold Ln.exp; split <;> rfl
theorem dests_brk (nb : UInt32) (ls : List Ln) : dests (brkT nb ls) = dests ls := dests_map fun l _ => by unfold Ln.brk; split <;> rfl
theorem dests_put (ls : List Ln) (x : Ln) : ∀ d ∈ dests ls, d ∈ dests (putT ls x) := by
  intro d hd
  unfold putT
  cases hf : lfind ls x.dest with
  | some i =>
    obtain ⟨l, hl, he⟩ := lfind_some hf
    rw [dests_set hl he.symm]; exact hd
  | none => simp only [dests, List.map_append] at hd ⊢; exact List.mem_append_left _ hd
theorem dests_upd (self : UInt32) (ls : List Ln) (x : Ln) : ∀ d ∈ dests ls, d ∈ dests (updT self ls x).2 := by
  intro d hd
  unfold updT
  repeat' split
  all_goals first | exact hd | exact dests_put _ _ d hd
section
variable {self : UInt32} {ls : List Ln}
theorem LnsOk.mod (h : LnsOk self ls) {d : UInt32} {f : Ln → Ln} (ht : TabOk (lmod ls d f)) (hd : ∀ l ∈ ls, (f l).dest = l.dest) (hv : ∀ l ∈ ls, (l.valid = false → l.before = []) → (f l).valid = false → (f l).before = []) : LnsOk self (lmod ls d f) := ⟨ht, fun x hx => by
  rcases mem_lmod hx with hx | ⟨l, hl, rfl⟩
  · exact h.line x hx
  · exact ⟨by rw [hd l hl]; exact (h.line l hl).1, hv l hl (h.line l hl).2⟩⟩
theorem LnsOk.use (h : LnsOk self ls) (d : UInt32) (e : UInt64) : LnsOk self (useT ls d e) := h.mod (h.tab.use d e) (fun l _ => by split <;> rfl) (fun l _ k => by split <;> simp_all)
theorem LnsOk.bef (h : LnsOk self ls) (d nb : UInt32) : LnsOk self (befT ls d nb) := h.mod (h.tab.bef d nb) (fun l _ => by split <;> rfl) (fun l _ k => by split <;> simp_all)
theorem LnsOk.bump (h : LnsOk self ls) (d : UInt32) : LnsOk self (bumpT ls d) := h.mod (h.tab.bump d) (fun l _ => rfl) (fun l _ k => k)
theorem LnsOk.lose (h : LnsOk self ls) (a d s : UInt32) : LnsOk self (loseT ls a d s) := h.mod (h.tab.lose a d s) (fun l _ => by split <;> rfl) (fun l _ k => by split <;> simp_all [Ln.ended])
theorem LnsOk.map {f : Ln → Ln} (h : LnsOk self ls) (ht : TabOk (ls.map f)) (hd : ∀ l ∈ ls, (f l).dest = l.dest) (hv : ∀ l ∈ ls, (l.valid = false → l.before = []) → (f l).valid = false → (f l).before = []) : LnsOk self (ls.map f) := ⟨ht, fun x hx => by
  obtain ⟨l, hl, rfl⟩ := List.mem_map.1 hx
  exact ⟨by rw [hd l hl]; exact (h.line l hl).1, hv l hl (h.line l hl).2⟩⟩
theorem LnsOk.exp (h : LnsOk self ls) (now : UInt64) : LnsOk self (expT now ls) := h.map (h.tab.exp now) (fun l _ => by unfold Ln.exp; split <;> rfl) (fun l _ k => by unfold Ln.exp; split <;> simp_all [Ln.ended])
theorem LnsOk.brk (h : LnsOk self ls) (nb : UInt32) : LnsOk self (brkT nb ls) := h.map (h.tab.brk nb) (fun l _ => by unfold Ln.brk; split <;> rfl) (fun l _ k => by unfold Ln.brk; split <;> simp_all [Ln.ended])
theorem LnsOk.put (h : LnsOk self ls) {x : Ln} (ht : TabOk (putT ls x)) (hx : x.dest ≠ self) (hb : x.valid = false → x.before = []) : LnsOk self (putT ls x) := ⟨ht, fun y hy => by
  unfold putT at hy
  split at hy
  · rcases List.mem_or_eq_of_mem_set hy with hy | rfl
    · exact h.line y hy
    · exact ⟨hx, hb⟩
  · rcases List.mem_append.1 hy with hy | hy
    · exact h.line y hy
    · simp at hy; subst hy; exact ⟨hx, hb⟩⟩
theorem LnsOk.upd (h : LnsOk self ls) (x : Ln) (h1 : 0 ≤ x.hops ∧ x.hops ≤ 1000) : LnsOk self (updT self ls x).2 := by
  have ht := h.tab.upd self x h1
  unfold updT at ht ⊢
  split
  · exact h
  · rename_i hc
    rw [if_neg hc] at ht
    cases hg : lget ls x.dest with
    | some l =>
      simp only [hg] at ht ⊢
      split
      · exact h
      · rename_i h2
        rw [if_neg h2] at ht
        exact h.put ht (fun e => hc (.inl e)) (fun e => by cases e)
    | none =>
      simp only [hg] at ht ⊢
      split
      · exact h
      · rename_i h2
        rw [if_neg h2] at ht
        exact h.put ht (fun e => hc (.inl e)) (fun e => by cases e)
theorem LnsOk.loseAll (h : LnsOk self ls) (src : UInt32) (l : List (UInt32 × UInt32)) : LnsOk self (loseAll src ls l).1 ∧ dests (Go.Proofs.YtapoehkdnglahabGreat.loseAll src ls l).1 = dests ls := by
  induction l using snocInd with
  | nil => exact ⟨h, rfl⟩
  | snoc l x ih =>
    rw [loseAll_snoc]
    exact ⟨ih.1.lose _ _ _, by show dests (loseT _ _ _ _) = _; rw [dests_lose, ih.2]⟩
theorem LnsOk.nil : LnsOk self [] := ⟨TabOk.nil, fun l h => by cases h⟩
theorem LnsOk.new (self : UInt32) (c : List Rec) : LnsOk self (newT self c) := by
  induction c using snocInd with
  | nil => exact LnsOk.nil
  | snoc c r ih =>
    have ht := TabOk.new self (c ++ [r])
    rw [newT_snoc] at ht ⊢
    unfold newStep at ht ⊢
    split
    · rename_i hc
      rw [if_pos hc] at ht
      exact ih.put ht (by simp only [Rec.ln]; exact hc.2.1) (fun _ => rfl)
    · exact ih
end
structure Nd.Inv (s : Nd) : Prop where
  tab : LnsOk s.self s.ls
  sr : SrOk s
  order : s.order.length ≤ 16
  wait : ∀ w ∈ s.wait, w.2.length ≤ 4 ∧ ∀ t ∈ w.2, t.length ≤ 16
  sent : s.sent.length ≤ 5
  recs : ∀ r ∈ s.recs, r.own = true ∨ r.addr ∈ dests s.ls
theorem Nd.Inv.to {s t : Nd} (h : s.Inv) (h1 : LnsOk t.self t.ls) (h2 : t.srs = s.srs) (h3 : t.names = s.names) (h4 : t.order.length ≤ 16) (h5 : t.wait = s.wait) (h6 : t.sent.length ≤ 5) (h7 : t.recs = s.recs) (h8 : ∀ d ∈ dests s.ls, d ∈ dests t.ls) : t.Inv :=
  ⟨h1, ⟨by rw [h2]; exact h.sr.dests, by rw [h2]; exact h.sr.names, by rw [h2, h3]; exact h.sr.each⟩, h4, by rw [h5]; exact h.wait, h6, fun r hr => by rw [h7] at hr; rcases h.recs r hr with h | h; exact .inl h; exact .inr (h8 _ h)⟩
theorem Nd.Inv.out {s : Nd} (h : s.Inv) (o : OutD) : Nd.Inv { s with out := o } := h.to h.tab rfl rfl h.order rfl h.sent rfl (fun _ h => h)
theorem Nd.Inv.ls {s : Nd} (h : s.Inv) {l : List Ln} (h1 : LnsOk s.self l) (h2 : ∀ d ∈ dests s.ls, d ∈ dests l) : Nd.Inv { s with ls := l } := h.to h1 rfl rfl h.order rfl h.sent rfl h2
theorem Nd.Inv.send {s : Nd} (h : s.Inv) (to : UInt32) (p : Pk) : (s.send to p).Inv := h.out _
theorem Nd.Inv.drop {s : Nd} (h : s.Inv) (r : Int) : (s.drop r).Inv := h.out _
theorem Nd.Inv.write {s : Nd} (h : s.Inv) (r : Rec) (hr : r.own = true ∨ r.addr ∈ dests s.ls) : (s.write r).Inv := ⟨h.tab, ⟨h.sr.dests, h.sr.names, h.sr.each⟩, h.order, h.wait, h.sent, fun x hx => by
  rcases List.mem_append.1 hx with hx | hx
  · exact h.recs x hx
  · simp at hx; subst hx; exact hr⟩
theorem Nd.Inv.noteL {s : Nd} (h : s.Inv) (l : Ln) (hl : l.dest ∈ dests s.ls) : (s.noteL l).Inv := by
  unfold Nd.noteL
  repeat' split
  all_goals first | exact h.write _ (.inr hl) | exact h
theorem Nd.Inv.noteLs (L : List Ln) : ∀ {s : Nd}, s.Inv → (∀ l ∈ L, l.dest ∈ dests s.ls) → (L.foldl Nd.noteL s).Inv := by
  induction L with
  | nil => intro s h _; exact h
  | cons l L ih => intro s h hl; exact ih (h.noteL l (hl l (by simp))) (fun x hx => by rw [Nd.noteL_ls]; exact hl x (by simp [hx]))
theorem Nd.Inv.noteO {s : Nd} (h : s.Inv) : s.noteO.Inv := by
  unfold Nd.noteO
  split
  · exact h.write _ (.inl rfl)
  · exact h
theorem listT_mem' {ls : List Ln} {l : Ln} (h : l ∈ listT ls) : l ∈ ls := by
  unfold listT at h
  obtain ⟨d, _, hd⟩ := List.mem_filterMap.1 h
  unfold lget at hd
  cases hf : lfind ls d with
  | none => rw [hf] at hd; cases hd
  | some i => rw [hf] at hd; exact List.mem_of_getElem? hd
theorem Nd.Inv.note {s : Nd} (h : s.Inv) : s.note.Inv := Nd.Inv.noteLs _ h.noteO fun l hl => by
  rw [Nd.noteO_ls]
  exact List.mem_map_of_mem (listT_mem' hl)
theorem Nd.Inv.remember {s : Nd} (h : s.Inv) (r : Rq) : (s.remember r).Inv := by
  have hl := remAll_length s.now s.seen s.order
  have ho := h.order
  unfold Nd.remember
  dsimp only
  split
  · rename_i h1
    exact h.to h.tab rfl rfl h1 rfl h.sent rfl (fun _ h => h)
  · refine h.to h.tab rfl rfl ?_ rfl h.sent rfl (fun _ h => h)
    rename_i h1
    generalize hq : firstOf _ _ _ = i
    have hi : i < ((remAll s.now s.seen s.order).2 ++ [r]).length := by rw [← hq]; exact firstOf_lt _ _ _ (Nat.le_refl _) (by simp)
    simp only [List.length_append, List.length_cons, List.length_nil, List.length_take, List.length_drop] at *
    omega
theorem Nd.Inv.hand {s : Nd} (h : s.Inv) (d : UInt32) (t : Str) : (s.hand d t).Inv := by
  unfold Nd.hand
  split
  · exact h
  · exact h.to (h.tab.use _ _) rfl rfl h.order rfl h.sent rfl (fun x hx => by rw [dests_use]; exact hx)
theorem Nd.Inv.handAll {s : Nd} (h : s.Inv) (d : UInt32) (l : List Str) : (s.handAll d l).Inv := by
  induction l using snocInd with
  | nil => exact h
  | snoc l t ih => rw [Nd.handAll_snoc]; exact ih.hand _ _
theorem Nd.Inv.unwait {s : Nd} (h : s.Inv) (d : UInt32) : (s.unwait d).Inv := ⟨h.tab, ⟨h.sr.dests, h.sr.names, h.sr.each⟩, h.order, fun w hw => h.wait w ((mdel_sublist s.wait d).subset hw), h.sent, h.recs⟩
theorem Nd.Inv.stop {s : Nd} (h : s.Inv) (k : Nat) : (s.stop k).Inv := ⟨h.tab, ⟨h.sr.dests.sublist ((List.eraseIdx_sublist _ _).map _), h.sr.names.sublist ((List.eraseIdx_sublist _ _).map _), fun x hx => h.sr.each x ((List.eraseIdx_sublist _ _).subset hx)⟩, h.order, h.wait, h.sent, h.recs⟩
theorem Nd.Inv.flush {s : Nd} (h : s.Inv) (d : UInt32) : (s.flush d).Inv := by
  unfold Nd.flush
  simp only
  split
  · exact ((h.handAll _ _).unwait _).stop _
  · exact (h.handAll _ _).unwait _
theorem Nd.Inv.setSr {s : Nd} (h : s.Inv) {k : Nat} {x y : Sr} (hx : s.srs[k]? = some x) (h1 : y.dest = x.dest) (h2 : y.name = x.name) (h3 : 0 ≤ y.ttl ∧ y.ttl ≤ 8 ∧ 0 ≤ y.retries ∧ y.retries ≤ 2) : Nd.Inv { s with srs := s.srs.set k y } := by
  obtain ⟨hlt, he⟩ := List.getElem?_eq_some_iff.1 hx
  have e1 : (s.srs.set k y).map (·.dest) = s.srs.map (·.dest) := by
    rw [List.map_set, h1, ← he]
    apply List.ext_getElem?
    intro j; rw [List.getElem?_set]; split
    · rename_i e; subst e; simp [hlt]
    · rfl
  have e2 : (s.srs.set k y).map (·.name) = s.srs.map (·.name) := by
    rw [List.map_set, h2, ← he]
    apply List.ext_getElem?
    intro j; rw [List.getElem?_set]; split
    · rename_i e; subst e; simp [hlt]
    · rfl
  refine ⟨h.tab, ⟨by show ((s.srs.set k y).map _).Nodup; rw [e1]; exact h.sr.dests, by show ((s.srs.set k y).map _).Nodup; rw [e2]; exact h.sr.names, fun z hz => ?_⟩, h.order, h.wait, h.sent, h.recs⟩
  rcases List.mem_or_eq_of_mem_set hz with hz | rfl
  · exact h.sr.each z hz
  · have := (h.sr.each x (List.mem_of_getElem? hx)).2.2.2.2
    exact ⟨h3.1, h3.2.1, h3.2.2.1, h3.2.2.2, by rw [h2]; exact this⟩
theorem Nd.Inv.setOut {s : Nd} (h : s.Inv) {k : Nat} {x : Sr} (hx : s.srs[k]? = some x) (b : Bool) : (s.setOut k b).Inv := by
  unfold Nd.setOut
  rw [modify_set hx]
  have := h.sr.each x (List.mem_of_getElem? hx)
  exact h.setSr hx rfl rfl ⟨this.1, this.2.1, this.2.2.1, this.2.2.2.1⟩
theorem Nd.Inv.arm {s : Nd} (h : s.Inv) (k : Int) (w : UInt64) : (s.arm k w).Inv := h.to h.tab rfl rfl h.order rfl h.sent rfl (fun _ h => h)
theorem trimS_length (l : List UInt64) (h : l.length ≤ 6) : (trimS l).length ≤ 5 := by
  unfold trimS
  split
  · simp; omega
  · omega
theorem Nd.Inv.ask1 {s : Nd} (h : s.Inv) (x : Sr) : (s.ask1 x).Inv := by
  unfold Nd.ask1
  simp only
  have h0 : Nd.Inv { s with seq := growS s.seq } := h.to h.tab rfl rfl h.order rfl h.sent rfl (fun _ h => h)
  have h1 := h0.note
  generalize Nd.note { s with seq := growS s.seq } = t at *
  have h2 : Nd.Inv { t with ids := t.ids + 1, sent := trimS (t.sent ++ [t.now]) } := h1.to h1.tab rfl rfl h1.order rfl (trimS_length _ (by have := h1.sent; simp; omega)) rfl (fun _ h => h)
  generalize ({ t with ids := t.ids + 1, sent := trimS (t.sent ++ [t.now]) } : Nd) = u at *
  exact (h2.send _ _).remember _
theorem Nd.Inv.ask {s : Nd} (h : s.Inv) {k : Nat} {x : Sr} (hx : s.srs[k]? = some x) : (s.ask k x).Inv := by
  unfold Nd.ask
  split
  · exact ((h.setOut hx _).drop _).arm _ _
  · split
    · exact ((h.setOut hx _).drop _).arm _ _
    · exact ((h.setOut hx _).ask1 _).arm _ _
theorem Sr.further_ok {x y : Sr} (h : x.further = some y) (hx : 0 ≤ x.ttl ∧ x.ttl ≤ 8 ∧ 0 ≤ x.retries ∧ x.retries ≤ 2) : y.dest = x.dest ∧ y.name = x.name ∧ y.out = x.out ∧ 0 ≤ y.ttl ∧ y.ttl ≤ 8 ∧ 0 ≤ y.retries ∧ y.retries ≤ 2 := by
  unfold Sr.further at h
  split at h
  · cases h; simp only; exact ⟨trivial, trivial, trivial, by omega, by omega, by omega, by omega⟩
  · split at h
    · cases h; simp only; exact ⟨trivial, trivial, trivial, by omega, by omega, by omega, by omega⟩
    · split at h
      · cases h; simp only; exact ⟨trivial, trivial, trivial, by omega, by omega, by omega, by omega⟩
      · cases h
theorem Nd.Inv.drops {s : Nd} (h : s.Inv) (n : Nat) (k : Int) : (s.drops n k).Inv := h.out _
theorem Nd.Inv.again {s : Nd} (h : s.Inv) {k : Nat} {x : Sr} (hx : s.srs[k]? = some x) : (s.again k x).Inv := by
  have hx4 := h.sr.each x (List.mem_of_getElem? hx)
  unfold Nd.again
  split
  · exact h.flush _
  · split
    · split
      · rename_i y hy
        obtain ⟨f1, f2, _, f3⟩ := Sr.further_ok hy ⟨hx4.1, hx4.2.1, hx4.2.2.1, hx4.2.2.2.1⟩
        exact (h.setSr hx f1 f2 f3).ask (by show (s.srs.set k y)[k]? = some y; rw [List.getElem?_set]; simp [(List.getElem?_eq_some_iff.1 hx).1])
      · exact ((h.drops _ _).unwait _).stop _
    · exact h.ask hx
theorem Nd.Inv.answer {s : Nd} (h : s.Inv) (p : Pk) : (s.answer p).Inv := by
  unfold Nd.answer
  split
  · exact h.send _ _
  · exact h.drop _
theorem Nd.Inv.req3 {s : Nd} (h : s.Inv) (p : Pk) : (s.req3 p).Inv := by
  unfold Nd.req3
  split
  · exact h.drop _
  · split <;> exact h.send _ _
theorem Nd.Inv.req2 {s : Nd} (h : s.Inv) (p : Pk) : (s.req2 p).Inv := by
  unfold Nd.req2
  split
  · refine Nd.Inv.answer ?_ _
    exact h.to h.tab rfl rfl h.order rfl h.sent rfl (fun _ h => h)
  · split
    · split
      · refine Nd.Inv.answer (h.ls ?_ ?_) _
        · refine LnsOk.bef ?_ _ _
          split
          · exact h.tab.bef _ _
          · exact h.tab
        · intro d hd
          rw [dests_bef]
          split
          · rw [dests_bef]; exact hd
          · exact hd
      · exact h.req3 _
    · exact h.req3 _
theorem Nd.Inv.req {s : Nd} (h : s.Inv) (src : UInt32) (p : Pk) (hp : 0 ≤ p.hops ∧ p.hops ≤ 255) : (s.req src p).Inv := by
  unfold Nd.req
  split
  · exact h.drop _
  · simp only
    have h1 := h.remember ⟨p.from_, p.id⟩
    generalize s.remember ⟨p.from_, p.id⟩ = s1 at *
    have hu : LnsOk s1.self (s1.reqU src p).2 := h1.tab.upd _ (by simp only [Ln.learned, hop1]; omega)
    have hd := dests_upd s1.self s1.ls (Ln.learned p.from_ p.fromSeq (hop1 p) src s1.soon)
    split
    · exact (h1.ls hu hd).drop _
    · refine Nd.Inv.req2 (h1.ls ?_ ?_) _
      · split
        · exact hu.use _ _
        · exact hu
      · intro d hd1
        split
        · rw [dests_use]; exact hd d hd1
        · exact hd d hd1
theorem Nd.Inv.lost {s : Nd} (h : s.Inv) (l : List (UInt32 × UInt32)) : (s.lost l).Inv := by
  unfold Nd.lost
  split
  · exact h.send _ _
  · exact h
theorem Nd.Inv.los {s : Nd} (h : s.Inv) (src : UInt32) (p : Pk) : (s.los src p).Inv := by
  unfold Nd.los
  obtain ⟨h1, h2⟩ := h.tab.loseAll src p.lost
  have h3 := (h.ls h1 (fun d hd => by rw [h2]; exact hd)).lost (loseAll src s.ls p.lost).2.1
  simp only
  split
  · exact h3
  · exact h3.drop _
theorem Nd.Inv.dat {s : Nd} (h : s.Inv) (src : UInt32) (p : Pk) : (s.dat src p).Inv := by
  unfold Nd.dat
  split
  · exact h.out _
  · split
    · exact h.drop _
    · split
      · exact ((h.drop 3).ls (h.tab.bump _) (fun d hd => by rw [dests_bump]; exact hd)).send _ _
      · exact (h.send _ _).ls ((h.tab.use _ _).use _ _) (fun d hd => by rw [dests_use, dests_use]; exact hd)
theorem Nd.Inv.brk {s : Nd} (h : s.Inv) (nb : UInt32) : (s.brk nb).Inv := (h.ls (h.tab.brk _) (fun d hd => by rw [dests_brk]; exact hd)).lost _
theorem Nd.Inv.rep {s : Nd} (h : s.Inv) (src : UInt32) (p : Pk) (hp : 0 ≤ p.hops ∧ p.hops ≤ 255) : (s.rep src p).Inv := by
  unfold Nd.rep
  split
  · exact h.drop _
  · simp only
    have hu : LnsOk s.self (updT s.self s.ls (Ln.learned p.dest p.destSeq (hop1 p) src (s.now + p.life.toUInt64))).2 := h.tab.upd _ (by simp only [Ln.learned, hop1]; omega)
    have hd := dests_upd s.self s.ls (Ln.learned p.dest p.destSeq (hop1 p) src (s.now + p.life.toUInt64))
    have h1 := h.ls hu hd
    generalize updT s.self s.ls (Ln.learned p.dest p.destSeq (hop1 p) src (s.now + p.life.toUInt64)) = u at *
    split
    · exact h1.drop _
    · split
      · have h2 : Nd.Inv (if (lookT u.2 p.dest s.now).isSome then Nd.flush { s with ls := u.2 } p.dest else { s with ls := u.2 }) := by
          split
          · exact h1.flush _
          · exact h1
        split
        · exact h2.drop _
        · exact h2
      · split
        · split <;> exact h1.drop _
        · split
          · exact h1.drop _
          · exact (h1.send _ _).ls (((hu.bef _ _).bef _ _).use _ _) (fun d hd => by rw [dests_use, dests_bef, dests_bef]; exact hd)
theorem Nd.Inv.handle {s : Nd} (h : s.Inv) (src : UInt32) (p : Pk) (hp : 0 ≤ p.hops ∧ p.hops ≤ 255) : (s.handle src p).Inv := by
  unfold Nd.handle
  repeat' split
  · exact h.req _ _ hp
  · exact h.rep _ _ hp
  · exact h.los _ _
  · exact h.dat _ _
theorem Nd.Inv.rcvQ {s : Nd} (h : s.Inv) (now : UInt64) (src : UInt32) (f : Str) : (s.rcvQ now src f).Inv := by
  unfold Nd.rcvQ
  split
  · exact h.drop _
  · split
    · exact h.drop _
    · split
      · refine Nd.Inv.drop ?_ _
        exact h.to h.tab rfl rfl h.order rfl h.sent rfl (fun _ h => h)
      · exact h.drop _
theorem Nd.Inv.newSr {s : Nd} (h : s.Inv) (d : UInt32) (hd : srFind s.srs d = none) (h0 : 0 ≤ s.names) : (s.newSr d).Inv := by
  rw [srFind_k] at hd
  have h1 := kfind_none.1 hd
  refine ⟨h.tab, ⟨?_, ?_, ?_⟩, h.order, h.wait, h.sent, h.recs⟩
  · show ((s.srs ++ [_]).map _).Nodup
    rw [List.map_append]
    exact List.nodup_append.2 ⟨h.sr.dests, by simp, fun a ha b hb => by simp at hb; subst hb; obtain ⟨x, hx, rfl⟩ := List.mem_map.1 ha; exact h1 x hx⟩
  · show ((s.srs ++ [_]).map _).Nodup
    rw [List.map_append]
    exact List.nodup_append.2 ⟨h.sr.names, by simp, fun a ha b hb => by simp at hb; subst hb; obtain ⟨x, hx, rfl⟩ := List.mem_map.1 ha; have := (h.sr.each x hx).2.2.2.2; omega⟩
  · intro x hx
    show _ ∧ _ ∧ _ ∧ _ ∧ x.name ≤ s.names + 1
    rcases List.mem_append.1 hx with hx | hx
    · have := h.sr.each x hx; omega
    · simp at hx; subst hx; simp
end

end Go.Proofs.YtapoehkdnglahabGreat

