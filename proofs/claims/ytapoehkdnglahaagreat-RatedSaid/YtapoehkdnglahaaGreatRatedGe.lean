/- RouK NodD NodI DecW DecK DecK2 DecK3 DecA NodR NodW NodL Sub4 Sub5 KeyQ NodX NodQ NodB NodH NodA NodY, joined. -/
import Derived.Test.YtapoehkdnglahaaGreatRatedGd
/- What a table keeps: in plain Lean. -/
namespace Go.Proofs.YtapoehkdnglahaaGreat
open Go.RowKit
set_option linter.unusedVariables false
set_option linter.unusedSectionVars false
set_option linter.unusedSimpArgs false
/-- A line is changed, its destination is not. -/
theorem TabOk.set {ls : List Ln} (h : TabOk ls) {i : Nat} {l x : Ln} (hl : ls[i]? = some l) (hd : x.dest = l.dest) (h1 : 0 ≤ x.hops ∧ x.hops ≤ 1000) (h2 : x.before.length ≤ 4) : TabOk (ls.set i x) := by
  obtain ⟨hlt, he⟩ := List.getElem?_eq_some_iff.1 hl
  have e : dests (ls.set i x) = dests ls := by
    unfold dests
    rw [List.map_set, hd, ← he]
    apply List.ext_getElem?
    intro k
    rw [List.getElem?_set]
    split
    · rename_i hk; subst hk; simp [hlt]
    · rfl
  refine ⟨by rw [e]; exact h.nodup, by simp; exact h.short, fun y hy => ?_, fun y hy => ?_⟩
  · rcases List.mem_or_eq_of_mem_set hy with hy | rfl
    · exact h.hops y hy
    · exact h1
  · rcases List.mem_or_eq_of_mem_set hy with hy | rfl
    · exact h.before y hy
    · exact h2
theorem TabOk.mod {ls : List Ln} (h : TabOk ls) (d : UInt32) (f : Ln → Ln) (hd : ∀ l ∈ ls, (f l).dest = l.dest) (h1 : ∀ l ∈ ls, 0 ≤ (f l).hops ∧ (f l).hops ≤ 1000) (h2 : ∀ l ∈ ls, (f l).before.length ≤ 4) : TabOk (lmod ls d f) := by
  cases hf : lfind ls d with
  | none => rw [lmod, hf]; exact h
  | some i =>
    obtain ⟨l, hl, _⟩ := lfind_some hf
    rw [lmod_some hf hl]
    have hm := List.mem_of_getElem? hl
    exact h.set hl (hd l hm) (h1 l hm) (h2 l hm)
theorem TabOk.map {ls : List Ln} (h : TabOk ls) (f : Ln → Ln) (hd : ∀ l ∈ ls, (f l).dest = l.dest) (h1 : ∀ l ∈ ls, 0 ≤ (f l).hops ∧ (f l).hops ≤ 1000) (h2 : ∀ l ∈ ls, (f l).before.length ≤ 4) : TabOk (ls.map f) := by
  have e : dests (ls.map f) = dests ls := by
    unfold dests
    rw [List.map_map]
    exact List.map_congr_left hd
  refine ⟨by rw [e]; exact h.nodup, by simp; exact h.short, fun y hy => ?_, fun y hy => ?_⟩
  all_goals
    obtain ⟨l, hl, rfl⟩ := List.mem_map.1 hy
    first | exact h1 l hl | exact h2 l hl
theorem TabOk.exp {ls : List Ln} (h : TabOk ls) (now : UInt64) : TabOk (expT now ls) := by
  refine h.map _ (fun l hl => ?_) (fun l hl => ?_) (fun l hl => ?_)
  all_goals
    have h1 := h.hops l hl
    have h2 := h.before l hl
    unfold Ln.exp
    split <;> simp_all [Ln.ended]
theorem TabOk.brk {ls : List Ln} (h : TabOk ls) (nb : UInt32) : TabOk (brkT nb ls) := by
  refine h.map _ (fun l hl => ?_) (fun l hl => ?_) (fun l hl => ?_)
  all_goals
    have h1 := h.hops l hl
    have h2 := h.before l hl
    unfold Ln.brk
    split <;> simp_all [Ln.ended]
theorem TabOk.use {ls : List Ln} (h : TabOk ls) (d : UInt32) (e : UInt64) : TabOk (useT ls d e) := by
  refine h.mod _ _ (fun l hl => ?_) (fun l hl => ?_) (fun l hl => ?_)
  all_goals
    have h1 := h.hops l hl
    have h2 := h.before l hl
    split <;> simp_all
theorem TabOk.bump {ls : List Ln} (h : TabOk ls) (d : UInt32) : TabOk (bumpT ls d) := by
  refine h.mod _ _ (fun l hl => ?_) (fun l hl => ?_) (fun l hl => ?_)
  all_goals
    have h1 := h.hops l hl
    have h2 := h.before l hl
    simp_all
theorem TabOk.lose {ls : List Ln} (h : TabOk ls) (src d s : UInt32) : TabOk (loseT ls src d s) := by
  refine h.mod _ _ (fun l hl => ?_) (fun l hl => ?_) (fun l hl => ?_)
  all_goals
    have h1 := h.hops l hl
    have h2 := h.before l hl
    split <;> simp_all [Ln.ended]
theorem setB_length (bs : List UInt32) (n : UInt32) : (setB bs n).length ≤ bs.length + 1 := by
  unfold setB mset
  split <;> simp
theorem TabOk.bef {ls : List Ln} (h : TabOk ls) (d nb : UInt32) : TabOk (befT ls d nb) := by
  refine h.mod _ _ (fun l hl => ?_) (fun l hl => ?_) (fun l hl => ?_)
  all_goals
    have h1 := h.hops l hl
    have h2 := h.before l hl
    have h3 := setB_length l.before nb
    split <;> simp_all
  omega
theorem lfind_notin {d : UInt32} {ls : List Ln} (h : lfind ls d = none) : d ∉ dests ls := by
  intro hm
  obtain ⟨l, hl, e⟩ := List.mem_map.1 hm
  exact lfind_none.1 h l hl e
theorem TabOk.put {ls : List Ln} (h : TabOk ls) (x : Ln) (hs : lfind ls x.dest = none → ls.length < 8) (h1 : 0 ≤ x.hops ∧ x.hops ≤ 1000) (h2 : x.before.length ≤ 4) : TabOk (putT ls x) := by
  unfold putT
  cases hf : lfind ls x.dest with
  | some i =>
    obtain ⟨l, hl, hd⟩ := lfind_some hf
    exact h.set hl hd.symm h1 h2
  | none =>
    have hn := lfind_notin hf
    have hlt := hs hf
    refine ⟨?_, by simp; omega, fun y hy => ?_, fun y hy => ?_⟩
    · have e : dests (ls ++ [x]) = dests ls ++ [x.dest] := by simp [dests]
      rw [e]
      exact List.nodup_append.2 ⟨h.nodup, by simp, fun a ha b hb => by simp at hb; subst hb; exact fun e => hn (e ▸ ha)⟩
    all_goals
      rcases List.mem_append.1 hy with hy | hy
      · first | exact h.hops y hy | exact h.before y hy
      · simp at hy; subst hy; first | exact h1 | exact h2
theorem TabOk.upd {ls : List Ln} (h : TabOk ls) (self : UInt32) (x : Ln) (h1 : 0 ≤ x.hops ∧ x.hops ≤ 1000) : TabOk (updT self ls x).2 := by
  unfold updT
  split
  · exact h
  · cases hg : lget ls x.dest with
    | some l =>
      dsimp only
      split
      · exact h
      · refine h.put _ (fun hf => ?_) h1 (by simp)
        simp only at hf
        rw [lget_none hf] at hg
        cases hg
    | none =>
      dsimp only
      split
      · exact h
      · exact h.put _ (fun _ => by omega) h1 (by simp)
theorem TabOk.nil : TabOk [] := ⟨by simp [dests], by simp, by simp, by simp⟩
theorem TabOk.new (self : UInt32) (c : List Rec) : TabOk (newT self c) := by
  induction c using snocInd with
  | nil => exact TabOk.nil
  | snoc c r ih =>
    rw [newT_snoc]
    unfold newStep
    split
    · rename_i hc
      exact ih.put _ (fun _ => hc.2.2) (by simp [Rec.ln]) (by simp [Rec.ln])
    · exact ih
end Go.Proofs.YtapoehkdnglahaaGreat

/- What a node's does does: the frame of each call. -/
namespace Go.Proofs.YtapoehkdnglahaaGreat
open Go.RowKit
set_option linter.unusedVariables false
set_option linter.unusedSectionVars false
set_option linter.unusedSimpArgs false
section
variable {P : Program} {n : Frm} {w0 : World} {E : Env} {D : List Deferred} {H F : HProp} {ops : Array Oper} {l' : List Oper} {Q : Exit → St → Prop} {d : Option Tmp} {ty : TypeId} {pos : String} {after : Array Edge} {gu : Option (Tmp × Bool)}
theorem H_callVX {t : Tmp} {f : FuncId} {args caps : List Value} {α : Type} {X : HProp} {res : α → Value} {post : α → HProp} {xs : List Operand} {ts : Array TypeId} (hf : IsFun P f) (ht : E.get t = some (.func (.func f) #[] caps.toArray)) (hargs : E.evs xs = some args) (spec : Spec P w0 f (args ++ caps) X res post) (hl : Own H X F) :
    OpH P n w0 ⟨d, .call ⟨.value (.tmp t), xs.toArray, ts⟩, ty, pos, after, gu⟩ E H res (fun x => post x * F) := OpH.mk' (T_callV hf ht hargs spec) hl.eq
end
/-- A node between two calls; what its answer holds is not its own. -/
def nodI (g : Nat) (s : Nd) : HProp := hex fun p : NH × OutD => cel g 184 (nodC 0 s p.1 p.2) * (rows 48 3 Rec.cells p.1.vr s.recs * (mp u32 u32 p.1.rh s.held * (tabQ p.1.tb s.self s.ls * restP g s p.1)))
theorem WS_nodI {P : Program} {n : Frm} {w0 : World} {E : Env} {D : List Deferred} {F : HProp} {c : Code} {Q : Exit → St → Prop} {g : Nat} {s : Nd} (h : ∀ (h : NH) (o : OutD), WS P n w0 c Q ⟨E, D, (cel g 184 (nodC 0 s h o) * (rows 48 3 Rec.cells h.vr s.recs * (mp u32 u32 h.rh s.held * (tabQ h.tb s.self s.ls * restP g s h)))) * F⟩) : WS P n w0 c Q ⟨E, D, nodI g s * F⟩ := by
  unfold nodI
  exact WS_hex fun p => h p.1 p.2
theorem ent_nodI {g : Nat} {s : Nd} {H F : HProp} (h : NH) (o : OutD) (e : Ent H ((cel g 184 (nodC 0 s h o) * (rows 48 3 Rec.cells h.vr s.recs * (mp u32 u32 h.rh s.held * (tabQ h.tb s.self s.ls * restP g s h)))) * F)) : Ent H (nodI g s * F) := Ent.hexI (p := fun p : NH × OutD => cel g 184 (nodC 0 s p.1 p.2) * (rows 48 3 Rec.cells p.1.vr s.recs * (mp u32 u32 p.1.rh s.held * (tabQ p.1.tb s.self s.ls * restP g s p.1)))) (h, o) e
/-- An answer. -/
def outA (o : OutD) (v : Value × Value × Value) : Value := .agg #[strV o.journal, .bool o.replace, v.1, v.2.1, v.2.2]
def outR (o : OutD) (v : Value × Value × Value) : HProp := rows 80 2 txtC v.1 o.frames * (rows 301 2 txtC v.2.1 o.came * rows 238 1 intC v.2.2 o.dropped)
theorem Nd.noteL_recs (s : Nd) (l : Ln) : (s.noteL l).recs.length ≤ s.recs.length + 1 := by
  unfold Nd.noteL
  (repeat' split) <;> simp [Nd.write]
theorem Nd.noteO_recs (s : Nd) : s.noteO.recs.length ≤ s.recs.length + 1 := by
  unfold Nd.noteO
  split <;> simp [Nd.write]
theorem Nd.noteLs_recs (L : List Ln) : ∀ s : Nd, (L.foldl Nd.noteL s).recs.length ≤ s.recs.length + L.length := by
  induction L with
  | nil => intro s; simp
  | cons l L ih => intro s; have h1 := ih (s.noteL l); have h2 := s.noteL_recs l; simp only [List.foldl_cons, List.length_cons]; omega
theorem Nd.note_recs (s : Nd) (ok : TabOk s.ls) : s.note.recs.length ≤ s.recs.length + 9 := by
  have h1 := Nd.noteLs_recs (listT s.ls) s.noteO
  have h2 := s.noteO_recs
  have h3 := listT_length s.ls
  have h4 := ok.short
  unfold Nd.note
  omega
attribute [local irreducible] WS LS OpQ OpT OpH OpTQ Spec SpecQ cel
variable (w0 : World)
set_option maxRecDepth 100000 in
set_option maxHeartbeats 8000000 in
theorem does_spec {β : Type} (gn : Nat) (s s2 : Nd) (now : UInt64) (hr : s.recs.length ≤ 400000) (ok : TabOk s.ls) (hr2 : s2.recs.length ≤ 9000) (hj2 : s2.out.journal.length ≤ 800000) (ok2 : TabOk s2.ls) (fc : FuncId) (caps : List Value) (X : HProp) (Y : β → HProp) [hf : IsFun Tryz.prog fc]
    (hcl : Spec Tryz.prog w0 fc caps (nodA gn (s.begin now) * X) (fun _ : β => .tuple #[]) (fun y => nodA gn s2 * Y y)) :
    Spec Tryz.prog w0 132 [ptr gn 0, u64 now, .func (.func fc) #[] caps.toArray] (nodI gn s * X) (fun x : (Value × Value × Value) × β => outA s2.done.out x.1) (fun x => nodI gn s2.done * (outR s2.done.out x.1 * Y x.2)) := by
  refine Spec.enterM Tryz.func132 rfl Tryz.ntmps132 rfl fun G => ?_
  rw [star_assoc]
  refine WS_nodI fun h o => ?_
  simp only [argE, nodC]
  have p1 := lock_spec w0 gn 184 (nodC 0 s h o).tail
  have p2 := expire_spec w0 h.tb s.self s.ls ok now
  simp only [nodC, List.tail_cons] at p1
  repeat' (first | (refine WS_seqK ?_; intro K hK) | (refine hK _ ?_; clear hK K) | refine WS_region ?_ | refine LS_nil ?_ | ((refine' LQ ?zh rfl ?_); case zh => intro F'; first | exact Q_move rfl | exact Q_nilCheck rfl | exact Q_fieldAddr rfl iI rfl | exact Q_load rfl iI iI rfl | exact Q_build iI iI rfl rfl) | ((refine' LS_h0 ?zh ?_); (case zh => first | exact H_storeO rfl rfl iI iI iI rfl | exact H_storeAO rfl rfl iI iI iI rfl); intro g) | (refine LS_h (H_alloc iI) rfl ?_; intro go) | (refine LS_h (H_callX iI rfl p1 iI) rfl ?_; intro u1) | (refine LS_h (H_callX iI rfl p2 iI) rfl ?_; intro u2) | refine LS_defer rfl rfl rfl ?_)
  simp only [Env.putO]
  obtain ⟨h1, hh1⟩ : ∃ h1 : NH, h1 = { h with vf := .slice none 0 0, vc := .slice none 0 0, vd := .slice none 0 0 } := ⟨_, rfl⟩
  obtain ⟨s1, hs1⟩ : ∃ s1 : Nd, s1 = { s with now := now, out := OutD.zero, ls := expT now s.ls } := ⟨_, rfl⟩
  have eb : s.begin now = s1.note := by rw [hs1]; rfl
  have p3 := note_spec w0 1 gn s1 h1 (by rw [hs1]; unfold Nd.Room; simp only [OutD.zero, List.length_nil]; omega) (by rw [hs1]; exact ok.exp now)
  have er : restP gn s h = restP gn s1 h1 := by rw [hs1, hh1]; rfl
  refine LS_ent (Ent.nil _ 80 2 txtC none) ?_
  refine LS_ent (Ent.nil _ 301 2 txtC none) ?_
  refine LS_ent (Ent.nil _ 238 1 intC none) ?_
  refine LS_ent (H' := nodP gn s1 h1 * (cel go 67 [strV [], .bool false, .slice none 0 0, .slice none 0 0, .slice none 0 0] * (X * G))) (by rw [er]; rw [hs1, hh1]; simp only [nodP, nodPm, nodC, outH, OutD.zero]; ((try simp only [star_assoc, emp_star, star_emp]); (repeat' (first | exact Ent.last | refine Ent.take ?_ | refine Ent.nilT ?_ | refine Ent.takeR (by first | rfl | assumption | (simp; done)) ?_ | exact Ent.refl _)))) ?_
  clear er
  repeat' (first | (refine WS_seqK ?_; intro K hK) | (refine hK _ ?_; clear hK K) | refine WS_region ?_ | refine LS_nil ?_ | ((refine' LQ ?zh rfl ?_); case zh => intro F'; exact Q_move rfl) | (refine LS_h (H_callX iI rfl p3 iI) rfl ?_; intro v3))
  refine LS_ent (Ent.nod (g := gn) (s := s1.note) (F := X * (cel go 67 [strV [], .bool false, .slice none 0 0, .slice none 0 0, .slice none 0 0] * G)) { h1 with vr := v3 } (by ((try simp only [star_assoc, emp_star, star_emp]); (repeat' (first | exact Ent.last | refine Ent.take ?_ | refine Ent.nilT ?_ | refine Ent.takeR (by first | rfl | assumption | (simp; done)) ?_ | exact Ent.refl _))))) ?_
  rw [← eb]
  repeat' (first | (refine WS_seqK ?_; intro K hK) | (refine hK _ ?_; clear hK K) | refine WS_region ?_ | refine LS_nil ?_ | ((refine' LQ ?zh rfl ?_); case zh => intro F'; exact Q_move rfl) | (refine LS_h (H_callVX hf rfl rfl hcl iI) rfl ?_; intro y))
  rw [star_assoc]
  refine LS_nod fun h2 => ?_
  have p4 := note_spec w0 1 gn s2 h2 ⟨by omega, by omega⟩ ok2
  have hn2 := Nd.note_recs s2 ok2
  have hcl := compR_length s2.note.recs
  simp only [nodP, nodPm, outH] at p4 ⊢
  simp only [nodC] at p4 ⊢
  by_cases hm : 24 < s2.note.recs.length
  · have p5 := fun v => wcompact_spec w0 s2.note.recs (by omega) v (rows 48 3 Rec.cells v s2.note.recs)
    have p6 := fun v => wrecords_spec w0 (compR s2.note.recs) (by omega) v (rows 48 3 Rec.cells v (compR s2.note.recs))
    have hd : s2.done = { s2.note with recs := compR s2.note.recs, out := { s2.note.out with journal := recsB (compR s2.note.recs), replace := true } } := by unfold Nd.done; rw [if_pos hm]
    repeat' (first | (refine WS_seqK ?_; intro K hK) | (refine hK _ ?_; clear hK K) | refine WS_region ?_ | refine LS_nil ?_ | ((refine' LQ ?zh rfl ?_); case zh => intro F'; first | exact Q_move rfl | exact Q_nilCheck rfl | exact Q_fieldAddr rfl iI rfl | exact Q_load rfl iI iI rfl | exact Q_bin_t rfl rfl iI (by first | assumption | omega) | exact Q_loadA rfl iI iI rfl | exact Q_lenR rfl iI iI | exact Q_convS rfl iI rfl iI iI iI) | ((refine' LS_h0 ?zh ?_); (case zh => first | exact H_storeO rfl rfl iI iI iI rfl | exact H_storeAO rfl rfl iI iI iI rfl); intro g) | (first | refine WS_block ?_ | refine WS_skip ?_ | refine WS_ret ?_ | refine WS_exit ?_ | refine WS_label ?_) | (show WS _ _ _ (.cond _ _ _) _ _; first | refine WS_condT rfl iI ?_ | refine WS_condF rfl iI ?_ | refine WS_condH_t rfl (by assumption) ?_ | refine WS_condH_f rfl (by assumption) ?_ | (refine WS_cond rfl ?_ ?_ <;> intro hc <;> (try simp only [decide_eq_true_eq, decide_eq_false_iff_not, Bool.not_eq_eq_eq_not, Bool.not_true, Bool.not_false, Bool.and_eq_true, Bool.or_eq_true, bne_iff_ne, beq_iff_eq, ne_eq, Decidable.not_not] at hc) <;> (try (exfalso; first | contradiction | omega; done)))) | (refine LS_h (H_callX iI rfl p4 iI) rfl ?_; intro v4) | (refine LS_h (H_callX iI rfl (p5 _) iI) rfl ?_; intro vc) | (refine LS_h (H_callX iI rfl (p6 _) iI) rfl ?_; intro vb))
    refine out_r (lv_call (u := .returning) (caps := []) (args := [ptr gn 0]) (by simp) inferInstance ?_)
    refine unlock_D w0 iI rfl ?_
    refine lv_ret1 rfl (RV_cell rfl iI iI rfl) ⟨((h2.vf, h2.vc, h2.vd), y), by rw [hd]; rfl, ?_⟩
    rw [hd]
    unfold outR
    rw [star_assoc (nodI _ _)]
    refine ent_nodI { h2 with vr := vc } { s2.note.out with journal := recsB (compR s2.note.recs), replace := true } ?_
    have er : restP gn { s2.note with recs := compR s2.note.recs, out := { s2.note.out with journal := recsB (compR s2.note.recs), replace := true } } { h2 with vr := vc } = restP gn s2.note { h2 with vr := v4 } := rfl
    dsimp only
    rw [er]
    simp only [nodC]
    ((try simp only [star_assoc, emp_star, star_emp]); (repeat' (first | exact Ent.last | refine Ent.take ?_ | refine Ent.nilT ?_ | refine Ent.takeR (by first | rfl | assumption | (simp; done)) ?_ | exact Ent.refl _)))
  · have hd : s2.done = s2.note := by unfold Nd.done; rw [if_neg hm]
    repeat' (first | (refine WS_seqK ?_; intro K hK) | (refine hK _ ?_; clear hK K) | refine WS_region ?_ | refine LS_nil ?_ | ((refine' LQ ?zh rfl ?_); case zh => intro F'; first | exact Q_move rfl | exact Q_nilCheck rfl | exact Q_fieldAddr rfl iI rfl | exact Q_load rfl iI iI rfl | exact Q_bin_f rfl rfl iI (by first | assumption | omega) | exact Q_loadA rfl iI iI rfl | exact Q_lenR rfl iI iI) | ((refine' LS_h0 ?zh ?_); (case zh => exact H_storeAO rfl rfl iI iI iI rfl); intro g) | (first | refine WS_block ?_ | refine WS_skip ?_ | refine WS_ret ?_ | refine WS_exit ?_ | refine WS_label ?_) | (show WS _ _ _ (.cond _ _ _) _ _; first | refine WS_condT rfl iI ?_ | refine WS_condF rfl iI ?_ | refine WS_condH_t rfl (by assumption) ?_ | refine WS_condH_f rfl (by assumption) ?_ | (refine WS_cond rfl ?_ ?_ <;> intro hc <;> (try simp only [decide_eq_true_eq, decide_eq_false_iff_not, Bool.not_eq_eq_eq_not, Bool.not_true, Bool.not_false, Bool.and_eq_true, Bool.or_eq_true, bne_iff_ne, beq_iff_eq, ne_eq, Decidable.not_not] at hc) <;> (try (exfalso; first | contradiction | omega; done)))) | (refine LS_h (H_callX iI rfl p4 iI) rfl ?_; intro v4))
    refine out_r (lv_call (u := .returning) (caps := []) (args := [ptr gn 0]) (by simp) inferInstance ?_)
    refine unlock_D w0 iI rfl ?_
    refine lv_ret1 rfl (RV_cell rfl iI iI rfl) ⟨((h2.vf, h2.vc, h2.vd), y), by rw [hd]; rfl, ?_⟩
    rw [hd]
    unfold outR
    rw [star_assoc (nodI _ _)]
    refine ent_nodI { h2 with vr := v4 } s2.note.out ?_
    simp only [nodC]
    ((try simp only [star_assoc, emp_star, star_emp]); (repeat' (first | exact Ent.last | refine Ent.take ?_ | refine Ent.nilT ?_ | refine Ent.takeR (by first | rfl | assumption | (simp; done)) ?_ | exact Ent.refl _)))
end Go.Proofs.YtapoehkdnglahaaGreat

/- A new node. -/
namespace Go.Proofs.YtapoehkdnglahaaGreat
open Go.RowKit
set_option linter.unusedVariables false
set_option linter.unusedSectionVars false
set_option linter.unusedSimpArgs false
def maxOwn (l : List Rec) : UInt32 := l.foldl (fun m r => if r.own then max m r.seq else m) 0
theorem maxOwn_snoc (l : List Rec) (r : Rec) : maxOwn (l ++ [r]) = if r.own then max (maxOwn l) r.seq else maxOwn l := by simp [maxOwn]
/-- A node that knows nothing. -/
def Nd.blank (self : UInt32) : Nd := ⟨self, 1, [], [], 0, [], 0, [], [], [], [], [], 0, 0, 0, 0, [], 0, OutD.zero⟩
/-- With its journal. -/
def Nd.booted (self : UInt32) (b : List UInt8) (now : UInt64) : Nd := if 0 < b.length then { Nd.blank self with seq := growS (maxOwn (readJ b)), ls := newT self (compR (readJ b)), silent := now + 2000 } else Nd.blank self
def Nd.new (self : UInt32) (b : List UInt8) (now : UInt64) : Nd := ((Nd.booted self b now).write ⟨true, 0, (Nd.booted self b now).seq⟩).note
/-- A new node's answer. -/
def Nd.newO (self : UInt32) (b : List UInt8) (now : UInt64) : OutD := { (Nd.new self b now).out with replace := decide (0 < b.length) }
theorem Nd.booted_ok (self : UInt32) (b : List UInt8) (now : UInt64) : TabOk (Nd.booted self b now).ls := by
  unfold Nd.booted
  split
  · exact TabOk.new _ _
  · exact TabOk.nil
theorem mp_nil {κ ν κ' ν' : Type} (fk : κ → Value) (fv : ν → Value) (fk' : κ' → Value) (fv' : ν' → Value) (r : Nat) : mp fk fv r [] = mp fk' fv' r [] := rfl
def nilV : Value := .slice none 0 0
theorem node0 {H F : HProp} (gn tb r0 r1 r2 r3 r4 : Nat) (cb : Nat × Nat) (self q : UInt32) (ls : List Ln) (si : UInt64)
    (e : Ent H (cel gn 184 [.int .i32 0, u32 0, u32 self, u32 q, ptr tb 0, .slice none 0 0, u32 0, .map (some r0), u64 si, .map (some r1), .slice none 0 0, .map (some r2), .map (some r3), .map (some r4), ptr cb.1 0, .int .i64 0, u32 0, u32 0, .slice none 0 0, u64 0, strV [], .bool false, .slice none 0 0, .slice none 0 0, .slice none 0 0] * (rows 48 3 Rec.cells (.slice none 0 0) [] * (mp u32 u32 r0 [] * (mp u32 u32 r1 [] * (mp u32 u32 r2 [] * (mp u32 u32 r3 [] * (mp u32 u32 r4 [] * (tabQ tb self ls * (heapQ cb.1 cb.2 0 [] * F)))))))))) :
    Ent H (nodPm 0 gn { Nd.blank self with seq := q, ls := ls, silent := si } ⟨tb, .slice none 0 0, r0, r1, .slice none 0 0, r2, r3, r4, cb.1, cb.2, .slice none 0 0, .slice none 0 0, .slice none 0 0, .slice none 0 0, [], []⟩ * F) := by
  have a : ∀ Z, Ent (mp u32 u32 r2 [] * Z) (waitQ r2 [] [] * Z) := fun Z => by
    unfold waitQ
    rw [star_assoc]; refine Ent.pureI rfl ?_; rw [mp_nil u32 u32 u32 slV' r2]; simp only [wmap, List.zipWith_nil_left, textsP, star_emp]; exact Ent.refl _
  have b : ∀ Z, Ent (heapQ cb.1 cb.2 0 [] * Z) (clockQ cb.1 cb.2 0 [] * Z) := fun Z => Ent.hexI (p := fun l : List Tm => pure' (TR l [] 0) * heapQ cb.1 cb.2 0 l) [] (by rw [star_assoc]; exact Ent.pureI TR.nil (Ent.refl _))
  refine (e.trans (Ent.tail _ (Ent.tail _ (Ent.tail _ (Ent.tail _ ((a _).trans (Ent.tail _ (Ent.tail _ (Ent.tail _ (Ent.tail _ (b _))))))))))).trans ?_
  rw [mp_nil u32 u32 rqV u64 r1, mp_nil u32 u32 u32 ptrV r3, mp_nil u32 u32 i64 ptrV r4]
  unfold nodPm nodC outH restP restC srsQ
  have ep : (pure' (([] : List Nat).length = ([] : List Sr).length)) = emp := pure'_true (φ := ([] : List Nat).length = ([] : List Sr).length) rfl
  simp only [Nd.blank, OutD.zero, srsP, qmap, imap, List.zipWith_nil_left, emp_star, ep]
  refine (Ent.nil _ 80 2 txtC none).trans ?_
  refine (Ent.nil _ 301 2 txtC none).trans ?_
  refine (Ent.nil _ 238 1 intC none).trans ?_
  refine (Ent.nil _ 336 2 rqC none).trans ?_
  refine (Ent.nil _ 35 1 wrd64C none).trans ?_
  have ez : (Value.int .u32 0 : Value) = u32 0 := rfl
  rw [ez]
  ((try simp only [star_assoc, emp_star, star_emp]); (repeat' (first | exact Ent.last | refine Ent.take ?_ | refine Ent.nilT ?_ | refine Ent.takeR (by first | rfl | assumption | (simp; done)) ?_ | exact Ent.refl _)))
attribute [local irreducible] WS LS OpQ OpT OpH OpTQ Spec SpecQ cel
variable (w0 : World)
set_option maxRecDepth 100000 in
set_option maxHeartbeats 16000000 in
theorem nnew_spec (self : UInt32) (b : List UInt8) (hb : b.length ≤ 1000000) (now : UInt64) (v : Value) (X : HProp) [hX : Rdr w0 X v UInt8 1 byteC b] :
    Spec Tryz.prog w0 76 [u32 self, v, u64 now] X (fun x : Nat × (Value × Value × Value) => .tuple #[ptr x.1 0, outA (Nd.newO self b now) x.2]) (fun x => nodI x.1 (Nd.new self b now) * (outR (Nd.newO self b now) x.2 * X)) := by
  have p1 := newT_spec w0 self [] (by simp) (.slice none 0 0) (rows 48 3 Rec.cells (.slice none 0 0) [])
  have e1 : newT self (compR []) = [] := by rw [show compR [] = [] from List.length_eq_zero_iff.1 (Nat.le_zero.1 (compR_length []))]; rfl
  rw [e1] at p1
  have p2 := hnew_spec w0
  have p3 := wread_spec w0 b hb v X
  refine Spec.enter Tryz.func76 rfl Tryz.ntmps76 rfl fun G => ?_
  simp only [argE]
  refine WS_ent (Ent.nil _ 48 3 Rec.cells none) ?_
  by_cases hb0 : 0 < b.length
  · repeat' (first | (refine WS_seqK ?_; intro K hK) | (refine hK _ ?_; clear hK K) | refine WS_region ?_ | refine LS_nil ?_ | ((refine' LQ ?zh rfl ?_); case zh => intro F'; first | exact Q_move rfl | exact Q_assign rfl | exact Q_nilCheck rfl | exact Q_fieldAddr rfl iI rfl | exact Q_bin_t rfl rfl iI (by first | assumption | omega) | exact Q_extract rfl rfl | exact Q_build iI iI rfl rfl | exact Q_lenR rfl iI iI) | ((refine' LS_h0 ?zh ?_); (case zh => exact H_storeO rfl rfl iI iI iI rfl); intro g) | (first | refine WS_block ?_ | refine WS_skip ?_ | refine WS_ret ?_ | refine WS_exit ?_ | refine WS_label ?_) | (show WS _ _ _ (.cond _ _ _) _ _; first | refine WS_condT rfl iI ?_ | refine WS_condF rfl iI ?_ | refine WS_condH_t rfl (by assumption) ?_ | refine WS_condH_f rfl (by assumption) ?_ | (refine WS_cond rfl ?_ ?_ <;> intro hc <;> (try simp only [decide_eq_true_eq, decide_eq_false_iff_not, Bool.not_eq_eq_eq_not, Bool.not_true, Bool.not_false, Bool.and_eq_true, Bool.or_eq_true, bne_iff_ne, beq_iff_eq, ne_eq, Decidable.not_not] at hc) <;> (try (exfalso; first | contradiction | omega; done)))) | (refine LS_h (H_alloc iI) rfl ?_; intro g0) | (refine LS_h (H_box rfl) rfl ?_; intro gn) | (refine LS_h (H_callX iI rfl p1 iI) rfl ?_; intro tb) | (refine LS_h (H_call0 iI rfl p2) rfl ?_; intro cb) | (refine LS_h (H_makeMap u32 u32 (d := some 18)) rfl ?_; intro r0) | (refine LS_h (H_makeMap u32 u32 (d := some 20)) rfl ?_; intro r1) | (refine LS_h (H_makeMap u32 u32 (d := some 21)) rfl ?_; intro r2) | (refine LS_h (H_makeMap u32 u32 (d := some 22)) rfl ?_; intro r3) | (refine LS_h (H_makeMap u32 u32 (d := some 23)) rfl ?_; intro r4) | (refine LS_h (H_callX iI rfl p3 iI) rfl ?_; intro vl))
    have hl := readJ_length b
    generalize hj : readJ b = l at *
    have p4 := newT_spec w0 self l (by omega) vl (rows 48 3 Rec.cells vl l)
    have p5 := grow_spec w0 (maxOwn l)
    obtain ⟨R, hR⟩ : ∃ R : HProp, R = X * (heapQ cb.1 cb.2 0 [] * (mp u32 u32 r4 [] * (mp u32 u32 r3 [] * (mp u32 u32 r2 [] * (mp u32 u32 r1 [] * (mp u32 u32 r0 [] * (tabQ tb self [] * (rows 48 3 Rec.cells (.slice none 0 0) [] * (cel g0 67 [strV [], .bool false, .slice none 0 0, .slice none 0 0, .slice none 0 0] * G))))))))) := ⟨_, rfl⟩
    refine WS_loop (fun k τ => ∃ j : Nat, j + k = l.length ∧ τ = ⟨[(41, .int .i64 (j : Int)), (40, .int .i64 (l.length : Int)), (39, vl), (10, vl), (9, .bool true), (8, ptr gn 0), (7, ptr g0 0), (0, u32 self), (0 + 1 + 1, u64 now)], [], cel gn 184 [.int .i32 0, u32 0, u32 self, u32 (maxOwn (l.take j)), ptr tb 0, .slice none 0 0, u32 0, .map (some r0), u64 0, .map (some r1), .slice none 0 0, .map (some r2), .map (some r3), .map (some r4), ptr cb.1 0, .int .i64 0, u32 0, u32 0, .slice none 0 0, u64 0, strV [], .bool false, .slice none 0 0, .slice none 0 0, .slice none 0 0] * (rows 48 3 Rec.cells vl l * R)⟩) ?_ ?_
    · exact ⟨l.length, _, ⟨0, by omega, rfl⟩, ⟨rfl, rfl, rfl, rfl, rfl, rfl, rfl, rfl, rfl, trivial⟩, rfl, by rw [hR]; have ez : (Value.int .u32 0 : Value) = u32 0 := rfl; simp only [List.take_zero, maxOwn, List.foldl_nil, ez]; ((try simp only [star_assoc, emp_star, star_emp]); (repeat' (first | exact Ent.last | refine Ent.take ?_ | refine Ent.nilT ?_ | refine Ent.takeR (by first | rfl | assumption | (simp; done)) ?_ | exact Ent.refl _)))⟩
    · rintro k τ ⟨j, hjk, rfl⟩
      rcases Nat.lt_or_ge j l.length with hlt | hge
      · obtain ⟨⟨zo, za, zs⟩, hz⟩ : ∃ z, l[j]? = some z := ⟨_, List.getElem?_eq_getElem hlt⟩
        have htk : maxOwn (l.take (j + 1)) = if zo then max (maxOwn (l.take j)) zs else maxOwn (l.take j) := by rw [List.take_add_one, hz, Option.toList_some, maxOwn_snoc]
        generalize maxOwn (l.take j) = m at *
        cases zo
        · repeat' (first | (refine WS_seqK ?_; intro K hK) | (refine hK _ ?_; clear hK K) | (with_reducible (first | refine thenS_n ?_ | refine thenS_e ?_ | refine blockS_n ?_ | refine blockS_e ?_ | refine blockS_o rfl ?_ | refine thenS_r ?_ | refine blockS_r ?_ | refine use_K (by assumption) ?_)) | refine WS_region ?_ | refine LS_nil ?_ | ((refine' LQ ?zh rfl ?_); case zh => intro F'; first | exact Q_move rfl | exact Q_fieldAddr rfl iI rfl | exact Q_load rfl iI iI rfl | exact Q_bin_t rfl rfl iI (by first | assumption | omega) | exact Q_addI rfl rfl (by omega) | exact Q_index rfl rfl iI iI iI iI (by first | assumption | omega | (simp [be_length] <;> omega)) | exact Q_loadRA rfl iI iI iI (by assumption)) | ((refine' LS_h ?zh rfl ?_); (case zh => exact H_alloc iI); intro g) | ((refine' LS_h0 ?zh ?_); (case zh => exact H_storeA rfl rfl iI iI (by first | rfl | (simp only [List.all_cons, List.all_nil, *]; rfl)) rfl); intro g) | (first | refine WS_block ?_ | refine WS_skip ?_ | refine WS_ret ?_ | refine WS_exit ?_ | refine WS_label ?_) | (show WS _ _ _ (.cond _ _ _) _ _; first | refine WS_condT rfl iI ?_ | refine WS_condF rfl iI ?_ | refine WS_condH_t rfl (by assumption) ?_ | refine WS_condH_f rfl (by assumption) ?_ | (refine WS_cond rfl ?_ ?_ <;> intro hc <;> (try simp only [decide_eq_true_eq, decide_eq_false_iff_not, Bool.not_eq_eq_eq_not, Bool.not_true, Bool.not_false, Bool.and_eq_true, Bool.or_eq_true, bne_iff_ne, beq_iff_eq, ne_eq, Decidable.not_not] at hc) <;> (try (exfalso; first | contradiction | omega; done)))))
          exact ⟨k - 1, _, by omega, ⟨j + 1, by omega, rfl⟩, ⟨rfl, rfl, rfl, rfl, rfl, rfl, rfl, rfl, rfl, trivial⟩, rfl, by rw [htk]; simp only [Bool.false_eq_true, if_false]; ((try simp only [star_assoc, emp_star, star_emp]); (repeat' (first | exact Ent.last | refine Ent.take ?_ | refine Ent.nilT ?_ | refine Ent.takeR (by first | rfl | assumption | (simp; done)) ?_ | exact Ent.refl _)))⟩
        · repeat' (first | (show WS _ _ _ (.region 10 _ true) _ _; first | refine WS_drawK [0, 1, 2, 3, 4, 5, 6, 7, 8, 9, 10] 10 [4, 6, 7] (by decide +kernel) rfl ?_ | refine WS_drawN 8 13 [0, 1, 2, 3, 4, 5, 6, 7, 8, 9, 10] 10 [4] (by decide +kernel) rfl rfl rfl iI iI ?_) | (refine WS_seqK ?_; intro K hK) | (refine hK _ ?_; clear hK K) | (with_reducible (first | refine thenS_n ?_ | refine thenS_e ?_ | refine blockS_n ?_ | refine blockS_e ?_ | refine blockS_o rfl ?_ | refine thenS_r ?_ | refine blockS_r ?_ | refine use_K (by assumption) ?_)) | refine WS_region ?_ | refine LS_nil ?_ | (first | refine DL_nilA ?_ | refine DL_nilS ?_ | refine DL_nilN ?_ | refine DL_nilE ?_ | refine DL_nilR ?_) | (first | refine DL_claimS rfl ?_ | refine DL_claim rfl rfl ?_) | ((first | refine' LQ ?zh rfl ?_ | refine' DL_qp rfl rfl rfl ?zh ?_ | refine' DL_q rfl rfl ?zh ?_); case zh => intro F'; first | exact Q_move rfl | exact Q_nilCheck rfl | exact Q_fieldAddr rfl iI rfl | exact Q_load rfl iI iI rfl | exact Q_bin_t rfl rfl iI (by first | assumption | omega) | exact Q_addI rfl rfl (by omega) | exact Q_index rfl rfl iI iI iI iI (by first | assumption | omega | (simp [be_length] <;> omega)) | exact Q_loadRA rfl iI iI iI (by assumption) | exact Q_max32 rfl rfl iI iI) | ((refine' LS_h ?zh rfl ?_); (case zh => exact H_alloc iI); intro g) | ((first | refine' LS_h0 ?zh ?_ | refine' DL_h0 ?zh rfl rfl ?_); (case zh => first | exact H_storeO rfl rfl iI iI iI rfl | exact H_storeA rfl rfl iI iI (by first | rfl | (simp only [List.all_cons, List.all_nil, *]; rfl)) rfl); intro g) | (first | refine WS_block ?_ | refine WS_skip ?_ | refine WS_ret ?_ | refine WS_exit ?_ | refine WS_label ?_) | (show WS _ _ _ (.cond _ _ _) _ _; first | refine WS_condT rfl iI ?_ | refine WS_condF rfl iI ?_ | refine WS_condH_t rfl (by assumption) ?_ | refine WS_condH_f rfl (by assumption) ?_ | (refine WS_cond rfl ?_ ?_ <;> intro hc <;> (try simp only [decide_eq_true_eq, decide_eq_false_iff_not, Bool.not_eq_eq_eq_not, Bool.not_true, Bool.not_false, Bool.and_eq_true, Bool.or_eq_true, bne_iff_ne, beq_iff_eq, ne_eq, Decidable.not_not] at hc) <;> (try (exfalso; first | contradiction | omega; done)))))
          exact ⟨k - 1, _, by omega, ⟨j + 1, by omega, rfl⟩, ⟨rfl, rfl, rfl, rfl, rfl, rfl, rfl, rfl, rfl, trivial⟩, rfl, by rw [htk]; simp only [if_true]; ((try simp only [star_assoc, emp_star, star_emp]); (repeat' (first | exact Ent.last | refine Ent.take ?_ | refine Ent.nilT ?_ | refine Ent.takeR (by first | rfl | assumption | (simp; done)) ?_ | exact Ent.refl _)))⟩
      · obtain rfl : j = l.length := by omega
        rw [List.take_of_length_le (Nat.le_refl _)]
        repeat' (first | (refine WS_seqK ?_; intro K hK) | (refine hK _ ?_; clear hK K) | (with_reducible (first | refine thenS_n ?_ | refine thenS_e ?_ | refine blockS_n ?_ | refine blockS_e ?_ | refine blockS_o rfl ?_ | refine thenS_r ?_ | refine blockS_r ?_ | refine use_K (by assumption) ?_)) | refine WS_region ?_ | refine LS_nil ?_ | ((refine' LQ ?zh rfl ?_); case zh => intro F'; first | exact Q_move rfl | exact Q_nilCheck rfl | exact Q_fieldAddr rfl iI rfl | exact Q_load rfl iI iI rfl | exact Q_bin_f rfl rfl iI (by first | assumption | omega) | exact Q_build iI iI rfl rfl) | ((refine' LQ ?zh rfl ?_); case zh => intro F'; exact Q_bin rfl rfl iI) | ((refine' LS_h0 ?zh ?_); (case zh => exact H_storeO rfl rfl iI iI iI rfl); intro g) | (first | refine WS_block ?_ | refine WS_skip ?_ | refine WS_ret ?_ | refine WS_exit ?_ | refine WS_label ?_) | (show WS _ _ _ (.cond _ _ _) _ _; first | refine WS_condT rfl iI ?_ | refine WS_condF rfl iI ?_ | refine WS_condH_t rfl (by assumption) ?_ | refine WS_condH_f rfl (by assumption) ?_ | (refine WS_cond rfl ?_ ?_ <;> intro hc <;> (try simp only [decide_eq_true_eq, decide_eq_false_iff_not, Bool.not_eq_eq_eq_not, Bool.not_true, Bool.not_false, Bool.and_eq_true, Bool.or_eq_true, bne_iff_ne, beq_iff_eq, ne_eq, Decidable.not_not] at hc) <;> (try (exfalso; first | contradiction | omega; done)))) | (refine LS_h (H_callX iI rfl p4 iI) rfl ?_; intro t2) | (refine LS_h (H_call0 iI rfl p5) rfl ?_; intro u5))
        have es : Nd.booted self b now = { Nd.blank self with seq := if maxOwn l + 1 = 0 then maxOwn l else maxOwn l + 1, ls := newT self (compR l), silent := now + 2000 } := by unfold Nd.booted; rw [if_pos hb0, hj]; rfl
        refine LS_ent (H' := nodPm 0 gn (Nd.booted self b now) ⟨t2, .slice none 0 0, r0, r1, .slice none 0 0, r2, r3, r4, cb.1, cb.2, .slice none 0 0, .slice none 0 0, .slice none 0 0, .slice none 0 0, [], []⟩ * (cel g0 67 [strV [], .bool false, .slice none 0 0, .slice none 0 0, .slice none 0 0] * (X * G))) (by rw [es]; refine node0 gn t2 r0 r1 r2 r3 r4 cb self (if maxOwn l + 1 = 0 then maxOwn l else maxOwn l + 1) (newT self (compR l)) (now + 2000) ?_; rw [hR]; simp only [emp_star]; ((try simp only [star_assoc, emp_star, star_emp]); (repeat' (first | exact Ent.last | refine Ent.take ?_ | refine Ent.nilT ?_ | refine Ent.takeR (by first | rfl | assumption | (simp; done)) ?_ | exact Ent.refl _)))) ?_
        generalize (⟨t2, .slice none 0 0, r0, r1, .slice none 0 0, r2, r3, r4, cb.1, cb.2, .slice none 0 0, .slice none 0 0, .slice none 0 0, .slice none 0 0, [], []⟩ : NH) = h0
        have hok := Nd.booted_ok self b now
        obtain ⟨s0, hs0⟩ : ∃ s0 : Nd, s0 = Nd.booted self b now := ⟨_, rfl⟩
        have en : Nd.new self b now = (s0.write ⟨true, 0, if maxOwn l + 1 = 0 then maxOwn l else maxOwn l + 1⟩).note := by unfold Nd.new; rw [hs0, es]
        rw [← hs0] at hok ⊢
        have hr0 : s0.recs = [] := by rw [hs0, es]; rfl
        have hj0 : s0.out.journal = [] := by rw [hs0, es]; rfl
        have q1 := nwrite_spec w0 0 gn s0 h0 ⟨true, 0, if maxOwn l + 1 = 0 then maxOwn l else maxOwn l + 1⟩ (by rw [hr0]; simp) (by rw [hj0]; simp)
        have q2 := fun vr => note_spec w0 0 gn (s0.write ⟨true, 0, if maxOwn l + 1 = 0 then maxOwn l else maxOwn l + 1⟩) { h0 with vr := vr } (Nd.Room.write (k := 10) ⟨by rw [hr0]; simp, by rw [hj0]; simp⟩ _) hok
        rw [← en] at q2
        obtain ⟨s9, hs9⟩ : ∃ s9 : Nd, s9 = Nd.new self b now := ⟨_, rfl⟩
        rw [← hs9] at q2
        simp only [nodPm, outH] at q1 q2 ⊢
        simp only [nodC] at q1 q2 ⊢
        repeat' (first | (refine WS_seqK ?_; intro K hK) | (refine hK _ ?_; clear hK K) | refine WS_region ?_ | refine LS_nil ?_ | (first | refine DL_nilA ?_ | refine DL_nilS ?_ | refine DL_nilN ?_ | refine DL_nilE ?_ | refine DL_nilR ?_) | (first | refine DL_claimS rfl ?_ | refine DL_claim rfl rfl ?_) | ((first | refine' LQ ?zh rfl ?_ | refine' DL_qp rfl rfl rfl ?zh ?_); case zh => intro F'; first | exact Q_move rfl | exact Q_assign rfl | exact Q_nilCheck rfl | exact Q_fieldAddr rfl iI rfl | exact Q_loadA rfl iI iI rfl | exact Q_build iI iI rfl rfl) | ((refine' LS_h ?zh rfl ?_); (case zh => exact H_alloc iI); intro g) | ((first | refine' LS_h0 ?zh ?_ | refine' DL_h0 ?zh rfl rfl ?_); (case zh => first | exact H_storeO rfl rfl iI iI iI rfl | exact H_storeAO rfl rfl iI iI iI rfl); intro g) | (first | refine WS_block ?_ | refine WS_skip ?_ | refine WS_ret ?_ | refine WS_exit ?_ | refine WS_label ?_) | refine WS_drawS (by kernel_rfl) ?_ | (refine LS_h (H_callX iI rfl q1 iI) rfl ?_; intro v1; replace q2 := q2 v1) | (refine LS_h (H_callX iI rfl q2 iI) rfl ?_; intro v2))
        refine ret_2 (.inl rfl) rfl (RV_tmp rfl) (RV_cell rfl iI iI rfl) ⟨(gn, (h0.vf, h0.vc, h0.vd)), ?_, ?_⟩
        · unfold Nd.newO outA
          rw [← hs9]
          simp [hb0]
        · unfold Nd.newO outR
          rw [← hs9, star_assoc (nodI _ _)]
          refine ent_nodI { h0 with vr := v2, vf := .slice none 0 0, vc := .slice none 0 0, vd := .slice none 0 0 } OutD.zero ?_
          have er : restP gn s9 { h0 with vr := v2, vf := .slice none 0 0, vc := .slice none 0 0, vd := .slice none 0 0 } = restP gn s9 { h0 with vr := v2 } := rfl
          rw [er]
          simp only [nodC, OutD.zero]
          ((try simp only [star_assoc, emp_star, star_emp]); (repeat' (first | exact Ent.last | refine Ent.take ?_ | refine Ent.nilT ?_ | refine Ent.takeR (by first | rfl | assumption | (simp; done)) ?_ | exact Ent.refl _)))
  · repeat' (first | (refine WS_seqK ?_; intro K hK) | (refine hK _ ?_; clear hK K) | refine WS_region ?_ | refine LS_nil ?_ | ((refine' LQ ?zh rfl ?_); case zh => intro F'; first | exact Q_move rfl | exact Q_assign rfl | exact Q_nilCheck rfl | exact Q_fieldAddr rfl iI rfl | exact Q_load rfl iI iI rfl | exact Q_bin_f rfl rfl iI (by first | assumption | omega) | exact Q_build iI iI rfl rfl | exact Q_lenR rfl iI iI) | (first | refine WS_block ?_ | refine WS_skip ?_ | refine WS_ret ?_ | refine WS_exit ?_ | refine WS_label ?_) | (show WS _ _ _ (.cond _ _ _) _ _; first | refine WS_condT rfl iI ?_ | refine WS_condF rfl iI ?_ | refine WS_condH_t rfl (by assumption) ?_ | refine WS_condH_f rfl (by assumption) ?_ | (refine WS_cond rfl ?_ ?_ <;> intro hc <;> (try simp only [decide_eq_true_eq, decide_eq_false_iff_not, Bool.not_eq_eq_eq_not, Bool.not_true, Bool.not_false, Bool.and_eq_true, Bool.or_eq_true, bne_iff_ne, beq_iff_eq, ne_eq, Decidable.not_not] at hc) <;> (try (exfalso; first | contradiction | omega; done)))) | (refine LS_h (H_alloc iI) rfl ?_; intro g0) | (refine LS_h (H_box rfl) rfl ?_; intro gn) | (refine LS_h (H_callX iI rfl p1 iI) rfl ?_; intro tb) | (refine LS_h (H_call0 iI rfl p2) rfl ?_; intro cb) | (refine LS_h (H_makeMap u32 u32 (d := some 18)) rfl ?_; intro r0) | (refine LS_h (H_makeMap u32 u32 (d := some 20)) rfl ?_; intro r1) | (refine LS_h (H_makeMap u32 u32 (d := some 21)) rfl ?_; intro r2) | (refine LS_h (H_makeMap u32 u32 (d := some 22)) rfl ?_; intro r3) | (refine LS_h (H_makeMap u32 u32 (d := some 23)) rfl ?_; intro r4))
    have es : Nd.booted self b now = { Nd.blank self with seq := 1, ls := [], silent := 0 } := by unfold Nd.booted; rw [if_neg hb0]; rfl
    refine LS_ent (H' := nodPm 0 gn (Nd.booted self b now) ⟨tb, .slice none 0 0, r0, r1, .slice none 0 0, r2, r3, r4, cb.1, cb.2, .slice none 0 0, .slice none 0 0, .slice none 0 0, .slice none 0 0, [], []⟩ * (cel g0 67 [strV [], .bool false, .slice none 0 0, .slice none 0 0, .slice none 0 0] * (X * G))) (by rw [es]; refine node0 gn tb r0 r1 r2 r3 r4 cb self (1) ([]) (0) ?_; have ez : (Value.int .u32 1 : Value) = u32 1 := rfl; rw [ez]; ((try simp only [star_assoc, emp_star, star_emp]); (repeat' (first | exact Ent.last | refine Ent.take ?_ | refine Ent.nilT ?_ | refine Ent.takeR (by first | rfl | assumption | (simp; done)) ?_ | exact Ent.refl _)))) ?_
    generalize (⟨tb, .slice none 0 0, r0, r1, .slice none 0 0, r2, r3, r4, cb.1, cb.2, .slice none 0 0, .slice none 0 0, .slice none 0 0, .slice none 0 0, [], []⟩ : NH) = h0
    have hok := Nd.booted_ok self b now
    obtain ⟨s0, hs0⟩ : ∃ s0 : Nd, s0 = Nd.booted self b now := ⟨_, rfl⟩
    have en : Nd.new self b now = (s0.write ⟨true, 0, 1⟩).note := by unfold Nd.new; rw [hs0, es]
    rw [← hs0] at hok ⊢
    have hr0 : s0.recs = [] := by rw [hs0, es]; rfl
    have hj0 : s0.out.journal = [] := by rw [hs0, es]; rfl
    have q1 := nwrite_spec w0 0 gn s0 h0 ⟨true, 0, 1⟩ (by rw [hr0]; simp) (by rw [hj0]; simp)
    have q2 := fun vr => note_spec w0 0 gn (s0.write ⟨true, 0, 1⟩) { h0 with vr := vr } (Nd.Room.write (k := 10) ⟨by rw [hr0]; simp, by rw [hj0]; simp⟩ _) hok
    rw [← en] at q2
    obtain ⟨s9, hs9⟩ : ∃ s9 : Nd, s9 = Nd.new self b now := ⟨_, rfl⟩
    rw [← hs9] at q2
    simp only [nodPm, outH] at q1 q2 ⊢
    simp only [nodC] at q1 q2 ⊢
    repeat' (first | (refine WS_seqK ?_; intro K hK) | (refine hK _ ?_; clear hK K) | refine WS_region ?_ | refine LS_nil ?_ | (first | refine DL_nilA ?_ | refine DL_nilS ?_ | refine DL_nilN ?_ | refine DL_nilE ?_ | refine DL_nilR ?_) | (first | refine DL_claimS rfl ?_ | refine DL_claim rfl rfl ?_) | ((first | refine' LQ ?zh rfl ?_ | refine' DL_qp rfl rfl rfl ?zh ?_); case zh => intro F'; first | exact Q_move rfl | exact Q_assign rfl | exact Q_nilCheck rfl | exact Q_fieldAddr rfl iI rfl | exact Q_loadA rfl iI iI rfl | exact Q_build iI iI rfl rfl) | ((refine' LS_h ?zh rfl ?_); (case zh => exact H_alloc iI); intro g) | ((first | refine' LS_h0 ?zh ?_ | refine' DL_h0 ?zh rfl rfl ?_); (case zh => first | exact H_storeO rfl rfl iI iI iI rfl | exact H_storeAO rfl rfl iI iI iI rfl); intro g) | (first | refine WS_block ?_ | refine WS_skip ?_ | refine WS_ret ?_ | refine WS_exit ?_ | refine WS_label ?_) | refine WS_drawS (by kernel_rfl) ?_ | (refine LS_h (H_callX iI rfl q1 iI) rfl ?_; intro v1; replace q2 := q2 v1) | (refine LS_h (H_callX iI rfl q2 iI) rfl ?_; intro v2))
    refine ret_2 (.inl rfl) rfl (RV_tmp rfl) (RV_cell rfl iI iI rfl) ⟨(gn, (h0.vf, h0.vc, h0.vd)), ?_, ?_⟩
    · unfold Nd.newO outA
      rw [← hs9]
      simp [hb0]
    · unfold Nd.newO outR
      rw [← hs9, star_assoc (nodI _ _)]
      refine ent_nodI { h0 with vr := v2, vf := .slice none 0 0, vc := .slice none 0 0, vd := .slice none 0 0 } OutD.zero ?_
      have er : restP gn s9 { h0 with vr := v2, vf := .slice none 0 0, vc := .slice none 0 0, vd := .slice none 0 0 } = restP gn s9 { h0 with vr := v2 } := rfl
      rw [er]
      simp only [nodC, OutD.zero]
      ((try simp only [star_assoc, emp_star, star_emp]); (repeat' (first | exact Ent.last | refine Ent.take ?_ | refine Ent.nilT ?_ | refine Ent.takeR (by first | rfl | assumption | (simp; done)) ?_ | exact Ent.refl _)))
end Go.Proofs.YtapoehkdnglahaaGreat

/- What wire.Decode returns, by a walk. -/
namespace Go.Proofs.YtapoehkdnglahaaGreat
open Go.RowKit
set_option linter.unusedVariables false
set_option linter.unusedSectionVars false
set_option linter.unusedSimpArgs false
theorem WS_at {P : Program} {n : Frm} {w0 : World} {c : Code} {Q : Exit → St → Prop} {σ : St} (h : ∀ w, Sat w0 w σ.H → WS P n w0 c Q σ) : WS P n w0 c Q σ := fun a w g => h w g.sat a w g
attribute [local irreducible] WS LS OpQ OpT OpH OpTQ Spec SpecQ SpecX DSpec cel AS
variable (w0 : World)
instance rdr_tail1 {w0 : World} {H : HProp} {v : Value} {α : Type} {size : Nat} {f : α → List Value} {b : α} {l : List α} [h : Rdr w0 H v α size f (b :: l)] : Rdr w0 H (sTail size v 1) α size f l := ⟨fun w hs => (h.at_ w hs).tail 1⟩
instance : IfaceT Tryz.prog 20 := ⟨by kernel_rfl⟩
section rules
variable {w0 : World} {n : Frm} {E : Env} {D : List Deferred} {H F : HProp} {ops : Array Oper} {ol : List Oper} {Q : Exit → St → Prop} {d : Nat} {xs : List Operand} {ts : Array TypeId} {ty : TypeId} {pos : String} {after : Array Edge} {g : Nat} {v : Value} {b : UInt8} {l : List UInt8}
theorem LS_one_t (hx : E.evs xs = some [ptr g 0]) (hl : LimbB H g 242 [v] F) (hX : Rdr w0 F v UInt8 1 byteC (b :: l)) (hd : Nat.blt d n.tmps = true) (h : LS Tryz.prog n w0 ops Q ol ⟨(d, .int .i64 (b.toNat : Int)) :: E, D, cel g 242 [sTail 1 v 1] * F⟩) : LS Tryz.prog n w0 ops Q (⟨some d, .call ⟨.value (.func 139), xs.toArray, ts⟩, ty, pos, after, none⟩ :: ol) ⟨E, D, H⟩ := by
  refine LS_h (H_callH inferInstance hx (one_t w0 (b :: l) v g F (by simp)) (hl.eq.trans star_emp.symm)) hd fun u => ?_
  rw [star_emp]
  exact h
theorem LS_one_f (hx : E.evs xs = some [ptr g 0]) (hl : LimbB H g 242 [v] F) (hX : Rdr w0 F v UInt8 1 byteC []) (h : Q (.panic brk) ⟨E, D, cel g 242 [v] * F⟩) : LS Tryz.prog n w0 ops Q (⟨some d, .call ⟨.value (.func 139), xs.toArray, ts⟩, ty, pos, after, none⟩ :: ol) ⟨E, D, H⟩ := by
  refine LS_callX inferInstance hx (one_f w0 [] v g F (by simp)) ⟨hl.eq.trans star_emp.symm⟩ ?_
  rw [star_emp]; exact h
theorem LS_four (hx : E.evs xs = some [ptr g 0]) (hl : LimbB H g 242 [v] F) (hX : Rdr w0 F v UInt8 1 byteC l) (hd : Nat.blt d n.tmps = true) (h1 : 4 ≤ l.length → LS Tryz.prog n w0 ops Q ol ⟨(d, u32 (numAt l 0)) :: E, D, cel g 242 [sTail 1 v 4] * F⟩) (h2 : l.length < 4 → Q (.panic brk) ⟨E, D, cel g 242 [v] * F⟩) : LS Tryz.prog n w0 ops Q (⟨some d, .call ⟨.value (.func 141), xs.toArray, ts⟩, ty, pos, after, none⟩ :: ol) ⟨E, D, H⟩ := by
  rcases Nat.lt_or_ge l.length 4 with hk | hk
  · refine LS_callX inferInstance hx (four_f w0 l v g F hk) ⟨hl.eq.trans star_emp.symm⟩ ?_
    rw [star_emp]; exact h2 hk
  · refine LS_h (H_callH inferInstance hx (four_t w0 l v g F hk) (hl.eq.trans star_emp.symm)) hd fun u => ?_
    rw [star_emp]
    exact h1 hk
theorem LS_take {k : Nat} {x : Int} (hx : E.evs xs = some [ptr g 0, .int .i64 x]) (hk : AsNat x k) (hl : LimbB H g 242 [v] F) (hX : Rdr w0 F v UInt8 1 byteC l) (hd : Nat.blt d n.tmps = true) (h1 : k ≤ l.length → LS Tryz.prog n w0 ops Q ol ⟨(d, sHead v k) :: E, D, cel g 242 [sTail 1 v k] * F⟩) (h2 : l.length < k → Q (.panic brk) ⟨E, D, cel g 242 [v] * F⟩) : LS Tryz.prog n w0 ops Q (⟨some d, .call ⟨.value (.func 142), xs.toArray, ts⟩, ty, pos, after, none⟩ :: ol) ⟨E, D, H⟩ := by
  rcases Nat.lt_or_ge l.length k with hk' | hk'
  · refine LS_callX inferInstance hx (take_f w0 l v g F k x hk.eq hk') ⟨hl.eq.trans star_emp.symm⟩ ?_
    rw [star_emp]; exact h2 hk'
  · refine LS_h (H_callH inferInstance hx (take_t w0 l v g F k x hk.eq hk') (hl.eq.trans star_emp.symm)) hd fun u => ?_
    rw [star_emp]
    exact h1 hk'
theorem LS_must {b : Bool} (hx : E.evs xs = some [.bool b]) (hd : Nat.blt d n.tmps = true) (h1 : b = true → LS Tryz.prog n w0 ops Q ol ⟨(d, .tuple #[]) :: E, D, H⟩) (h2 : b = false → Q (.panic brk) ⟨E, D, H⟩) : LS Tryz.prog n w0 ops Q (⟨some d, .call ⟨.value (.func 140), xs.toArray, ts⟩, ty, pos, after, none⟩ :: ol) ⟨E, D, H⟩ := by
  cases b with
  | false =>
    refine LS_callX inferInstance hx (must_f w0) ⟨emp_star.symm⟩ ?_
    rw [emp_star]; exact h2 rfl
  | true =>
    refine LS_h (H_callH inferInstance hx (must_t w0) emp_star.symm) hd fun u => ?_
    rw [emp_star]
    exact h1 rfl
theorem LS_deferV0 {t : Tmp} {f : FuncId} {caps args : List Value} (hn : n.round = none) (ht : E.get t = some (.func (.func f) #[] caps.toArray)) (hargs : E.evs xs = some args)
    (h : LS Tryz.prog n w0 ops Q ol ⟨E, ⟨.fn (.func f) caps.toArray, args.toArray⟩ :: D, H⟩) : LS Tryz.prog n w0 ops Q (⟨none, .defer ⟨.value (.tmp t), xs.toArray, ts⟩, ty, pos, after, none⟩ :: ol) ⟨E, D, H⟩ := LS_deferV (d := none) hn rfl ht hargs h
theorem WS_formR {α : Type} {size : Nat} {f : α → List Value} {l : List α} {c : Code} (v : Value) (hl : Rdr w0 H v α size f l) (h : ∀ A cap, v = .slice A l.length cap → WS Tryz.prog n w0 c Q ⟨E, D, H⟩) : WS Tryz.prog n w0 c Q ⟨E, D, H⟩ := WS_at fun w hs => by
  obtain ⟨A, cap, e, _⟩ := (hl.at_ w hs).form
  exact h A cap e
end rules
/-- The nothing of packets. -/
def Pk.zero : Pk := ⟨0, 0, 0, false, 0, 0, 0, 0, 0, 0, [], []⟩
section out
variable {w0 : World} {m : Frm} {E : Env} {H F Y : HProp} {R : Value → HProp → Prop} {p q : Nat} {cs bs : List Value}
theorem dspec_p {K : FrameMode → HProp → Prop} (hl : LimbB H p 46 cs F) (hl2 : LimbB F q 4 bs Y) (hcs : cs.length = 12) (hbs : bs.length = 1) (h : K (.panicking [{ v := .iface 310 (.agg #[]), recovered := true }]) (cel p 46 (Pk.zero.cells (.slice none 0 0)) * (cel q 4 [.bool false] * Y))) :
    DSpec Tryz.prog w0 138 [ptr p 0, ptr q 0] (.panicking brk) H K := by
  obtain ⟨c0, c1, c2, c3, c4, c5, c6, c7, c8, c9, c10, c11, rfl⟩ : ∃ c0 c1 c2 c3 c4 c5 c6 c7 c8 c9 c10 c11, cs = [c0, c1, c2, c3, c4, c5, c6, c7, c8, c9, c10, c11] := by
    match cs, hcs with
    | [c0, c1, c2, c3, c4, c5, c6, c7, c8, c9, c10, c11], _ => exact ⟨_, _, _, _, _, _, _, _, _, _, _, _, rfl⟩
  obtain ⟨b0, rfl⟩ : ∃ b0, bs = [b0] := by
    match bs, hbs with
    | [b0], _ => exact ⟨_, rfl⟩
  refine DSpec.enterR Tryz.func138 rfl Tryz.ntmps138 rfl rfl rfl (Q_bin (v := .iface 310 (.agg #[])) (u := .nilIface) (r := .bool true) rfl rfl inferInstance) ?_
  simp only [argE, recV, brk]
  have e : H = cel p 46 [c0, c1, c2, c3, c4, c5, c6, c7, c8, c9, c10, c11] * (cel q 4 [b0] * Y) := by rw [hl.eq, hl2.eq]
  rw [e]
  repeat' (first | refine WS_region ?_ | refine LS_nil ?_ | ((refine' LQ ?zh rfl ?_); case zh => intro F'; exact Q_build iI iI rfl rfl) | ((refine' LS_h0 ?zh ?_); (case zh => first | exact H_storeO rfl rfl iI iI iI rfl | exact H_storeAO rfl rfl iI iI iI rfl); intro g) | (show WS _ _ _ (.cond _ _ _) _ _; first | refine WS_condT rfl iI ?_ | refine WS_condF rfl iI ?_ | refine WS_condH_t rfl (by assumption) ?_ | refine WS_condH_f rfl (by assumption) ?_ | (refine WS_cond rfl ?_ ?_ <;> intro hc <;> (try simp only [decide_eq_true_eq, decide_eq_false_iff_not, Bool.not_eq_eq_eq_not, Bool.not_true, Bool.not_false, Bool.and_eq_true, Bool.or_eq_true, bne_iff_ne, beq_iff_eq, ne_eq, Decidable.not_not] at hc) <;> (try (exfalso; first | contradiction | omega; done)))))
  refine ret_none (.inr rfl) rfl ?_
  have e2 : ∀ A B C : HProp, B * (A * C) = A * (B * C) := fun A B C => star_left_comm _ _ _
  simpa only [e2, Pk.zero, Pk.cells] using h
theorem dspec_r {K : FrameMode → HProp → Prop} (h : K .returning H) : DSpec Tryz.prog w0 138 [ptr p 0, ptr q 0] .returning H K := by
  refine DSpec.enterR Tryz.func138 rfl Tryz.ntmps138 rfl rfl rfl (Q_neqNilC rfl inferInstance) ?_
  simp only [argE, recV]
  repeat' (first | (first | refine WS_block ?_ | refine WS_skip ?_ | refine WS_ret ?_ | refine WS_exit ?_ | refine WS_label ?_) | (show WS _ _ _ (.cond _ _ _) _ _; first | refine WS_condT rfl iI ?_ | refine WS_condF rfl iI ?_ | refine WS_condH_t rfl (by assumption) ?_ | refine WS_condH_f rfl (by assumption) ?_ | (refine WS_cond rfl ?_ ?_ <;> intro hc <;> (try simp only [decide_eq_true_eq, decide_eq_false_iff_not, Bool.not_eq_eq_eq_not, Bool.not_true, Bool.not_false, Bool.and_eq_true, Bool.or_eq_true, bne_iff_ne, beq_iff_eq, ne_eq, Decidable.not_not] at hc) <;> (try (exfalso; first | contradiction | omega; done)))))
  exact ret_none (.inr rfl) rfl h
theorem out_brk (h2 : E.get 2 = some (ptr p 0)) (h3 : E.get 3 = some (ptr q 0)) (hl : LimbB H p 46 cs F) (hl2 : LimbB F q 4 bs Y) (hcs : cs.length = 12) (hbs : bs.length = 1)
    (hR : R (.tuple #[Pk.zero.val (.slice none 0 0), .bool false]) (cel p 46 (Pk.zero.cells (.slice none 0 0)) * (cel q 4 [.bool false] * Y))) :
    outS Tryz.prog m w0 Tryz.f79 R (.panic brk) ⟨E, [⟨.fn (.func 138) ([ptr p 0, ptr q 0] : List Value).toArray, ([] : List Value).toArray⟩], H⟩ :=
  out_p (lv_call (caps := [ptr p 0, ptr q 0]) (args := []) (by simp) inferInstance (dspec_p hl hl2 hcs hbs (lv_ret2 rfl (RV_cell h2 inferInstance inferInstance rfl) (RV_cellS h3 inferInstance inferInstance rfl) hR)))
theorem out_ok {vs : List Value} (h2 : E.get 2 = some (ptr p 0)) (h3 : E.get 3 = some (ptr q 0)) (hl : LimbB H p 46 cs F) (hl2 : LimbB H q 4 [.bool true] Y) (hcs : takeL cs 0 12 = some vs)
    (hR : R (.tuple #[.agg vs.toArray, .bool true]) H) :
    outS Tryz.prog m w0 Tryz.f79 R .ret ⟨E, [⟨.fn (.func 138) ([ptr p 0, ptr q 0] : List Value).toArray, ([] : List Value).toArray⟩], H⟩ :=
  out_r (lv_call (caps := [ptr p 0, ptr q 0]) (args := []) (by simp) inferInstance (dspec_r (lv_ret2 rfl (RV_cell h2 hl inferInstance hcs) (RV_cellS h3 hl2 inferInstance rfl) hR)))
end out
/-- What Decode hands out. -/
def decV (l : List UInt8) (v' : Value) : Value := .tuple #[((Pk.dec l).getD Pk.zero).val v', .bool (Pk.dec l).isSome]
abbrev decH (l : List UInt8) (v' : Value) (X : HProp) : HProp := rows 145 2 lostC v' ((Pk.dec l).getD Pk.zero).lost * X
theorem dec_short (l : List UInt8) (h : l.length < 5) : Pk.dec l = none := by
  match l, h with
  | [], _ => rfl
  | [_], _ => rfl
  | [_, _], _ => rfl
  | [_, _, _], _ => rfl
  | [_, _, _, _], _ => rfl
  | _ :: _ :: _ :: _ :: _ :: _, h => simp at h; omega
set_option maxRecDepth 100000 in
set_option maxHeartbeats 4000000 in
theorem wdecode_short (l : List UInt8) (hl : l.length < 5) (v : Value) (X : HProp) [hX : Rdr w0 X v UInt8 1 byteC l] : Spec Tryz.prog w0 79 [v] X (fun v' : Value => decV l v') (fun v' => decH l v' X) := by
  have hd := dec_short l hl
  simp only [decV, decH, hd]
  refine Spec.enterM Tryz.func79 rfl Tryz.ntmps79 rfl fun G => ?_
  simp only [argE]
  refine WS_formR v (inferInstance : Rdr w0 (X * G) v UInt8 1 byteC l) fun A cap hv => ?_
  subst hv
  iterate 5
    rcases l with _ | ⟨a, l⟩
    · repeat' (first | (refine WS_seqK ?_; intro K hK) | (refine hK _ ?_; clear hK K) | refine WS_region ?_ | refine LS_nil ?_ | (show LS _ _ _ _ _ (⟨_, _, _, _, _, some _⟩ :: _) _; first | refine LS_wantT rfl rfl iI rfl ?_ | refine LS_wantF rfl rfl iI rfl ?_ | refine LS_wantU rfl rfl rfl ?_ | ((first | refine LS_wantS rfl rfl rfl ?_ ?_ | refine LS_wantN rfl ?_ ?_) <;> intro hc <;> (try simp only [decide_eq_true_eq, decide_eq_false_iff_not, Bool.not_eq_eq_eq_not, Bool.not_true, Bool.not_false, Bool.and_eq_true, Bool.or_eq_true, bne_iff_ne, beq_iff_eq, ne_eq, Decidable.not_not] at hc) <;> (try (exfalso; first | contradiction | omega; done)))) | ((refine' LQ ?zh rfl ?_); case zh => intro F'; first | exact Q_move rfl | exact Q_assign rfl | exact Q_fieldAddr rfl iI rfl | exact Q_load rfl iI iI rfl | exact Q_bin_t rfl rfl iI (by first | assumption | omega | decide) | exact Q_bin_f rfl rfl iI (by first | assumption | omega | decide) | exact Q_pick_t rfl iI rfl | exact Q_pick_f rfl iI rfl | exact Q_build iI iI rfl rfl | exact Q_makeFunc rfl rfl) | ((first | refine LS_binS rfl rfl iI rfl ?_ ?_ | refine LS_binN rfl rfl iI rfl ?_ ?_ | refine DL_binS rfl rfl iI rfl ?_ ?_) <;> intro hc) | ((refine' LS_h ?zh rfl ?_); (case zh => first | exact H_alloc iI | exact H_box rfl); intro g) | ((refine' LS_h0 ?zh ?_); (case zh => exact H_storeO rfl rfl iI iI iI rfl); intro g) | refine LS_deferV0 rfl rfl rfl ?_ | refine LS_one_f rfl iI iI ?_ | (refine LS_one_t rfl iI iI rfl ?_) | (refine LS_must rfl rfl ?_ ?_ <;> (intro hc; first | (cases hc; done) | skip)) | refine thenS_p ?_)
      all_goals
        refine out_brk rfl rfl inferInstance inferInstance rfl rfl ?_
        exact ⟨.slice none 0 0, rfl, by ((try simp only [star_assoc, emp_star, star_emp]); (repeat' (first | exact Ent.last | refine Ent.take ?_ | refine Ent.nilT ?_ | refine Ent.takeR (by first | rfl | assumption | (simp; done)) ?_ | exact Ent.refl _)))⟩
  simp at hl; omega
end Go.Proofs.YtapoehkdnglahaaGreat

/- What wire.Decode returns, by a walk: the kinds. -/
namespace Go.Proofs.YtapoehkdnglahaaGreat
open Go.RowKit
set_option linter.unusedVariables false
set_option linter.unusedSectionVars false
set_option linter.unusedSimpArgs false
attribute [local irreducible] WS LS OpQ OpT OpH OpTQ Spec SpecQ SpecX DSpec cel AS sTail sHead
variable (w0 : World)
theorem numAt_dropK (l : List UInt8) (k i : Nat) : numAt (l.drop k) i = numAt l (k + i) := by
  simp [numAt, byteAt, Nat.add_assoc]
theorem toNat_eq8 {b : UInt8} {m : Nat} (h : b.toNat = m) (hm : m < 256) : b = UInt8.ofNat m := by
  apply UInt8.toNat_inj.1; rw [h]; simp; omega
set_option maxRecDepth 100000 in
set_option maxHeartbeats 8000000 in
theorem wdec_bad (t k f z n : UInt8) (l : List UInt8) (hl : l.length ≤ 100000) (hd : Pk.dec (t :: k :: f :: z :: n :: l) = none) (hb : z.toNat ≠ 0 ∨ (z.toNat = 0 ∧ t.toNat = 0) ∨ (z.toNat = 0 ∧ 0 < t.toNat ∧ f.toNat ≠ 0 ∧ f.toNat ≠ 8) ∨ (z.toNat = 0 ∧ 0 < t.toNat ∧ f.toNat = 8 ∧ k.toNat ≠ 1)) (v : Value) (X : HProp) [hX : Rdr w0 X v UInt8 1 byteC (t :: k :: f :: z :: n :: l)] : Spec Tryz.prog w0 79 [v] X (fun v' : Value => decV (t :: k :: f :: z :: n :: l) v') (fun v' => decH (t :: k :: f :: z :: n :: l) v' X) := by
  simp only [decV, decH, hd]
  refine Spec.enterM Tryz.func79 rfl Tryz.ntmps79 rfl fun G => ?_
  simp only [argE]
  refine WS_formR v (inferInstance : Rdr w0 (X * G) v UInt8 1 byteC (t :: k :: f :: z :: n :: l)) fun A cap hv => ?_
  subst hv
  rcases hb with h1 | ⟨h1, h2⟩ | ⟨h1, h2, h3, h4⟩ | ⟨h1, h2, h3, h4⟩
  all_goals
    repeat' (first | (refine WS_seqK ?_; intro K hK) | (refine hK _ ?_; clear hK K) | refine WS_region ?_ | refine LS_nil ?_ | (show LS _ _ _ _ _ (⟨_, _, _, _, _, some _⟩ :: _) _; first | refine LS_wantT rfl rfl iI rfl ?_ | refine LS_wantF rfl rfl iI rfl ?_ | refine LS_wantU rfl rfl rfl ?_ | ((first | refine LS_wantS rfl rfl rfl ?_ ?_ | refine LS_wantN rfl ?_ ?_) <;> intro hc <;> (try simp only [decide_eq_true_eq, decide_eq_false_iff_not, Bool.not_eq_eq_eq_not, Bool.not_true, Bool.not_false, Bool.and_eq_true, Bool.or_eq_true, bne_iff_ne, beq_iff_eq, ne_eq, Decidable.not_not] at hc) <;> (try (exfalso; first | contradiction | omega; done)))) | ((refine' LQ ?zh rfl ?_); case zh => intro F'; first | exact Q_move rfl | exact Q_assign rfl | exact Q_fieldAddr rfl iI rfl | exact Q_load rfl iI iI rfl | exact Q_bin_t rfl rfl iI (by first | assumption | omega | decide) | exact Q_bin_f rfl rfl iI (by first | assumption | omega | decide) | exact Q_pick_t rfl iI rfl | exact Q_pick_f rfl iI rfl | exact Q_build iI iI rfl rfl | exact Q_makeFunc rfl rfl) | ((refine' LS_h ?zh rfl ?_); (case zh => first | exact H_alloc iI | exact H_box rfl); intro g) | ((refine' LS_h0 ?zh ?_); (case zh => exact H_storeO rfl rfl iI iI iI rfl); intro g) | refine LS_deferV0 rfl rfl rfl ?_ | (refine LS_one_t rfl iI iI rfl ?_) | (refine LS_must rfl rfl ?_ ?_ <;> (intro hc; first | (cases hc; done) | skip)) | with_reducible refine thenS_p ?_)
  all_goals
    refine out_brk rfl rfl inferInstance inferInstance rfl rfl ?_
    exact ⟨.slice none 0 0, rfl, by ((try simp only [star_assoc, emp_star, star_emp]); (repeat' (first | exact Ent.last | refine Ent.take ?_ | refine Ent.nilT ?_ | refine Ent.takeR (by first | rfl | assumption | (simp; done)) ?_ | exact Ent.refl _)))⟩
set_option maxRecDepth 100000 in
set_option maxHeartbeats 8000000 in
theorem wdec_other (t k f z n : UInt8) (l : List UInt8) (hl : l.length ≤ 100000) (hd : Pk.dec (t :: k :: f :: z :: n :: l) = none) (hz : z.toNat = 0) (ht : 0 < t.toNat) (hf : f.toNat = 0) (h1 : k.toNat ≠ 1) (h2 : k.toNat ≠ 2) (h3 : k.toNat ≠ 3) (h9 : k.toNat ≠ 9) (v : Value) (X : HProp) [hX : Rdr w0 X v UInt8 1 byteC (t :: k :: f :: z :: n :: l)] : Spec Tryz.prog w0 79 [v] X (fun v' : Value => decV (t :: k :: f :: z :: n :: l) v') (fun v' => decH (t :: k :: f :: z :: n :: l) v' X) := by
  simp only [decV, decH, hd]
  refine Spec.enterM Tryz.func79 rfl Tryz.ntmps79 rfl fun G => ?_
  simp only [argE]
  refine WS_formR v (inferInstance : Rdr w0 (X * G) v UInt8 1 byteC (t :: k :: f :: z :: n :: l)) fun A cap hv => ?_
  subst hv
  repeat' (first | (refine WS_seqK ?_; intro K hK) | (refine hK _ ?_; clear hK K) | refine WS_region ?_ | refine LS_nil ?_ | (show LS _ _ _ _ _ (⟨_, _, _, _, _, some _⟩ :: _) _; first | refine LS_wantT rfl rfl iI rfl ?_ | refine LS_wantF rfl rfl iI rfl ?_ | refine LS_wantU rfl rfl rfl ?_ | ((first | refine LS_wantS rfl rfl rfl ?_ ?_ | refine LS_wantN rfl ?_ ?_) <;> intro hc <;> (try simp only [decide_eq_true_eq, decide_eq_false_iff_not, Bool.not_eq_eq_eq_not, Bool.not_true, Bool.not_false, Bool.and_eq_true, Bool.or_eq_true, bne_iff_ne, beq_iff_eq, ne_eq, Decidable.not_not] at hc) <;> (try (exfalso; first | contradiction | omega; done)))) | ((refine' LQ ?zh rfl ?_); case zh => intro F'; first | exact Q_move rfl | exact Q_assign rfl | exact Q_fieldAddr rfl iI rfl | exact Q_load rfl iI iI rfl | exact Q_bin_t rfl rfl iI (by first | assumption | omega | decide) | exact Q_bin_f rfl rfl iI (by first | assumption | omega | decide) | exact Q_pick_t rfl iI rfl | exact Q_build iI iI rfl rfl | exact Q_makeFunc rfl rfl) | ((refine' LS_h ?zh rfl ?_); (case zh => first | exact H_alloc iI | exact H_box rfl); intro g) | ((refine' LS_h0 ?zh ?_); (case zh => exact H_storeO rfl rfl iI iI iI rfl); intro g) | (first | refine WS_block ?_ | refine WS_skip ?_ | refine WS_ret ?_ | refine WS_exit ?_ | refine WS_label ?_) | (show WS _ _ _ (.cond _ _ _) _ _; first | refine WS_condT rfl iI ?_ | refine WS_condF rfl iI ?_ | refine WS_condH_t rfl (by assumption) ?_ | refine WS_condH_f rfl (by assumption) ?_ | (refine WS_cond rfl ?_ ?_ <;> intro hc <;> (try simp only [decide_eq_true_eq, decide_eq_false_iff_not, Bool.not_eq_eq_eq_not, Bool.not_true, Bool.not_false, Bool.and_eq_true, Bool.or_eq_true, bne_iff_ne, beq_iff_eq, ne_eq, Decidable.not_not] at hc) <;> (try (exfalso; first | contradiction | omega; done)))) | refine LS_deferV0 rfl rfl rfl ?_ | (refine LS_one_t rfl iI iI rfl ?_) | (refine LS_must rfl rfl ?_ ?_ <;> (intro hc; first | (cases hc; done) | skip)) | with_reducible refine thenS_p ?_ | with_reducible refine blockS_p ?_)
  all_goals
    refine out_brk rfl rfl inferInstance inferInstance rfl rfl ?_
    exact ⟨.slice none 0 0, rfl, by ((try simp only [star_assoc, emp_star, star_emp]); (repeat' (first | exact Ent.last | refine Ent.take ?_ | refine Ent.nilT ?_ | refine Ent.takeR (by first | rfl | assumption | (simp; done)) ?_ | exact Ent.refl _)))⟩
set_option maxRecDepth 100000 in
set_option maxHeartbeats 8000000 in
theorem wdec_2 (t k f z n : UInt8) (l : List UInt8) (hl : l.length ≤ 100000) (hz : z.toNat = 0) (ht : 0 < t.toNat) (hf : f.toNat = 0) (h2 : k.toNat = 2) (v : Value) (X : HProp) [hX : Rdr w0 X v UInt8 1 byteC (t :: k :: f :: z :: n :: l)] : Spec Tryz.prog w0 79 [v] X (fun v' : Value => decV (t :: k :: f :: z :: n :: l) v') (fun v' => decH (t :: k :: f :: z :: n :: l) v' X) := by
  have hde : Pk.dec (t :: k :: f :: z :: n :: l) = if l.length = 16 then some ⟨t.toNat, 2, n.toNat, false, 0, numAt l 0, numAt l 4, numAt l 8, 0, numAt l 12, [], []⟩ else none := by
    obtain rfl := toNat_eq8 h2 (by decide); obtain rfl := toNat_eq8 hz (by decide); obtain rfl := toNat_eq8 hf (by decide)
    have ht' : t ≠ 0 := fun e => by rw [e] at ht; simp at ht
    simp [Pk.dec, Pk.body, ht']
  refine Spec.enterM Tryz.func79 rfl Tryz.ntmps79 rfl fun G => ?_
  simp only [argE]
  refine WS_formR v (inferInstance : Rdr w0 (X * G) v UInt8 1 byteC (t :: k :: f :: z :: n :: l)) fun A cap hv => ?_
  subst hv
  repeat' (first | (refine WS_seqK ?_; intro K hK) | (refine hK _ ?_; clear hK K) | refine WS_region ?_ | refine LS_nil ?_ | (show LS _ _ _ _ _ (⟨_, _, _, _, _, some _⟩ :: _) _; first | refine LS_wantT rfl rfl iI rfl ?_ | refine LS_wantF rfl rfl iI rfl ?_ | refine LS_wantU rfl rfl rfl ?_ | ((first | refine LS_wantS rfl rfl rfl ?_ ?_ | refine LS_wantN rfl ?_ ?_) <;> intro hc <;> (try simp only [decide_eq_true_eq, decide_eq_false_iff_not, Bool.not_eq_eq_eq_not, Bool.not_true, Bool.not_false, Bool.and_eq_true, Bool.or_eq_true, bne_iff_ne, beq_iff_eq, ne_eq, Decidable.not_not] at hc) <;> (try (exfalso; first | contradiction | omega; done)))) | ((refine' LQ ?zh rfl ?_); case zh => intro F'; first | exact Q_move rfl | exact Q_assign rfl | exact Q_nilCheck rfl | exact Q_fieldAddr rfl iI rfl | exact Q_load rfl iI iI rfl | exact Q_bin_t rfl rfl iI (by first | assumption | omega | decide) | exact Q_bin_f rfl rfl iI (by first | assumption | omega | decide) | exact Q_pick_t rfl iI rfl | exact Q_loadA rfl iI iI rfl | exact Q_build iI iI rfl rfl | exact Q_lenR rfl iI iI | exact Q_makeFunc rfl rfl) | ((first | refine LS_binS rfl rfl iI rfl ?_ ?_ | refine LS_binN rfl rfl iI rfl ?_ ?_ | refine DL_binS rfl rfl iI rfl ?_ ?_) <;> intro hc) | ((refine' LS_h ?zh rfl ?_); (case zh => first | exact H_alloc iI | exact H_box rfl); intro g) | ((refine' LS_h0 ?zh ?_); (case zh => first | exact H_storeO rfl rfl iI iI iI rfl | exact H_storeAO rfl rfl iI iI iI rfl); intro g) | (first | refine WS_block ?_ | refine WS_skip ?_ | refine WS_ret ?_ | refine WS_exit ?_ | refine WS_label ?_) | (show WS _ _ _ (.cond _ _ _) _ _; first | refine WS_condT rfl iI ?_ | refine WS_condF rfl iI ?_ | refine WS_condH_t rfl (by assumption) ?_ | refine WS_condH_f rfl (by assumption) ?_ | (refine WS_cond rfl ?_ ?_ <;> intro hc <;> (try simp only [decide_eq_true_eq, decide_eq_false_iff_not, Bool.not_eq_eq_eq_not, Bool.not_true, Bool.not_false, Bool.and_eq_true, Bool.or_eq_true, bne_iff_ne, beq_iff_eq, ne_eq, Decidable.not_not] at hc) <;> (try (exfalso; first | contradiction | omega; done)))) | refine LS_deferV0 rfl rfl rfl ?_ | (refine LS_one_t rfl iI iI rfl ?_) | (refine LS_four rfl iI iI rfl ?_ ?_ <;> (intro hc; try simp only [List.length_drop] at hc)) | (refine LS_must rfl rfl ?_ ?_ <;> (intro hc; first | (cases hc; done) | skip)) | with_reducible refine thenS_p ?_ | with_reducible refine blockS_p ?_)
  all_goals
    first
    | (have hd : Pk.dec (t :: k :: f :: z :: n :: l) = none := by
        rw [hde, if_neg]
        first | ((try simp only [List.length_drop] at *); omega) | (intro hcon; simp_all [numAt_dropK]; done)
       refine out_brk rfl rfl inferInstance inferInstance rfl rfl ?_
       simp only [decV, decH, hd]
       exact ⟨.slice none 0 0, rfl, by ((try simp only [star_assoc, emp_star, star_emp]); (repeat' (first | exact Ent.last | refine Ent.take ?_ | refine Ent.nilT ?_ | refine Ent.takeR (by first | rfl | assumption | (simp; done)) ?_ | exact Ent.refl _)))⟩)
    | (have hd := hde.trans (if_pos (by first | ((try simp only [List.length_drop] at *); omega) | (refine ⟨by (try simp only [List.length_drop] at *); omega, ?_⟩; simp_all [numAt_dropK]; done)))
       refine out_ok rfl rfl inferInstance inferInstance rfl ?_
       simp only [decV, decH, hd, Option.getD_some, Option.isSome_some]
       exact ⟨.slice none 0 0, by simp [Pk.val, Pk.cells, numAt_dropK, h2, *], by ((try simp only [star_assoc, emp_star, star_emp]); (repeat' (first | exact Ent.last | refine Ent.take ?_ | refine Ent.nilT ?_ | refine Ent.takeR (by first | rfl | assumption | (simp; done)) ?_ | exact Ent.refl _)))⟩)
set_option maxRecDepth 100000 in
set_option maxHeartbeats 8000000 in
theorem wdec_1a (t k f z n : UInt8) (l : List UInt8) (hl : l.length ≤ 100000) (hz : z.toNat = 0) (ht : 0 < t.toNat) (hf : f.toNat = 0) (h2 : k.toNat = 1) (v : Value) (X : HProp) [hX : Rdr w0 X v UInt8 1 byteC (t :: k :: f :: z :: n :: l)] : Spec Tryz.prog w0 79 [v] X (fun v' : Value => decV (t :: k :: f :: z :: n :: l) v') (fun v' => decH (t :: k :: f :: z :: n :: l) v' X) := by
  have hde : Pk.dec (t :: k :: f :: z :: n :: l) = if l.length = 20 then some ⟨t.toNat, 1, n.toNat, false, numAt l 0, numAt l 4, numAt l 8, numAt l 12, numAt l 16, 0, [], []⟩ else none := by
    obtain rfl := toNat_eq8 h2 (by decide); obtain rfl := toNat_eq8 hz (by decide); obtain rfl := toNat_eq8 hf (by decide)
    have ht' : t ≠ 0 := fun e => by rw [e] at ht; simp at ht
    simp [Pk.dec, Pk.body, ht']
  refine Spec.enterM Tryz.func79 rfl Tryz.ntmps79 rfl fun G => ?_
  simp only [argE]
  refine WS_formR v (inferInstance : Rdr w0 (X * G) v UInt8 1 byteC (t :: k :: f :: z :: n :: l)) fun A cap hv => ?_
  subst hv
  repeat' (first | (refine WS_seqK ?_; intro K hK) | (refine hK _ ?_; clear hK K) | refine WS_region ?_ | refine LS_nil ?_ | (show LS _ _ _ _ _ (⟨_, _, _, _, _, some _⟩ :: _) _; first | refine LS_wantT rfl rfl iI rfl ?_ | refine LS_wantF rfl rfl iI rfl ?_ | refine LS_wantU rfl rfl rfl ?_ | ((first | refine LS_wantS rfl rfl rfl ?_ ?_ | refine LS_wantN rfl ?_ ?_) <;> intro hc <;> (try simp only [decide_eq_true_eq, decide_eq_false_iff_not, Bool.not_eq_eq_eq_not, Bool.not_true, Bool.not_false, Bool.and_eq_true, Bool.or_eq_true, bne_iff_ne, beq_iff_eq, ne_eq, Decidable.not_not] at hc) <;> (try (exfalso; first | contradiction | omega; done)))) | ((refine' LQ ?zh rfl ?_); case zh => intro F'; first | exact Q_move rfl | exact Q_assign rfl | exact Q_nilCheck rfl | exact Q_fieldAddr rfl iI rfl | exact Q_load rfl iI iI rfl | exact Q_bin_t rfl rfl iI (by first | assumption | omega | decide) | exact Q_bin_f rfl rfl iI (by first | assumption | omega | decide) | exact Q_pick_t rfl iI rfl | exact Q_un rfl iI | exact Q_loadA rfl iI iI rfl | exact Q_build iI iI rfl rfl | exact Q_lenR rfl iI iI | exact Q_makeFunc rfl rfl) | ((first | refine LS_binS rfl rfl iI rfl ?_ ?_ | refine LS_binN rfl rfl iI rfl ?_ ?_ | refine DL_binS rfl rfl iI rfl ?_ ?_) <;> intro hc) | ((refine' LS_h ?zh rfl ?_); (case zh => first | exact H_alloc iI | exact H_box rfl); intro g) | ((refine' LS_h0 ?zh ?_); (case zh => first | exact H_storeO rfl rfl iI iI iI rfl | exact H_storeAO rfl rfl iI iI iI rfl); intro g) | (first | refine WS_block ?_ | refine WS_skip ?_ | refine WS_ret ?_ | refine WS_exit ?_ | refine WS_label ?_) | (show WS _ _ _ (.cond _ _ _) _ _; first | refine WS_condT rfl iI ?_ | refine WS_condF rfl iI ?_ | refine WS_condH_t rfl (by assumption) ?_ | refine WS_condH_f rfl (by assumption) ?_ | (refine WS_cond rfl ?_ ?_ <;> intro hc <;> (try simp only [decide_eq_true_eq, decide_eq_false_iff_not, Bool.not_eq_eq_eq_not, Bool.not_true, Bool.not_false, Bool.and_eq_true, Bool.or_eq_true, bne_iff_ne, beq_iff_eq, ne_eq, Decidable.not_not] at hc) <;> (try (exfalso; first | contradiction | omega; done)))) | refine LS_deferV0 rfl rfl rfl ?_ | (refine LS_one_t rfl iI iI rfl ?_) | (refine LS_four rfl iI iI rfl ?_ ?_ <;> (intro hc; try simp only [List.length_drop] at hc)) | (refine LS_must rfl rfl ?_ ?_ <;> (intro hc; first | (cases hc; done) | skip)) | with_reducible refine thenS_p ?_ | with_reducible refine blockS_p ?_)
  all_goals
    first
    | (have hd : Pk.dec (t :: k :: f :: z :: n :: l) = none := by
        rw [hde, if_neg]
        first | ((try simp only [List.length_drop] at *); omega) | (intro hcon; simp_all [numAt_dropK]; done)
       refine out_brk rfl rfl inferInstance inferInstance rfl rfl ?_
       simp only [decV, decH, hd]
       exact ⟨.slice none 0 0, rfl, by ((try simp only [star_assoc, emp_star, star_emp]); (repeat' (first | exact Ent.last | refine Ent.take ?_ | refine Ent.nilT ?_ | refine Ent.takeR (by first | rfl | assumption | (simp; done)) ?_ | exact Ent.refl _)))⟩)
    | (have hd := hde.trans (if_pos (by first | ((try simp only [List.length_drop] at *); omega) | (refine ⟨by (try simp only [List.length_drop] at *); omega, ?_⟩; simp_all [numAt_dropK]; done)))
       refine out_ok rfl rfl inferInstance inferInstance rfl ?_
       simp only [decV, decH, hd, Option.getD_some, Option.isSome_some]
       exact ⟨.slice none 0 0, by simp [Pk.val, Pk.cells, numAt_dropK, h2, *], by ((try simp only [star_assoc, emp_star, star_emp]); (repeat' (first | exact Ent.last | refine Ent.take ?_ | refine Ent.nilT ?_ | refine Ent.takeR (by first | rfl | assumption | (simp; done)) ?_ | exact Ent.refl _)))⟩)
end Go.Proofs.YtapoehkdnglahaaGreat

/- What wire.Decode returns, by a walk: the kinds. -/
namespace Go.Proofs.YtapoehkdnglahaaGreat
open Go.RowKit
set_option linter.unusedVariables false
set_option linter.unusedSectionVars false
set_option linter.unusedSimpArgs false
attribute [local irreducible] WS LS OpQ OpT OpH OpTQ Spec SpecQ SpecX DSpec cel AS sTail sHead
variable (w0 : World)
set_option maxRecDepth 100000 in
set_option maxHeartbeats 8000000 in
theorem wdec_1b (t k f z n : UInt8) (l : List UInt8) (hl : l.length ≤ 100000) (hz : z.toNat = 0) (ht : 0 < t.toNat) (hf : f.toNat = 8) (h2 : k.toNat = 1) (v : Value) (X : HProp) [hX : Rdr w0 X v UInt8 1 byteC (t :: k :: f :: z :: n :: l)] : Spec Tryz.prog w0 79 [v] X (fun v' : Value => decV (t :: k :: f :: z :: n :: l) v') (fun v' => decH (t :: k :: f :: z :: n :: l) v' X) := by
  have hde : Pk.dec (t :: k :: f :: z :: n :: l) = if l.length = 20 ∧ numAt l 8 = 0 then some ⟨t.toNat, 1, n.toNat, true, numAt l 0, numAt l 4, numAt l 8, numAt l 12, numAt l 16, 0, [], []⟩ else none := by
    obtain rfl := toNat_eq8 h2 (by decide); obtain rfl := toNat_eq8 hz (by decide); obtain rfl := toNat_eq8 hf (by decide)
    have ht' : t ≠ 0 := fun e => by rw [e] at ht; simp at ht
    simp [Pk.dec, Pk.body, ht']
  refine Spec.enterM Tryz.func79 rfl Tryz.ntmps79 rfl fun G => ?_
  simp only [argE]
  refine WS_formR v (inferInstance : Rdr w0 (X * G) v UInt8 1 byteC (t :: k :: f :: z :: n :: l)) fun A cap hv => ?_
  subst hv
  repeat' (first | (refine WS_seqK ?_; intro K hK) | (refine hK _ ?_; clear hK K) | refine WS_region ?_ | refine LS_nil ?_ | (show LS _ _ _ _ _ (⟨_, _, _, _, _, some _⟩ :: _) _; first | refine LS_wantT rfl rfl iI rfl ?_ | refine LS_wantF rfl rfl iI rfl ?_ | refine LS_wantU rfl rfl rfl ?_ | ((first | refine LS_wantS rfl rfl rfl ?_ ?_ | refine LS_wantN rfl ?_ ?_) <;> intro hc <;> (try simp only [decide_eq_true_eq, decide_eq_false_iff_not, Bool.not_eq_eq_eq_not, Bool.not_true, Bool.not_false, Bool.and_eq_true, Bool.or_eq_true, bne_iff_ne, beq_iff_eq, ne_eq, Decidable.not_not] at hc) <;> (try (exfalso; first | contradiction | omega; done)))) | ((refine' LQ ?zh rfl ?_); case zh => intro F'; first | exact Q_move rfl | exact Q_assign rfl | exact Q_nilCheck rfl | exact Q_fieldAddr rfl iI rfl | exact Q_load rfl iI iI rfl | exact Q_bin_t rfl rfl iI (by first | assumption | omega | decide) | exact Q_bin_f rfl rfl iI (by first | assumption | omega | decide) | exact Q_pick_t rfl iI rfl | exact Q_pick_f rfl iI rfl | exact Q_un rfl iI | exact Q_loadA rfl iI iI rfl | exact Q_build iI iI rfl rfl | exact Q_lenR rfl iI iI | exact Q_makeFunc rfl rfl) | ((first | refine LS_binS rfl rfl iI rfl ?_ ?_ | refine LS_binN rfl rfl iI rfl ?_ ?_ | refine DL_binS rfl rfl iI rfl ?_ ?_) <;> intro hc) | ((refine' LS_h ?zh rfl ?_); (case zh => first | exact H_alloc iI | exact H_box rfl); intro g) | ((refine' LS_h0 ?zh ?_); (case zh => first | exact H_storeO rfl rfl iI iI iI rfl | exact H_storeAO rfl rfl iI iI iI rfl); intro g) | (first | refine WS_block ?_ | refine WS_skip ?_ | refine WS_ret ?_ | refine WS_exit ?_ | refine WS_label ?_) | (show WS _ _ _ (.cond _ _ _) _ _; first | refine WS_condT rfl iI ?_ | refine WS_condF rfl iI ?_ | refine WS_condH_t rfl (by assumption) ?_ | refine WS_condH_f rfl (by assumption) ?_ | (refine WS_cond rfl ?_ ?_ <;> intro hc <;> (try simp only [decide_eq_true_eq, decide_eq_false_iff_not, Bool.not_eq_eq_eq_not, Bool.not_true, Bool.not_false, Bool.and_eq_true, Bool.or_eq_true, bne_iff_ne, beq_iff_eq, ne_eq, Decidable.not_not] at hc) <;> (try (exfalso; first | contradiction | omega; done)))) | refine LS_deferV0 rfl rfl rfl ?_ | (refine LS_one_t rfl iI iI rfl ?_) | (refine LS_four rfl iI iI rfl ?_ ?_ <;> (intro hc; try simp only [List.length_drop] at hc)) | (refine LS_must rfl rfl ?_ ?_ <;> (intro hc; first | (cases hc; done) | skip)) | with_reducible refine thenS_p ?_ | with_reducible refine blockS_p ?_)
  all_goals
    first
    | (have hd : Pk.dec (t :: k :: f :: z :: n :: l) = none := by
        rw [hde, if_neg]
        first | ((try simp only [List.length_drop] at *); omega) | (intro hcon; simp_all [numAt_dropK]; done)
       refine out_brk rfl rfl inferInstance inferInstance rfl rfl ?_
       simp only [decV, decH, hd]
       exact ⟨.slice none 0 0, rfl, by ((try simp only [star_assoc, emp_star, star_emp]); (repeat' (first | exact Ent.last | refine Ent.take ?_ | refine Ent.nilT ?_ | refine Ent.takeR (by first | rfl | assumption | (simp; done)) ?_ | exact Ent.refl _)))⟩)
    | (have hd := hde.trans (if_pos (by first | ((try simp only [List.length_drop] at *); omega) | (refine ⟨by (try simp only [List.length_drop] at *); omega, ?_⟩; simp_all [numAt_dropK]; done)))
       refine out_ok rfl rfl inferInstance inferInstance rfl ?_
       simp only [decV, decH, hd, Option.getD_some, Option.isSome_some]
       exact ⟨.slice none 0 0, by simp [Pk.val, Pk.cells, numAt_dropK, h2, *], by ((try simp only [star_assoc, emp_star, star_emp]); (repeat' (first | exact Ent.last | refine Ent.take ?_ | refine Ent.nilT ?_ | refine Ent.takeR (by first | rfl | assumption | (simp; done)) ?_ | exact Ent.refl _)))⟩)
set_option maxRecDepth 100000 in
set_option maxHeartbeats 8000000 in
theorem wdec_9 (t k f z n : UInt8) (l : List UInt8) (hl : l.length ≤ 100000) (hz : z.toNat = 0) (ht : 0 < t.toNat) (hf : f.toNat = 0) (h2 : k.toNat = 9) (v : Value) (X : HProp) [hX : Rdr w0 X v UInt8 1 byteC (t :: k :: f :: z :: n :: l)] : Spec Tryz.prog w0 79 [v] X (fun v' : Value => decV (t :: k :: f :: z :: n :: l) v') (fun v' => decH (t :: k :: f :: z :: n :: l) v' X) := by
  have hde : Pk.dec (t :: k :: f :: z :: n :: l) = if n.toNat ≤ 16 ∧ l.length = 12 + n.toNat then some ⟨t.toNat, 9, 0, false, numAt l 0, numAt l 4, 0, numAt l 8, 0, 0, [], l.drop 12⟩ else none := by
    obtain rfl := toNat_eq8 h2 (by decide); obtain rfl := toNat_eq8 hz (by decide); obtain rfl := toNat_eq8 hf (by decide)
    have ht' : t ≠ 0 := fun e => by rw [e] at ht; simp at ht
    simp [Pk.dec, Pk.body, ht']
  refine Spec.enterM Tryz.func79 rfl Tryz.ntmps79 rfl fun G => ?_
  simp only [argE]
  refine WS_formR v (inferInstance : Rdr w0 (X * G) v UInt8 1 byteC (t :: k :: f :: z :: n :: l)) fun A cap hv => ?_
  subst hv
  repeat' (first | (refine WS_seqK ?_; intro K hK) | (refine hK _ ?_; clear hK K) | refine WS_region ?_ | refine LS_nil ?_ | (show LS _ _ _ _ _ (⟨_, _, _, _, _, some _⟩ :: _) _; first | refine LS_wantT rfl rfl iI rfl ?_ | refine LS_wantF rfl rfl iI rfl ?_ | refine LS_wantU rfl rfl rfl ?_ | ((first | refine LS_wantS rfl rfl rfl ?_ ?_ | refine LS_wantN rfl ?_ ?_) <;> intro hc <;> (try simp only [decide_eq_true_eq, decide_eq_false_iff_not, Bool.not_eq_eq_eq_not, Bool.not_true, Bool.not_false, Bool.and_eq_true, Bool.or_eq_true, bne_iff_ne, beq_iff_eq, ne_eq, Decidable.not_not] at hc) <;> (try (exfalso; first | contradiction | omega; done)))) | ((refine' LQ ?zh rfl ?_); case zh => intro F'; first | exact Q_move rfl | exact Q_assign rfl | exact Q_nilCheck rfl | exact Q_fieldAddr rfl iI rfl | exact Q_load rfl iI iI rfl | exact Q_bin_t rfl rfl iI (by first | assumption | omega | decide) | exact Q_bin_f rfl rfl iI (by first | assumption | omega | decide) | exact Q_pick_t rfl iI rfl | exact Q_loadA rfl iI iI rfl | exact Q_build iI iI rfl rfl | exact Q_lenR rfl iI iI | exact Q_convS rfl iI rfl iI iI iI | exact Q_makeFunc rfl rfl) | ((first | refine LS_binS rfl rfl iI rfl ?_ ?_ | refine LS_binN rfl rfl iI rfl ?_ ?_ | refine DL_binS rfl rfl iI rfl ?_ ?_) <;> intro hc) | ((refine' LS_h ?zh rfl ?_); (case zh => first | exact H_alloc iI | exact H_box rfl); intro g) | ((refine' LS_h0 ?zh ?_); (case zh => first | exact H_storeO rfl rfl iI iI iI rfl | exact H_storeAO rfl rfl iI iI iI rfl); intro g) | (first | refine WS_block ?_ | refine WS_skip ?_ | refine WS_ret ?_ | refine WS_exit ?_ | refine WS_label ?_) | (show WS _ _ _ (.cond _ _ _) _ _; first | refine WS_condT rfl iI ?_ | refine WS_condF rfl iI ?_ | refine WS_condH_t rfl (by assumption) ?_ | refine WS_condH_f rfl (by assumption) ?_ | (refine WS_cond rfl ?_ ?_ <;> intro hc <;> (try simp only [decide_eq_true_eq, decide_eq_false_iff_not, Bool.not_eq_eq_eq_not, Bool.not_true, Bool.not_false, Bool.and_eq_true, Bool.or_eq_true, bne_iff_ne, beq_iff_eq, ne_eq, Decidable.not_not] at hc) <;> (try (exfalso; first | contradiction | omega; done)))) | refine LS_deferV0 rfl rfl rfl ?_ | (refine LS_one_t rfl iI iI rfl ?_) | (refine LS_four rfl iI iI rfl ?_ ?_ <;> (intro hc; try simp only [List.length_drop] at hc)) | (refine LS_take rfl iI iI iI rfl ?_ ?_ <;> (intro hc; try simp only [List.length_drop] at hc)) | (refine LS_must rfl rfl ?_ ?_ <;> (intro hc; first | (cases hc; done) | skip)) | with_reducible refine thenS_p ?_ | with_reducible refine blockS_p ?_)
  all_goals
    first
    | (have hd : Pk.dec (t :: k :: f :: z :: n :: l) = none := by
        rw [hde, if_neg]
        first | ((try simp only [List.length_drop] at *); omega) | (intro hcon; simp_all [numAt_dropK]; done)
       refine out_brk rfl rfl inferInstance inferInstance rfl rfl ?_
       simp only [decV, decH, hd]
       exact ⟨.slice none 0 0, rfl, by ((try simp only [star_assoc, emp_star, star_emp]); (repeat' (first | exact Ent.last | refine Ent.take ?_ | refine Ent.nilT ?_ | refine Ent.takeR (by first | rfl | assumption | (simp; done)) ?_ | exact Ent.refl _)))⟩)
    | (have hd := hde.trans (if_pos (by first | ((try simp only [List.length_drop] at *); omega) | (refine ⟨by (try simp only [List.length_drop] at *); omega, ?_⟩; simp_all [numAt_dropK]; done)))
       have e12 : (l.drop 12).take n.toNat = l.drop 12 := List.take_of_length_le (by (try simp only [List.length_drop] at *); omega)
       refine out_ok rfl rfl inferInstance inferInstance rfl ?_
       simp only [decV, decH, hd, Option.getD_some, Option.isSome_some]
       exact ⟨.slice none 0 0, by simp [Pk.val, Pk.cells, numAt_dropK, h2, *], by ((try simp only [star_assoc, emp_star, star_emp]); (repeat' (first | exact Ent.last | refine Ent.take ?_ | refine Ent.nilT ?_ | refine Ent.takeR (by first | rfl | assumption | (simp; done)) ?_ | exact Ent.refl _)))⟩)
end Go.Proofs.YtapoehkdnglahaaGreat

/- What wire.Decode returns, by a walk: the kinds. -/
namespace Go.Proofs.YtapoehkdnglahaaGreat
open Go.RowKit
set_option linter.unusedVariables false
set_option linter.unusedSectionVars false
set_option linter.unusedSimpArgs false
attribute [local irreducible] WS LS OpQ OpT OpH OpTQ Spec SpecQ SpecX DSpec cel AS sTail sHead
variable (w0 : World)
set_option maxRecDepth 100000 in
set_option maxHeartbeats 8000000 in
theorem wdec_3 (t k f z n : UInt8) (l : List UInt8) (hl : l.length ≤ 100000) (hz : z.toNat = 0) (ht : 0 < t.toNat) (hf : f.toNat = 0) (h2 : k.toNat = 3) (v : Value) (X : HProp) [hX : Rdr w0 X v UInt8 1 byteC (t :: k :: f :: z :: n :: l)] : Spec Tryz.prog w0 79 [v] X (fun v' : Value => decV (t :: k :: f :: z :: n :: l) v') (fun v' => decH (t :: k :: f :: z :: n :: l) v' X) := by
  have hde : Pk.dec (t :: k :: f :: z :: n :: l) = if 1 ≤ n.toNat ∧ n.toNat ≤ 8 ∧ l.length = 8 * n.toNat then some ⟨t.toNat, 3, 0, false, 0, 0, 0, 0, 0, 0, lostsAt l n.toNat, []⟩ else none := by
    obtain rfl := toNat_eq8 h2 (by decide); obtain rfl := toNat_eq8 hz (by decide); obtain rfl := toNat_eq8 hf (by decide)
    have ht' : t ≠ 0 := fun e => by rw [e] at ht; simp at ht
    simp [Pk.dec, Pk.body, ht']
  refine Spec.enterM Tryz.func79 rfl Tryz.ntmps79 rfl fun G => ?_
  simp only [argE]
  refine WS_formR v (inferInstance : Rdr w0 (X * G) v UInt8 1 byteC (t :: k :: f :: z :: n :: l)) fun A cap hv => ?_
  subst hv
  repeat' (first | (refine WS_seqK ?_; intro K hK) | (refine hK _ ?_; clear hK K) | refine WS_region ?_ | refine LS_nil ?_ | (show LS _ _ _ _ _ (⟨_, _, _, _, _, some _⟩ :: _) _; first | refine LS_wantT rfl rfl iI rfl ?_ | refine LS_wantF rfl rfl iI rfl ?_ | refine LS_wantU rfl rfl rfl ?_ | ((first | refine LS_wantS rfl rfl rfl ?_ ?_ | refine LS_wantN rfl ?_ ?_) <;> intro hc <;> (try simp only [decide_eq_true_eq, decide_eq_false_iff_not, Bool.not_eq_eq_eq_not, Bool.not_true, Bool.not_false, Bool.and_eq_true, Bool.or_eq_true, bne_iff_ne, beq_iff_eq, ne_eq, Decidable.not_not] at hc) <;> (try (exfalso; first | contradiction | omega; done)))) | ((refine' LQ ?zh rfl ?_); case zh => intro F'; first | exact Q_move rfl | exact Q_assign rfl | exact Q_fieldAddr rfl iI rfl | exact Q_load rfl iI iI rfl | exact Q_bin_t rfl rfl iI (by first | assumption | omega | decide) | exact Q_bin_f rfl rfl iI (by first | assumption | omega | decide) | exact Q_pick_t rfl iI rfl | exact Q_pick_f rfl iI rfl | exact Q_build iI iI rfl rfl | exact Q_makeFunc rfl rfl) | ((first | refine LS_binS rfl rfl iI rfl ?_ ?_ | refine LS_binN rfl rfl iI rfl ?_ ?_ | refine DL_binS rfl rfl iI rfl ?_ ?_) <;> intro hc) | ((refine' LS_h ?zh rfl ?_); (case zh => first | exact H_alloc iI | exact H_box rfl); intro g) | ((refine' LS_h0 ?zh ?_); (case zh => exact H_storeO rfl rfl iI iI iI rfl); intro g) | (first | refine WS_block ?_ | refine WS_skip ?_ | refine WS_ret ?_ | refine WS_exit ?_ | refine WS_label ?_) | (show WS _ _ _ (.cond _ _ _) _ _; first | refine WS_condT rfl iI ?_ | refine WS_condF rfl iI ?_ | refine WS_condH_t rfl (by assumption) ?_ | refine WS_condH_f rfl (by assumption) ?_ | (refine WS_cond rfl ?_ ?_ <;> intro hc <;> (try simp only [decide_eq_true_eq, decide_eq_false_iff_not, Bool.not_eq_eq_eq_not, Bool.not_true, Bool.not_false, Bool.and_eq_true, Bool.or_eq_true, bne_iff_ne, beq_iff_eq, ne_eq, Decidable.not_not] at hc) <;> (try (exfalso; first | contradiction | omega; done)))) | refine LS_deferV0 rfl rfl rfl ?_ | (refine LS_one_t rfl iI iI rfl ?_) | (refine LS_must rfl rfl ?_ ?_ <;> (intro hc; first | (cases hc; done) | skip)) | with_reducible refine thenS_p ?_ | with_reducible refine blockS_p ?_)
  rotate_left
  · have hd : Pk.dec (t :: k :: f :: z :: n :: l) = none := by rw [hde, if_neg]; omega
    refine out_brk rfl rfl inferInstance inferInstance rfl rfl ?_
    simp only [decV, decH, hd]
    exact ⟨.slice none 0 0, rfl, by ((try simp only [star_assoc, emp_star, star_emp]); (repeat' (first | exact Ent.last | refine Ent.take ?_ | refine Ent.nilT ?_ | refine Ent.takeR (by first | rfl | assumption | (simp; done)) ?_ | exact Ent.refl _)))⟩
  · have hd : Pk.dec (t :: k :: f :: z :: n :: l) = none := by rw [hde, if_neg]; omega
    refine out_brk rfl rfl inferInstance inferInstance rfl rfl ?_
    simp only [decV, decH, hd]
    exact ⟨.slice none 0 0, rfl, by ((try simp only [star_assoc, emp_star, star_emp]); (repeat' (first | exact Ent.last | refine Ent.take ?_ | refine Ent.nilT ?_ | refine Ent.takeR (by first | rfl | assumption | (simp; done)) ?_ | exact Ent.refl _)))⟩
  rename_i p q gg u1 u2 hm1 hn1 hn8
  refine WS_loop (fun m τ => ∃ (i : Nat) (v' vl : Value), i + m = n.toNat ∧ 8 * i ≤ l.length ∧ Rdr w0 X v' UInt8 1 byteC (l.drop (8 * i)) ∧ τ = ⟨[(103, .int .i64 (i : Int)), (102, .int .i64 (n.toNat : Int)), (2, ptr p 0), (3, ptr q 0), (4, ptr gg 0)], [⟨.fn (.func 138) ([ptr p 0, ptr q 0] : List Value).toArray, ([] : List Value).toArray⟩], rows 145 2 lostC vl (lostsAt l i) * (cel gg 242 [v'] * (cel p 46 [.int .i64 (t.toNat : Int), .int .i64 (k.toNat : Int), .int .i64 0, .bool false, u32 0, u32 0, u32 0, u32 0, u32 0, u32 0, vl, strV []] * (cel q 4 [.bool false] * (X * G))))⟩) ?_ ?_
  · refine ⟨n.toNat, _, ⟨0, _, .slice none 0 0, by omega, by omega, (inferInstance : Rdr w0 X (sTail 1 (sTail 1 (sTail 1 (sTail 1 (sTail 1 (.slice A (t :: k :: f :: z :: n :: l).length cap) 1) 1) 1) 1) 1) UInt8 1 byteC l), rfl⟩, ⟨rfl, rfl, rfl, rfl, rfl, trivial⟩, rfl, ?_⟩
    refine Ent.nilT ?_
    ((try simp only [star_assoc, emp_star, star_emp]); (repeat' (first | exact Ent.last | refine Ent.take ?_ | refine Ent.nilT ?_ | refine Ent.takeR (by first | rfl | assumption | (simp; done)) ?_ | exact Ent.refl _)))
  · rintro m τ ⟨i, v', vl, him, hi8, hR, rfl⟩
    have hdl : (l.drop (8 * i)).length = l.length - 8 * i := by simp
    have hdl4 : ((l.drop (8 * i)).drop 4).length = l.length - 8 * i - 4 := by simp; omega
    rcases Nat.lt_or_ge i n.toNat with hlt | hge
    · rcases Nat.lt_or_ge (l.length - 8 * i) 8 with h8 | h8
      · have hd : Pk.dec (t :: k :: f :: z :: n :: l) = none := by rw [hde, if_neg]; omega
        rcases Nat.lt_or_ge (l.length - 8 * i) 4 with h4 | h4
        · have hx := four_f w0 (l.drop (8 * i)) v' gg X (by omega)
          repeat' (first | (refine WS_seqK ?_; intro K hK) | (refine hK _ ?_; clear hK K) | refine WS_region ?_ | refine LS_nil ?_ | ((refine' LQ ?zh rfl ?_); case zh => intro F'; exact Q_bin_t rfl rfl iI (by first | assumption | omega | decide)) | (first | refine WS_block ?_ | refine WS_skip ?_ | refine WS_ret ?_ | refine WS_exit ?_ | refine WS_label ?_) | (show WS _ _ _ (.cond _ _ _) _ _; first | refine WS_condT rfl iI ?_ | refine WS_condF rfl iI ?_ | refine WS_condH_t rfl (by assumption) ?_ | refine WS_condH_f rfl (by assumption) ?_ | (refine WS_cond rfl ?_ ?_ <;> intro hc <;> (try simp only [decide_eq_true_eq, decide_eq_false_iff_not, Bool.not_eq_eq_eq_not, Bool.not_true, Bool.not_false, Bool.and_eq_true, Bool.or_eq_true, bne_iff_ne, beq_iff_eq, ne_eq, Decidable.not_not] at hc) <;> (try (exfalso; first | contradiction | omega; done)))))
          refine WS_drawAny (by kernel_rfl) ?_
          refine AS_step (r := [0, 2, 4]) (by kernel_rfl) rfl rfl ⟨?_, ?_, ?_, trivial⟩
          refine AO_q rfl (Q_fieldAddr rfl inferInstance rfl) rfl ?_
          refine AS_step (r := [1, 2, 4]) (by kernel_rfl) rfl rfl ⟨?_, ?_, ?_, trivial⟩
          refine AO_q rfl (Q_load rfl inferInstance inferInstance rfl) rfl ?_
          refine AS_step (r := [2, 4]) (by kernel_rfl) rfl rfl ⟨?_, ?_, trivial⟩
          refine AO_q rfl (Q_move rfl) rfl ?_
          refine AS_step (r := [3, 4]) (by kernel_rfl) rfl rfl ⟨?_, ?_, trivial⟩
          refine AO_x rfl inferInstance rfl hx inferInstance ?_; rotate_left
          refine AO_q rfl (Q_move rfl) rfl ?_
          refine AS_step (r := [3]) (by kernel_rfl) rfl rfl ⟨?_, trivial⟩
          refine AO_x rfl inferInstance rfl hx inferInstance ?_; rotate_left
          refine AO_q rfl (Q_move rfl) rfl ?_
          refine AS_step (r := [2]) (by kernel_rfl) rfl rfl ⟨?_, trivial⟩
          refine AO_q rfl (Q_move rfl) rfl ?_
          refine AS_step (r := [3]) (by kernel_rfl) rfl rfl ⟨?_, trivial⟩
          refine AO_x rfl inferInstance rfl hx inferInstance ?_; rotate_left
          refine AO_q rfl (Q_move rfl) rfl ?_
          refine AS_step (r := [1, 3, 4]) (by kernel_rfl) rfl rfl ⟨?_, ?_, ?_, trivial⟩
          refine AO_q rfl (Q_load rfl inferInstance inferInstance rfl) rfl ?_
          refine AS_step (r := [3, 4]) (by kernel_rfl) rfl rfl ⟨?_, ?_, trivial⟩
          refine AO_x rfl inferInstance rfl hx inferInstance ?_; rotate_left
          refine AO_q rfl (Q_move rfl) rfl ?_
          refine AS_step (r := [3]) (by kernel_rfl) rfl rfl ⟨?_, trivial⟩
          refine AO_x rfl inferInstance rfl hx inferInstance ?_; rotate_left
          refine AO_x rfl inferInstance rfl hx inferInstance ?_; rotate_left
          refine AO_q rfl (Q_move rfl) rfl ?_
          refine AS_step (r := [1, 3]) (by kernel_rfl) rfl rfl ⟨?_, ?_, trivial⟩
          refine AO_q rfl (Q_load rfl inferInstance inferInstance rfl) rfl ?_
          refine AS_step (r := [3]) (by kernel_rfl) rfl rfl ⟨?_, trivial⟩
          refine AO_x rfl inferInstance rfl hx inferInstance ?_; rotate_left
          refine AO_x rfl inferInstance rfl hx inferInstance ?_; rotate_left
          refine AO_q rfl (Q_move rfl) rfl ?_
          refine AS_step (r := [1, 2]) (by kernel_rfl) rfl rfl ⟨?_, ?_, trivial⟩
          refine AO_q rfl (Q_load rfl inferInstance inferInstance rfl) rfl ?_
          refine AS_step (r := [2]) (by kernel_rfl) rfl rfl ⟨?_, trivial⟩
          refine AO_q rfl (Q_move rfl) rfl ?_
          refine AS_step (r := [3]) (by kernel_rfl) rfl rfl ⟨?_, trivial⟩
          refine AO_x rfl inferInstance rfl hx inferInstance ?_; rotate_left
          refine AO_q rfl (Q_move rfl) rfl ?_
          refine AS_step (r := [1, 3]) (by kernel_rfl) rfl rfl ⟨?_, ?_, trivial⟩
          refine AO_q rfl (Q_load rfl inferInstance inferInstance rfl) rfl ?_
          refine AS_step (r := [3]) (by kernel_rfl) rfl rfl ⟨?_, trivial⟩
          refine AO_x rfl inferInstance rfl hx inferInstance ?_; rotate_left
          refine AO_x rfl inferInstance rfl hx inferInstance ?_; rotate_left
          refine AO_q rfl (Q_move rfl) rfl ?_
          refine AS_step (r := [0, 3, 4]) (by kernel_rfl) rfl rfl ⟨?_, ?_, ?_, trivial⟩
          refine AO_q rfl (Q_fieldAddr rfl inferInstance rfl) rfl ?_
          refine AS_step (r := [1, 3, 4]) (by kernel_rfl) rfl rfl ⟨?_, ?_, ?_, trivial⟩
          refine AO_q rfl (Q_load rfl inferInstance inferInstance rfl) rfl ?_
          refine AS_step (r := [3, 4]) (by kernel_rfl) rfl rfl ⟨?_, ?_, trivial⟩
          refine AO_x rfl inferInstance rfl hx inferInstance ?_; rotate_left
          refine AO_q rfl (Q_move rfl) rfl ?_
          refine AS_step (r := [3]) (by kernel_rfl) rfl rfl ⟨?_, trivial⟩
          refine AO_x rfl inferInstance rfl hx inferInstance ?_; rotate_left
          refine AO_x rfl inferInstance rfl hx inferInstance ?_; rotate_left
          refine AO_q rfl (Q_move rfl) rfl ?_
          refine AS_step (r := [1, 3]) (by kernel_rfl) rfl rfl ⟨?_, ?_, trivial⟩
          refine AO_q rfl (Q_load rfl inferInstance inferInstance rfl) rfl ?_
          refine AS_step (r := [3]) (by kernel_rfl) rfl rfl ⟨?_, trivial⟩
          refine AO_x rfl inferInstance rfl hx inferInstance ?_; rotate_left
          refine AO_x rfl inferInstance rfl hx inferInstance ?_; rotate_left
          refine AO_x rfl inferInstance rfl hx inferInstance ?_; rotate_left
          refine AO_q rfl (Q_move rfl) rfl ?_
          refine AS_step (r := [0, 3]) (by kernel_rfl) rfl rfl ⟨?_, ?_, trivial⟩
          refine AO_q rfl (Q_fieldAddr rfl inferInstance rfl) rfl ?_
          refine AS_step (r := [1, 3]) (by kernel_rfl) rfl rfl ⟨?_, ?_, trivial⟩
          refine AO_q rfl (Q_load rfl inferInstance inferInstance rfl) rfl ?_
          refine AS_step (r := [3]) (by kernel_rfl) rfl rfl ⟨?_, trivial⟩
          refine AO_x rfl inferInstance rfl hx inferInstance ?_; rotate_left
          refine AO_x rfl inferInstance rfl hx inferInstance ?_; rotate_left
          refine AO_x rfl inferInstance rfl hx inferInstance ?_; rotate_left
          refine AO_q rfl (Q_move rfl) rfl ?_
          refine AS_step (r := [0, 2]) (by kernel_rfl) rfl rfl ⟨?_, ?_, trivial⟩
          refine AO_q rfl (Q_fieldAddr rfl inferInstance rfl) rfl ?_
          refine AS_step (r := [1, 2]) (by kernel_rfl) rfl rfl ⟨?_, ?_, trivial⟩
          refine AO_q rfl (Q_load rfl inferInstance inferInstance rfl) rfl ?_
          refine AS_step (r := [2]) (by kernel_rfl) rfl rfl ⟨?_, trivial⟩
          refine AO_q rfl (Q_move rfl) rfl ?_
          refine AS_step (r := [3]) (by kernel_rfl) rfl rfl ⟨?_, trivial⟩
          refine AO_x rfl inferInstance rfl hx inferInstance ?_; rotate_left
          refine AO_q rfl (Q_move rfl) rfl ?_
          refine AS_step (r := [1, 3]) (by kernel_rfl) rfl rfl ⟨?_, ?_, trivial⟩
          refine AO_q rfl (Q_load rfl inferInstance inferInstance rfl) rfl ?_
          refine AS_step (r := [3]) (by kernel_rfl) rfl rfl ⟨?_, trivial⟩
          refine AO_x rfl inferInstance rfl hx inferInstance ?_; rotate_left
          refine AO_x rfl inferInstance rfl hx inferInstance ?_; rotate_left
          refine AO_q rfl (Q_move rfl) rfl ?_
          refine AS_step (r := [0, 3]) (by kernel_rfl) rfl rfl ⟨?_, ?_, trivial⟩
          refine AO_q rfl (Q_fieldAddr rfl inferInstance rfl) rfl ?_
          refine AS_step (r := [1, 3]) (by kernel_rfl) rfl rfl ⟨?_, ?_, trivial⟩
          refine AO_q rfl (Q_load rfl inferInstance inferInstance rfl) rfl ?_
          refine AS_step (r := [3]) (by kernel_rfl) rfl rfl ⟨?_, trivial⟩
          refine AO_x rfl inferInstance rfl hx inferInstance ?_; rotate_left
          refine AO_x rfl inferInstance rfl hx inferInstance ?_; rotate_left
          refine AO_x rfl inferInstance rfl hx inferInstance ?_; rotate_left
          all_goals
            repeat' (first | with_reducible refine thenS_p ?_ | with_reducible refine blockS_p ?_)
            refine out_brk rfl rfl inferInstance inferInstance rfl rfl ?_
            simp only [decV, decH, hd]
            exact ⟨.slice none 0 0, rfl, by ((try simp only [star_assoc, emp_star, star_emp]); (repeat' (first | exact Ent.last | refine Ent.take ?_ | refine Ent.nilT ?_ | refine Ent.takeR (by first | rfl | assumption | (simp; done)) ?_ | exact Ent.refl _)))⟩
        · have hf1 := four_t w0 (l.drop (8 * i)) v' gg X (by omega)
          have hx := four_f w0 ((l.drop (8 * i)).drop 4) (sTail 1 v' 4) gg X (by omega)
          repeat' (first | (refine WS_seqK ?_; intro K hK) | (refine hK _ ?_; clear hK K) | refine WS_region ?_ | refine LS_nil ?_ | ((refine' LQ ?zh rfl ?_); case zh => intro F'; exact Q_bin_t rfl rfl iI (by first | assumption | omega | decide)) | (first | refine WS_block ?_ | refine WS_skip ?_ | refine WS_ret ?_ | refine WS_exit ?_ | refine WS_label ?_) | (show WS _ _ _ (.cond _ _ _) _ _; first | refine WS_condT rfl iI ?_ | refine WS_condF rfl iI ?_ | refine WS_condH_t rfl (by assumption) ?_ | refine WS_condH_f rfl (by assumption) ?_ | (refine WS_cond rfl ?_ ?_ <;> intro hc <;> (try simp only [decide_eq_true_eq, decide_eq_false_iff_not, Bool.not_eq_eq_eq_not, Bool.not_true, Bool.not_false, Bool.and_eq_true, Bool.or_eq_true, bne_iff_ne, beq_iff_eq, ne_eq, Decidable.not_not] at hc) <;> (try (exfalso; first | contradiction | omega; done)))))
          refine WS_drawAny (by kernel_rfl) ?_
          refine AS_step (r := [0, 2, 4]) (by kernel_rfl) rfl rfl ⟨?_, ?_, ?_, trivial⟩
          refine AO_q rfl (Q_fieldAddr rfl inferInstance rfl) rfl ?_
          refine AS_step (r := [1, 2, 4]) (by kernel_rfl) rfl rfl ⟨?_, ?_, ?_, trivial⟩
          refine AO_q rfl (Q_load rfl inferInstance inferInstance rfl) rfl ?_
          refine AS_step (r := [2, 4]) (by kernel_rfl) rfl rfl ⟨?_, ?_, trivial⟩
          refine AO_q rfl (Q_move rfl) rfl ?_
          refine AS_step (r := [3, 4]) (by kernel_rfl) rfl rfl ⟨?_, ?_, trivial⟩
          refine AO_h rfl (H_callX inferInstance rfl hf1 inferInstance) rfl fun u => ?_
          refine AS_step (r := [4]) (by kernel_rfl) rfl rfl ⟨?_, trivial⟩
          refine AO_q rfl (Q_move rfl) rfl ?_
          refine AS_step (r := [5]) (by kernel_rfl) rfl rfl ⟨?_, trivial⟩
          refine AO_x rfl inferInstance rfl hx inferInstance ?_; rotate_left
          refine AO_q rfl (Q_move rfl) rfl ?_
          refine AS_step (r := [3]) (by kernel_rfl) rfl rfl ⟨?_, trivial⟩
          refine AO_h rfl (H_callX inferInstance rfl hf1 inferInstance) rfl fun u => ?_
          refine AS_step (r := [5]) (by kernel_rfl) rfl rfl ⟨?_, trivial⟩
          refine AO_x rfl inferInstance rfl hx inferInstance ?_; rotate_left
          refine AO_q rfl (Q_move rfl) rfl ?_
          refine AS_step (r := [2]) (by kernel_rfl) rfl rfl ⟨?_, trivial⟩
          refine AO_q rfl (Q_move rfl) rfl ?_
          refine AS_step (r := [3]) (by kernel_rfl) rfl rfl ⟨?_, trivial⟩
          refine AO_h rfl (H_callX inferInstance rfl hf1 inferInstance) rfl fun u => ?_
          refine AS_step (r := [5]) (by kernel_rfl) rfl rfl ⟨?_, trivial⟩
          refine AO_x rfl inferInstance rfl hx inferInstance ?_; rotate_left
          refine AO_q rfl (Q_move rfl) rfl ?_
          refine AS_step (r := [1, 3, 4]) (by kernel_rfl) rfl rfl ⟨?_, ?_, ?_, trivial⟩
          refine AO_q rfl (Q_load rfl inferInstance inferInstance rfl) rfl ?_
          refine AS_step (r := [3, 4]) (by kernel_rfl) rfl rfl ⟨?_, ?_, trivial⟩
          refine AO_h rfl (H_callX inferInstance rfl hf1 inferInstance) rfl fun u => ?_
          refine AS_step (r := [4]) (by kernel_rfl) rfl rfl ⟨?_, trivial⟩
          refine AO_q rfl (Q_move rfl) rfl ?_
          refine AS_step (r := [5]) (by kernel_rfl) rfl rfl ⟨?_, trivial⟩
          refine AO_x rfl inferInstance rfl hx inferInstance ?_; rotate_left
          refine AO_q rfl (Q_move rfl) rfl ?_
          refine AS_step (r := [3]) (by kernel_rfl) rfl rfl ⟨?_, trivial⟩
          refine AO_h rfl (H_callX inferInstance rfl hf1 inferInstance) rfl fun u => ?_
          refine AS_step (r := [5]) (by kernel_rfl) rfl rfl ⟨?_, trivial⟩
          refine AO_x rfl inferInstance rfl hx inferInstance ?_; rotate_left
          refine AO_h rfl (H_callX inferInstance rfl hf1 inferInstance) rfl fun u => ?_
          refine AS_step (r := [1, 4]) (by kernel_rfl) rfl rfl ⟨?_, ?_, trivial⟩
          refine AO_q rfl (Q_load rfl inferInstance inferInstance rfl) rfl ?_
          refine AS_step (r := [4]) (by kernel_rfl) rfl rfl ⟨?_, trivial⟩
          refine AO_q rfl (Q_move rfl) rfl ?_
          refine AS_step (r := [5]) (by kernel_rfl) rfl rfl ⟨?_, trivial⟩
          refine AO_x rfl inferInstance rfl hx inferInstance ?_; rotate_left
          refine AO_q rfl (Q_move rfl) rfl ?_
          refine AS_step (r := [1, 5]) (by kernel_rfl) rfl rfl ⟨?_, ?_, trivial⟩
          refine AO_q rfl (Q_load rfl inferInstance inferInstance rfl) rfl ?_
          refine AS_step (r := [5]) (by kernel_rfl) rfl rfl ⟨?_, trivial⟩
          refine AO_x rfl inferInstance rfl hx inferInstance ?_; rotate_left
          refine AO_x rfl inferInstance rfl hx inferInstance ?_; rotate_left
          refine AO_q rfl (Q_move rfl) rfl ?_
          refine AS_step (r := [1, 3]) (by kernel_rfl) rfl rfl ⟨?_, ?_, trivial⟩
          refine AO_q rfl (Q_load rfl inferInstance inferInstance rfl) rfl ?_
          refine AS_step (r := [3]) (by kernel_rfl) rfl rfl ⟨?_, trivial⟩
          refine AO_h rfl (H_callX inferInstance rfl hf1 inferInstance) rfl fun u => ?_
          refine AS_step (r := [5]) (by kernel_rfl) rfl rfl ⟨?_, trivial⟩
          refine AO_x rfl inferInstance rfl hx inferInstance ?_; rotate_left
          refine AO_h rfl (H_callX inferInstance rfl hf1 inferInstance) rfl fun u => ?_
          refine AS_step (r := [1, 5]) (by kernel_rfl) rfl rfl ⟨?_, ?_, trivial⟩
          refine AO_q rfl (Q_load rfl inferInstance inferInstance rfl) rfl ?_
          refine AS_step (r := [5]) (by kernel_rfl) rfl rfl ⟨?_, trivial⟩
          refine AO_x rfl inferInstance rfl hx inferInstance ?_; rotate_left
          refine AO_x rfl inferInstance rfl hx inferInstance ?_; rotate_left
          refine AO_q rfl (Q_move rfl) rfl ?_
          refine AS_step (r := [1, 2]) (by kernel_rfl) rfl rfl ⟨?_, ?_, trivial⟩
          refine AO_q rfl (Q_load rfl inferInstance inferInstance rfl) rfl ?_
          refine AS_step (r := [2]) (by kernel_rfl) rfl rfl ⟨?_, trivial⟩
          refine AO_q rfl (Q_move rfl) rfl ?_
          refine AS_step (r := [3]) (by kernel_rfl) rfl rfl ⟨?_, trivial⟩
          refine AO_h rfl (H_callX inferInstance rfl hf1 inferInstance) rfl fun u => ?_
          refine AS_step (r := [5]) (by kernel_rfl) rfl rfl ⟨?_, trivial⟩
          refine AO_x rfl inferInstance rfl hx inferInstance ?_; rotate_left
          refine AO_q rfl (Q_move rfl) rfl ?_
          refine AS_step (r := [1, 3]) (by kernel_rfl) rfl rfl ⟨?_, ?_, trivial⟩
          refine AO_q rfl (Q_load rfl inferInstance inferInstance rfl) rfl ?_
          refine AS_step (r := [3]) (by kernel_rfl) rfl rfl ⟨?_, trivial⟩
          refine AO_h rfl (H_callX inferInstance rfl hf1 inferInstance) rfl fun u => ?_
          refine AS_step (r := [5]) (by kernel_rfl) rfl rfl ⟨?_, trivial⟩
          refine AO_x rfl inferInstance rfl hx inferInstance ?_; rotate_left
          refine AO_h rfl (H_callX inferInstance rfl hf1 inferInstance) rfl fun u => ?_
          refine AS_step (r := [1, 5]) (by kernel_rfl) rfl rfl ⟨?_, ?_, trivial⟩
          refine AO_q rfl (Q_load rfl inferInstance inferInstance rfl) rfl ?_
          refine AS_step (r := [5]) (by kernel_rfl) rfl rfl ⟨?_, trivial⟩
          refine AO_x rfl inferInstance rfl hx inferInstance ?_; rotate_left
          refine AO_x rfl inferInstance rfl hx inferInstance ?_; rotate_left
          refine AO_q rfl (Q_move rfl) rfl ?_
          refine AS_step (r := [0, 3, 4]) (by kernel_rfl) rfl rfl ⟨?_, ?_, ?_, trivial⟩
          refine AO_q rfl (Q_fieldAddr rfl inferInstance rfl) rfl ?_
          refine AS_step (r := [1, 3, 4]) (by kernel_rfl) rfl rfl ⟨?_, ?_, ?_, trivial⟩
          refine AO_q rfl (Q_load rfl inferInstance inferInstance rfl) rfl ?_
          refine AS_step (r := [3, 4]) (by kernel_rfl) rfl rfl ⟨?_, ?_, trivial⟩
          refine AO_h rfl (H_callX inferInstance rfl hf1 inferInstance) rfl fun u => ?_
          refine AS_step (r := [4]) (by kernel_rfl) rfl rfl ⟨?_, trivial⟩
          refine AO_q rfl (Q_move rfl) rfl ?_
          refine AS_step (r := [5]) (by kernel_rfl) rfl rfl ⟨?_, trivial⟩
          refine AO_x rfl inferInstance rfl hx inferInstance ?_; rotate_left
          refine AO_q rfl (Q_move rfl) rfl ?_
          refine AS_step (r := [3]) (by kernel_rfl) rfl rfl ⟨?_, trivial⟩
          refine AO_h rfl (H_callX inferInstance rfl hf1 inferInstance) rfl fun u => ?_
          refine AS_step (r := [5]) (by kernel_rfl) rfl rfl ⟨?_, trivial⟩
          refine AO_x rfl inferInstance rfl hx inferInstance ?_; rotate_left
          refine AO_h rfl (H_callX inferInstance rfl hf1 inferInstance) rfl fun u => ?_
          refine AS_step (r := [1, 4]) (by kernel_rfl) rfl rfl ⟨?_, ?_, trivial⟩
          refine AO_q rfl (Q_load rfl inferInstance inferInstance rfl) rfl ?_
          refine AS_step (r := [4]) (by kernel_rfl) rfl rfl ⟨?_, trivial⟩
          refine AO_q rfl (Q_move rfl) rfl ?_
          refine AS_step (r := [5]) (by kernel_rfl) rfl rfl ⟨?_, trivial⟩
          refine AO_x rfl inferInstance rfl hx inferInstance ?_; rotate_left
          refine AO_q rfl (Q_move rfl) rfl ?_
          refine AS_step (r := [1, 5]) (by kernel_rfl) rfl rfl ⟨?_, ?_, trivial⟩
          refine AO_q rfl (Q_load rfl inferInstance inferInstance rfl) rfl ?_
          refine AS_step (r := [5]) (by kernel_rfl) rfl rfl ⟨?_, trivial⟩
          refine AO_x rfl inferInstance rfl hx inferInstance ?_; rotate_left
          refine AO_x rfl inferInstance rfl hx inferInstance ?_; rotate_left
          refine AO_q rfl (Q_move rfl) rfl ?_
          refine AS_step (r := [1, 3]) (by kernel_rfl) rfl rfl ⟨?_, ?_, trivial⟩
          refine AO_q rfl (Q_load rfl inferInstance inferInstance rfl) rfl ?_
          refine AS_step (r := [3]) (by kernel_rfl) rfl rfl ⟨?_, trivial⟩
          refine AO_h rfl (H_callX inferInstance rfl hf1 inferInstance) rfl fun u => ?_
          refine AS_step (r := [5]) (by kernel_rfl) rfl rfl ⟨?_, trivial⟩
          refine AO_x rfl inferInstance rfl hx inferInstance ?_; rotate_left
          refine AO_h rfl (H_callX inferInstance rfl hf1 inferInstance) rfl fun u => ?_
          refine AS_step (r := [1, 5]) (by kernel_rfl) rfl rfl ⟨?_, ?_, trivial⟩
          refine AO_q rfl (Q_load rfl inferInstance inferInstance rfl) rfl ?_
          refine AS_step (r := [5]) (by kernel_rfl) rfl rfl ⟨?_, trivial⟩
          refine AO_x rfl inferInstance rfl hx inferInstance ?_; rotate_left
          refine AO_x rfl inferInstance rfl hx inferInstance ?_; rotate_left
          refine AO_h rfl (H_callX inferInstance rfl hf1 inferInstance) rfl fun u => ?_
          refine AS_step (r := [0, 4]) (by kernel_rfl) rfl rfl ⟨?_, ?_, trivial⟩
          refine AO_q rfl (Q_fieldAddr rfl inferInstance rfl) rfl ?_
          refine AS_step (r := [1, 4]) (by kernel_rfl) rfl rfl ⟨?_, ?_, trivial⟩
          refine AO_q rfl (Q_load rfl inferInstance inferInstance rfl) rfl ?_
          refine AS_step (r := [4]) (by kernel_rfl) rfl rfl ⟨?_, trivial⟩
          refine AO_q rfl (Q_move rfl) rfl ?_
          refine AS_step (r := [5]) (by kernel_rfl) rfl rfl ⟨?_, trivial⟩
          refine AO_x rfl inferInstance rfl hx inferInstance ?_; rotate_left
          refine AO_q rfl (Q_move rfl) rfl ?_
          refine AS_step (r := [1, 5]) (by kernel_rfl) rfl rfl ⟨?_, ?_, trivial⟩
          refine AO_q rfl (Q_load rfl inferInstance inferInstance rfl) rfl ?_
          refine AS_step (r := [5]) (by kernel_rfl) rfl rfl ⟨?_, trivial⟩
          refine AO_x rfl inferInstance rfl hx inferInstance ?_; rotate_left
          refine AO_x rfl inferInstance rfl hx inferInstance ?_; rotate_left
          refine AO_q rfl (Q_move rfl) rfl ?_
          refine AS_step (r := [0, 5]) (by kernel_rfl) rfl rfl ⟨?_, ?_, trivial⟩
          refine AO_q rfl (Q_fieldAddr rfl inferInstance rfl) rfl ?_
          refine AS_step (r := [1, 5]) (by kernel_rfl) rfl rfl ⟨?_, ?_, trivial⟩
          refine AO_q rfl (Q_load rfl inferInstance inferInstance rfl) rfl ?_
          refine AS_step (r := [5]) (by kernel_rfl) rfl rfl ⟨?_, trivial⟩
          refine AO_x rfl inferInstance rfl hx inferInstance ?_; rotate_left
          refine AO_x rfl inferInstance rfl hx inferInstance ?_; rotate_left
          refine AO_x rfl inferInstance rfl hx inferInstance ?_; rotate_left
          refine AO_q rfl (Q_move rfl) rfl ?_
          refine AS_step (r := [0, 3]) (by kernel_rfl) rfl rfl ⟨?_, ?_, trivial⟩
          refine AO_q rfl (Q_fieldAddr rfl inferInstance rfl) rfl ?_
          refine AS_step (r := [1, 3]) (by kernel_rfl) rfl rfl ⟨?_, ?_, trivial⟩
          refine AO_q rfl (Q_load rfl inferInstance inferInstance rfl) rfl ?_
          refine AS_step (r := [3]) (by kernel_rfl) rfl rfl ⟨?_, trivial⟩
          refine AO_h rfl (H_callX inferInstance rfl hf1 inferInstance) rfl fun u => ?_
          refine AS_step (r := [5]) (by kernel_rfl) rfl rfl ⟨?_, trivial⟩
          refine AO_x rfl inferInstance rfl hx inferInstance ?_; rotate_left
          refine AO_h rfl (H_callX inferInstance rfl hf1 inferInstance) rfl fun u => ?_
          refine AS_step (r := [1, 5]) (by kernel_rfl) rfl rfl ⟨?_, ?_, trivial⟩
          refine AO_q rfl (Q_load rfl inferInstance inferInstance rfl) rfl ?_
          refine AS_step (r := [5]) (by kernel_rfl) rfl rfl ⟨?_, trivial⟩
          refine AO_x rfl inferInstance rfl hx inferInstance ?_; rotate_left
          refine AO_x rfl inferInstance rfl hx inferInstance ?_; rotate_left
          refine AO_h rfl (H_callX inferInstance rfl hf1 inferInstance) rfl fun u => ?_
          refine AS_step (r := [0, 5]) (by kernel_rfl) rfl rfl ⟨?_, ?_, trivial⟩
          refine AO_q rfl (Q_fieldAddr rfl inferInstance rfl) rfl ?_
          refine AS_step (r := [1, 5]) (by kernel_rfl) rfl rfl ⟨?_, ?_, trivial⟩
          refine AO_q rfl (Q_load rfl inferInstance inferInstance rfl) rfl ?_
          refine AS_step (r := [5]) (by kernel_rfl) rfl rfl ⟨?_, trivial⟩
          refine AO_x rfl inferInstance rfl hx inferInstance ?_; rotate_left
          refine AO_x rfl inferInstance rfl hx inferInstance ?_; rotate_left
          refine AO_x rfl inferInstance rfl hx inferInstance ?_; rotate_left
          refine AO_q rfl (Q_move rfl) rfl ?_
          refine AS_step (r := [0, 2]) (by kernel_rfl) rfl rfl ⟨?_, ?_, trivial⟩
          refine AO_q rfl (Q_fieldAddr rfl inferInstance rfl) rfl ?_
          refine AS_step (r := [1, 2]) (by kernel_rfl) rfl rfl ⟨?_, ?_, trivial⟩
          refine AO_q rfl (Q_load rfl inferInstance inferInstance rfl) rfl ?_
          refine AS_step (r := [2]) (by kernel_rfl) rfl rfl ⟨?_, trivial⟩
          refine AO_q rfl (Q_move rfl) rfl ?_
          refine AS_step (r := [3]) (by kernel_rfl) rfl rfl ⟨?_, trivial⟩
          refine AO_h rfl (H_callX inferInstance rfl hf1 inferInstance) rfl fun u => ?_
          refine AS_step (r := [5]) (by kernel_rfl) rfl rfl ⟨?_, trivial⟩
          refine AO_x rfl inferInstance rfl hx inferInstance ?_; rotate_left
          refine AO_q rfl (Q_move rfl) rfl ?_
          refine AS_step (r := [1, 3]) (by kernel_rfl) rfl rfl ⟨?_, ?_, trivial⟩
          refine AO_q rfl (Q_load rfl inferInstance inferInstance rfl) rfl ?_
          refine AS_step (r := [3]) (by kernel_rfl) rfl rfl ⟨?_, trivial⟩
          refine AO_h rfl (H_callX inferInstance rfl hf1 inferInstance) rfl fun u => ?_
          refine AS_step (r := [5]) (by kernel_rfl) rfl rfl ⟨?_, trivial⟩
          refine AO_x rfl inferInstance rfl hx inferInstance ?_; rotate_left
          refine AO_h rfl (H_callX inferInstance rfl hf1 inferInstance) rfl fun u => ?_
          refine AS_step (r := [1, 5]) (by kernel_rfl) rfl rfl ⟨?_, ?_, trivial⟩
          refine AO_q rfl (Q_load rfl inferInstance inferInstance rfl) rfl ?_
          refine AS_step (r := [5]) (by kernel_rfl) rfl rfl ⟨?_, trivial⟩
          refine AO_x rfl inferInstance rfl hx inferInstance ?_; rotate_left
          refine AO_x rfl inferInstance rfl hx inferInstance ?_; rotate_left
          refine AO_q rfl (Q_move rfl) rfl ?_
          refine AS_step (r := [0, 3]) (by kernel_rfl) rfl rfl ⟨?_, ?_, trivial⟩
          refine AO_q rfl (Q_fieldAddr rfl inferInstance rfl) rfl ?_
          refine AS_step (r := [1, 3]) (by kernel_rfl) rfl rfl ⟨?_, ?_, trivial⟩
          refine AO_q rfl (Q_load rfl inferInstance inferInstance rfl) rfl ?_
          refine AS_step (r := [3]) (by kernel_rfl) rfl rfl ⟨?_, trivial⟩
          refine AO_h rfl (H_callX inferInstance rfl hf1 inferInstance) rfl fun u => ?_
          refine AS_step (r := [5]) (by kernel_rfl) rfl rfl ⟨?_, trivial⟩
          refine AO_x rfl inferInstance rfl hx inferInstance ?_; rotate_left
          refine AO_h rfl (H_callX inferInstance rfl hf1 inferInstance) rfl fun u => ?_
          refine AS_step (r := [1, 5]) (by kernel_rfl) rfl rfl ⟨?_, ?_, trivial⟩
          refine AO_q rfl (Q_load rfl inferInstance inferInstance rfl) rfl ?_
          refine AS_step (r := [5]) (by kernel_rfl) rfl rfl ⟨?_, trivial⟩
          refine AO_x rfl inferInstance rfl hx inferInstance ?_; rotate_left
          refine AO_x rfl inferInstance rfl hx inferInstance ?_; rotate_left
          refine AO_h rfl (H_callX inferInstance rfl hf1 inferInstance) rfl fun u => ?_
          refine AS_step (r := [0, 5]) (by kernel_rfl) rfl rfl ⟨?_, ?_, trivial⟩
          refine AO_q rfl (Q_fieldAddr rfl inferInstance rfl) rfl ?_
          refine AS_step (r := [1, 5]) (by kernel_rfl) rfl rfl ⟨?_, ?_, trivial⟩
          refine AO_q rfl (Q_load rfl inferInstance inferInstance rfl) rfl ?_
          refine AS_step (r := [5]) (by kernel_rfl) rfl rfl ⟨?_, trivial⟩
          refine AO_x rfl inferInstance rfl hx inferInstance ?_; rotate_left
          refine AO_x rfl inferInstance rfl hx inferInstance ?_; rotate_left
          refine AO_x rfl inferInstance rfl hx inferInstance ?_; rotate_left
          all_goals
            repeat' (first | with_reducible refine thenS_p ?_ | with_reducible refine blockS_p ?_)
            refine out_brk rfl rfl inferInstance inferInstance rfl rfl ?_
            simp only [decV, decH, hd]
            exact ⟨.slice none 0 0, rfl, by ((try simp only [star_assoc, emp_star, star_emp]); (repeat' (first | exact Ent.last | refine Ent.take ?_ | refine Ent.nilT ?_ | refine Ent.takeR (by first | rfl | assumption | (simp; done)) ?_ | exact Ent.refl _)))⟩
      · have hf1 := four_t w0 (l.drop (8 * i)) v' gg X (by omega)
        have hf2 := four_t w0 ((l.drop (8 * i)).drop 4) (sTail 1 v' 4) gg X (by omega)
        have he : lostsAt l (i + 1) = lostsAt l i ++ [(numAt (l.drop (8 * i)) 0, numAt ((l.drop (8 * i)).drop 4) 0)] := by simp [lostsAt, numAt_dropK]
        have hR2 : Rdr w0 X (sTail 1 (sTail 1 v' 4) 4) UInt8 1 byteC (((l.drop (8 * i)).drop 4).drop 4) := inferInstance
        rw [List.drop_drop, List.drop_drop, show 8 * i + (4 + 4) = 8 * (i + 1) by omega] at hR2
        have hll := lostsAt_length l i
        repeat' (first | (refine WS_seqK ?_; intro K hK) | (refine hK _ ?_; clear hK K) | (with_reducible (first | refine thenS_n ?_ | refine thenS_e ?_ | refine blockS_n ?_ | refine blockS_e ?_ | refine blockS_o rfl ?_ | refine thenS_r ?_ | refine blockS_r ?_ | refine use_K (by assumption) ?_)) | refine WS_region ?_ | refine LS_nil ?_ | (first | refine DL_nilA ?_ | refine DL_nilS ?_ | refine DL_nilN ?_ | refine DL_nilE ?_ | refine DL_nilR ?_) | (first | refine DL_claimS rfl ?_ | refine DL_claim rfl rfl ?_) | ((first | refine' LQ ?zh rfl ?_ | refine' DL_qp rfl rfl rfl ?zh ?_ | refine' DL_q rfl rfl ?zh ?_); case zh => intro F'; first | exact Q_move rfl | exact Q_fieldAddr rfl iI rfl | exact Q_load rfl iI iI rfl | exact Q_bin_t rfl rfl iI (by first | assumption | omega | decide) | exact Q_addI rfl rfl (by omega) | exact Q_build iI iI rfl rfl) | ((refine' DL_h0 ?zh rfl rfl ?_); (case zh => exact H_storeO rfl rfl iI iI iI rfl); intro g) | (first | refine WS_block ?_ | refine WS_skip ?_ | refine WS_ret ?_ | refine WS_exit ?_ | refine WS_label ?_) | (show WS _ _ _ (.cond _ _ _) _ _; first | refine WS_condT rfl iI ?_ | refine WS_condF rfl iI ?_ | refine WS_condH_t rfl (by assumption) ?_ | refine WS_condH_f rfl (by assumption) ?_ | (refine WS_cond rfl ?_ ?_ <;> intro hc <;> (try simp only [decide_eq_true_eq, decide_eq_false_iff_not, Bool.not_eq_eq_eq_not, Bool.not_true, Bool.not_false, Bool.and_eq_true, Bool.or_eq_true, bne_iff_ne, beq_iff_eq, ne_eq, Decidable.not_not] at hc) <;> (try (exfalso; first | contradiction | omega; done)))) | (show WS _ _ _ (.region 22 _ true) _ _; refine WS_drawM 2 [0, 1, 2, 4, 3, 5, 6, 7, 8, 9, 10] 10 [1] (by kernel_rfl) rfl rfl iI ?_) | (refine DL_h (H_callX iI rfl hf1 iI) rfl rfl rfl ?_; intro u) | (refine DL_h (H_callX iI rfl hf2 iI) rfl rfl rfl ?_; intro u) | (refine DL_h (H_buildSliceR lostC [(numAt (l.drop (8 * i)) 0, numAt ((l.drop (8 * i)).drop 4) 0)] iI iI iI rfl rfl rfl rfl rfl iI rfl rfl rfl) rfl rfl rfl ?_; intro vb) | (refine DL_h (H_appendR rfl rfl iI iI rfl iI iI lostC_one (by first | omega | (simp [be_length] <;> omega)) rfl) rfl rfl rfl ?_; intro v2))
        refine ⟨m - 1, _, by omega, ⟨i + 1, _, v2, by omega, by omega, hR2, rfl⟩, ⟨rfl, rfl, rfl, rfl, rfl, trivial⟩, rfl, ?_⟩
        rw [he]
        ((try simp only [star_assoc, emp_star, star_emp]); (repeat' (first | exact Ent.last | refine Ent.take ?_ | refine Ent.nilT ?_ | refine Ent.takeR (by first | rfl | assumption | (simp; done)) ?_ | exact Ent.refl _)))
    · obtain rfl : i = n.toNat := by omega
      repeat' (first | (refine WS_seqK ?_; intro K hK) | (refine hK _ ?_; clear hK K) | (with_reducible (first | refine thenS_n ?_ | refine thenS_e ?_ | refine blockS_n ?_ | refine blockS_e ?_ | refine blockS_o rfl ?_ | refine thenS_r ?_ | refine blockS_r ?_ | refine use_K (by assumption) ?_)) | refine WS_region ?_ | refine LS_nil ?_ | ((refine' LQ ?zh rfl ?_); case zh => intro F'; first | exact Q_move rfl | exact Q_nilCheck rfl | exact Q_fieldAddr rfl iI rfl | exact Q_load rfl iI iI rfl | exact Q_bin_f rfl rfl iI (by first | assumption | omega | decide) | exact Q_loadA rfl iI iI rfl | exact Q_lenR rfl iI iI) | ((first | refine LS_binS rfl rfl iI rfl ?_ ?_ | refine LS_binN rfl rfl iI rfl ?_ ?_ | refine DL_binS rfl rfl iI rfl ?_ ?_) <;> intro hc) | ((refine' LS_h0 ?zh ?_); (case zh => first | exact H_storeO rfl rfl iI iI iI rfl | exact H_storeAO rfl rfl iI iI iI rfl); intro g) | (first | refine WS_block ?_ | refine WS_skip ?_ | refine WS_ret ?_ | refine WS_exit ?_ | refine WS_label ?_) | (show WS _ _ _ (.cond _ _ _) _ _; first | refine WS_condT rfl iI ?_ | refine WS_condF rfl iI ?_ | refine WS_condH_t rfl (by assumption) ?_ | refine WS_condH_f rfl (by assumption) ?_ | (refine WS_cond rfl ?_ ?_ <;> intro hc <;> (try simp only [decide_eq_true_eq, decide_eq_false_iff_not, Bool.not_eq_eq_eq_not, Bool.not_true, Bool.not_false, Bool.and_eq_true, Bool.or_eq_true, bne_iff_ne, beq_iff_eq, ne_eq, Decidable.not_not] at hc) <;> (try (exfalso; first | contradiction | omega; done)))) | (refine LS_must rfl rfl ?_ ?_ <;> (intro hc; first | (cases hc; done) | skip)) | with_reducible refine thenS_p ?_)
      all_goals
        first
        | (have hd : Pk.dec (t :: k :: f :: z :: n :: l) = none := by rw [hde, if_neg]; omega
           refine out_brk rfl rfl inferInstance inferInstance rfl rfl ?_
           simp only [decV, decH, hd]
           exact ⟨.slice none 0 0, rfl, by ((try simp only [star_assoc, emp_star, star_emp]); (repeat' (first | exact Ent.last | refine Ent.take ?_ | refine Ent.nilT ?_ | refine Ent.takeR (by first | rfl | assumption | (simp; done)) ?_ | exact Ent.refl _)))⟩)
        | (have hd := hde.trans (if_pos (by omega))
           refine out_ok rfl rfl inferInstance inferInstance rfl ?_
           simp only [decV, decH, hd, Option.getD_some, Option.isSome_some]
           exact ⟨vl, by simp [Pk.val, Pk.cells, h2], by ((try simp only [star_assoc, emp_star, star_emp]); (repeat' (first | exact Ent.last | refine Ent.take ?_ | refine Ent.nilT ?_ | refine Ent.takeR (by first | rfl | assumption | (simp; done)) ?_ | exact Ent.refl _)))⟩)
end Go.Proofs.YtapoehkdnglahaaGreat

/- What wire.Decode and mesh.Decode return, of any bytes. -/
namespace Go.Proofs.YtapoehkdnglahaaGreat
open Go.RowKit
set_option linter.unusedVariables false
set_option linter.unusedSectionVars false
set_option linter.unusedSimpArgs false
theorem dec_bad {t k f z n : UInt8} {l : List UInt8} (h : z.toNat ≠ 0 ∨ t.toNat = 0) : Pk.dec (t :: k :: f :: z :: n :: l) = none := by
  simp only [Pk.dec]
  rw [if_neg]
  rintro ⟨h1, h2⟩
  rcases h with h | h
  · exact h (by rw [h1]; rfl)
  · exact h2 (UInt8.toNat_inj.1 (by rw [h]; rfl))
theorem dec_flag {t k f z n : UInt8} {l : List UInt8} (h : f.toNat ≠ 0) (h2 : f.toNat ≠ 8 ∨ k.toNat ≠ 1) : Pk.dec (t :: k :: f :: z :: n :: l) = none := by
  have h0 : f ≠ 0 := fun e => h (by rw [e]; rfl)
  have h8 : f = 8 → k ≠ 1 := fun e e2 => by
    rcases h2 with h2 | h2
    · exact h2 (by rw [e]; rfl)
    · exact h2 (by rw [e2]; rfl)
  simp only [Pk.dec]
  split
  · unfold Pk.body
    repeat' split
    all_goals first
      | rfl
      | (rename_i hk hc; exfalso; rcases hc.2 with e | ⟨e, _⟩ <;> first | exact h0 e | exact h8 e hk)
      | (exfalso; simp_all; done)
  · rfl
theorem dec_kind {t k f z n : UInt8} {l : List UInt8} (h1 : k.toNat ≠ 1) (h2 : k.toNat ≠ 2) (h3 : k.toNat ≠ 3) (h9 : k.toNat ≠ 9) : Pk.dec (t :: k :: f :: z :: n :: l) = none := by
  have k1 : k ≠ 1 := fun e => h1 (by rw [e]; rfl)
  have k2 : k ≠ 2 := fun e => h2 (by rw [e]; rfl)
  have k3 : k ≠ 3 := fun e => h3 (by rw [e]; rfl)
  have k9 : k ≠ 9 := fun e => h9 (by rw [e]; rfl)
  simp only [Pk.dec, Pk.body, if_neg k1, if_neg k2, if_neg k3, if_neg k9, ite_self]
attribute [local irreducible] WS LS OpQ OpT OpH OpTQ Spec SpecQ SpecX DSpec cel
variable (w0 : World)
theorem wdecode_spec (l : List UInt8) (hl : l.length ≤ 100000) (v : Value) (X : HProp) [hX : Rdr w0 X v UInt8 1 byteC l] : Spec Tryz.prog w0 79 [v] X (fun v' : Value => decV l v') (fun v' => decH l v' X) := by
  rcases Nat.lt_or_ge l.length 5 with h5 | h5
  · exact wdecode_short w0 l h5 v X
  obtain ⟨t, k, f, z, n, r, rfl⟩ : ∃ t k f z n r, l = t :: k :: f :: z :: n :: r := by
    match l, h5 with
    | t :: k :: f :: z :: n :: r, _ => exact ⟨t, k, f, z, n, r, rfl⟩
  have hr : r.length ≤ 100000 := by simp at hl; omega
  by_cases hz : z.toNat = 0
  · by_cases ht : t.toNat = 0
    · exact wdec_bad w0 t k f z n r hr (dec_bad (.inr ht)) (by omega) v X
    · by_cases hf : f.toNat = 0
      · by_cases h1 : k.toNat = 1
        · exact wdec_1a w0 t k f z n r hr hz (by omega) hf h1 v X
        · by_cases h2 : k.toNat = 2
          · exact wdec_2 w0 t k f z n r hr hz (by omega) hf h2 v X
          · by_cases h3 : k.toNat = 3
            · exact wdec_3 w0 t k f z n r hr hz (by omega) hf h3 v X
            · by_cases h9 : k.toNat = 9
              · exact wdec_9 w0 t k f z n r hr hz (by omega) hf h9 v X
              · exact wdec_other w0 t k f z n r hr (dec_kind h1 h2 h3 h9) hz (by omega) hf h1 h2 h3 h9 v X
      · by_cases h8 : f.toNat = 8
        · by_cases h1 : k.toNat = 1
          · exact wdec_1b w0 t k f z n r hr hz (by omega) h8 h1 v X
          · exact wdec_bad w0 t k f z n r hr (dec_flag hf (.inr h1)) (by omega) v X
        · exact wdec_bad w0 t k f z n r hr (dec_flag hf (.inl h8)) (by omega) v X
  · exact wdec_bad w0 t k f z n r hr (dec_bad (.inl hz)) (by omega) v X
/-- What mesh.Decode hands out. -/
def mdecV (l : List UInt8) (v' : Value) : Value := .tuple #[((Pk.dec l).getD Pk.zero).val v', .int .i64 (if (Pk.dec l).isSome then 0 else 1)]
set_option maxRecDepth 100000 in
theorem mdecode_spec (l : List UInt8) (hl : l.length ≤ 100000) (v : Value) (X : HProp) [hX : Rdr w0 X v UInt8 1 byteC l] : Spec Tryz.prog w0 23 [v] X (fun v' : Value => mdecV l v') (fun v' => decH l v' X) := by
  have hd := wdecode_spec w0 l hl v X
  simp only [decV, decH, mdecV] at hd ⊢
  cases hp : Pk.dec l with
  | none =>
    simp only [hp, Option.getD_none, Pk.val, Pk.cells, Option.isSome_none] at hd ⊢
    refine Spec.enter Tryz.func23 rfl Tryz.ntmps23 rfl fun G => ?_
    simp only [argE]
    repeat' (first | (refine WS_seqK ?_; intro K hK) | (refine hK _ ?_; clear hK K) | (with_reducible (first | refine thenS_n ?_ | refine thenS_e ?_ | refine blockS_n ?_ | refine blockS_e ?_ | refine blockS_o rfl ?_ | refine thenS_r ?_ | refine blockS_r ?_ | refine use_K (by assumption) ?_)) | refine WS_region ?_ | refine LS_nil ?_ | ((refine' LQ ?zh rfl ?_); case zh => intro F'; first | exact Q_move rfl | exact Q_assign rfl | exact Q_extract rfl rfl | exact Q_un rfl iI | exact Q_build iI iI rfl rfl) | ((refine' LS_h ?zh rfl ?_); (case zh => exact H_alloc iI); intro g) | ((refine' LS_h0 ?zh ?_); (case zh => exact H_storeAO rfl rfl iI iI iI rfl); intro g) | (first | refine WS_block ?_ | refine WS_skip ?_ | refine WS_ret ?_ | refine WS_exit ?_ | refine WS_label ?_) | (show WS _ _ _ (.cond _ _ _) _ _; first | refine WS_condT rfl iI ?_ | refine WS_condF rfl iI ?_ | refine WS_condH_t rfl (by assumption) ?_ | refine WS_condH_f rfl (by assumption) ?_ | (refine WS_cond rfl ?_ ?_ <;> intro hc <;> (try simp only [decide_eq_true_eq, decide_eq_false_iff_not, Bool.not_eq_eq_eq_not, Bool.not_true, Bool.not_false, Bool.and_eq_true, Bool.or_eq_true, bne_iff_ne, beq_iff_eq, ne_eq, Decidable.not_not] at hc) <;> (try (exfalso; first | contradiction | omega; done)))) | (refine LS_h (H_callX iI rfl hd iI) rfl ?_; intro v'))
    exact ret_2 (.inl rfl) rfl (RV_cell rfl inferInstance inferInstance rfl) (RV_tmp rfl) ⟨.slice none 0 0, rfl, by ((try simp only [star_assoc, emp_star, star_emp]); (repeat' (first | exact Ent.last | refine Ent.take ?_ | refine Ent.nilT ?_ | refine Ent.takeR (by first | rfl | assumption | (simp; done)) ?_ | exact Ent.refl _)))⟩
  | some p =>
    simp only [hp, Option.getD_some, Pk.val, Pk.cells, Option.isSome_some] at hd ⊢
    refine Spec.enter Tryz.func23 rfl Tryz.ntmps23 rfl fun G => ?_
    simp only [argE]
    repeat' (first | (refine WS_seqK ?_; intro K hK) | (refine hK _ ?_; clear hK K) | refine WS_region ?_ | refine LS_nil ?_ | ((refine' LQ ?zh rfl ?_); case zh => intro F'; first | exact Q_move rfl | exact Q_assign rfl | exact Q_extract rfl rfl | exact Q_un rfl iI | exact Q_loadA rfl iI iI rfl) | ((refine' LS_h ?zh rfl ?_); (case zh => exact H_alloc iI); intro g) | ((refine' LS_h0 ?zh ?_); (case zh => exact H_storeAO rfl rfl iI iI iI rfl); intro g) | (first | refine WS_block ?_ | refine WS_skip ?_ | refine WS_ret ?_ | refine WS_exit ?_ | refine WS_label ?_) | (show WS _ _ _ (.cond _ _ _) _ _; first | refine WS_condT rfl iI ?_ | refine WS_condF rfl iI ?_ | refine WS_condH_t rfl (by assumption) ?_ | refine WS_condH_f rfl (by assumption) ?_ | (refine WS_cond rfl ?_ ?_ <;> intro hc <;> (try simp only [decide_eq_true_eq, decide_eq_false_iff_not, Bool.not_eq_eq_eq_not, Bool.not_true, Bool.not_false, Bool.and_eq_true, Bool.or_eq_true, bne_iff_ne, beq_iff_eq, ne_eq, Decidable.not_not] at hc) <;> (try (exfalso; first | contradiction | omega; done)))) | (refine LS_h (H_callX iI rfl hd iI) rfl ?_; intro v'))
    exact ret_2 (.inl rfl) rfl (RV_cell rfl inferInstance inferInstance rfl) (RV_tmp rfl) ⟨v', rfl, by ((try simp only [star_assoc, emp_star, star_emp]); (repeat' (first | exact Ent.last | refine Ent.take ?_ | refine Ent.nilT ?_ | refine Ent.takeR (by first | rfl | assumption | (simp; done)) ?_ | exact Ent.refl _)))⟩
end Go.Proofs.YtapoehkdnglahaaGreat

/- A node hears a frame while it is silent; its other small functions. -/
namespace Go.Proofs.YtapoehkdnglahaaGreat
open Go.RowKit
set_option linter.unusedVariables false
set_option linter.unusedSectionVars false
set_option linter.unusedSimpArgs false
/-- That a destination is not reached. -/
def Pk.lose (l : List (UInt32 × UInt32)) : Pk := ⟨1, 3, 0, false, 0, 0, 0, 0, 0, 0, l, []⟩
def Nd.tell (s : Nd) (to dest seq : UInt32) : Nd := s.send to (Pk.lose [(dest, seq)])
/-- What it hears while it is silent (or: what is no frame). -/
def Nd.rcvQ (s : Nd) (now : UInt64) (from_ : UInt32) (f : Str) : Nd := match Pk.dec f with
  | none => s.drop 0
  | some p => if from_ = 0 ∨ from_ = s.self then s.drop 0 else
    if p.kind = 9 ∧ p.dest ≠ s.self then Nd.drop { s.tell from_ p.dest (numT s.ls p.dest) with silent := now + 2000 } 8 else s.drop 8
def Nd.Deaf (s : Nd) (now : UInt64) (from_ : UInt32) (f : Str) : Prop := Pk.dec f = none ∨ (from_ = 0 ∨ from_ = s.self) ∨ now < s.silent
attribute [local irreducible] WS LS OpQ OpT OpH OpTQ Spec SpecQ cel
variable (w0 : World)
end Go.Proofs.YtapoehkdnglahaaGreat

/- A node's doors: node.Node's and mesh.Node's functions. -/
namespace Go.Proofs.YtapoehkdnglahaaGreat
open Go.RowKit
set_option linter.unusedVariables false
set_option linter.unusedSectionVars false
set_option linter.unusedSimpArgs false
theorem Nd.noteL_jour (s : Nd) (l : Ln) : (s.noteL l).out.journal.length ≤ s.out.journal.length + 13 := by
  unfold Nd.noteL
  (repeat' split) <;> simp [Nd.write, Rec.bytes_length]
theorem Nd.noteO_jour (s : Nd) : s.noteO.out.journal.length ≤ s.out.journal.length + 13 := by
  unfold Nd.noteO
  split <;> simp [Nd.write, Rec.bytes_length]
theorem Nd.noteLs_jour (L : List Ln) : ∀ s : Nd, (L.foldl Nd.noteL s).out.journal.length ≤ s.out.journal.length + 13 * L.length := by
  induction L with
  | nil => intro s; simp
  | cons l L ih => intro s; have h1 := ih (s.noteL l); have h2 := s.noteL_jour l; simp only [List.foldl_cons, List.length_cons]; omega
theorem Nd.note_jour (s : Nd) (ok : TabOk s.ls) : s.note.out.journal.length ≤ s.out.journal.length + 117 := by
  have h1 := Nd.noteLs_jour (listT s.ls) s.noteO
  have h2 := s.noteO_jour
  have h3 := listT_length s.ls
  have h4 := ok.short
  unfold Nd.note
  omega
/-- What note leaves alone. -/
structure Nd.Same (s t : Nd) : Prop where
  ls : t.ls = s.ls
  self : t.self = s.self
  seq : t.seq = s.seq
  silent : t.silent = s.silent
  seen : t.seen = s.seen
  order : t.order = s.order
  wait : t.wait = s.wait
  srs : t.srs = s.srs
  clk : t.clk = s.clk
  last : t.last = s.last
  names : t.names = s.names
  ids : t.ids = s.ids
  datas : t.datas = s.datas
  sent : t.sent = s.sent
  now : t.now = s.now
  frames : t.out.frames = s.out.frames
  came : t.out.came = s.out.came
  dropped : t.out.dropped = s.out.dropped
  replace : t.out.replace = s.out.replace
theorem Nd.Same.rfl' (s : Nd) : s.Same s := by constructor <;> rfl
theorem Nd.Same.write (s : Nd) (r : Rec) : s.Same (s.write r) := by constructor <;> rfl
theorem Nd.Same.trans {s t u : Nd} (h : s.Same t) (k : t.Same u) : s.Same u := by
  constructor
  · exact k.ls.trans h.ls
  · exact k.self.trans h.self
  · exact k.seq.trans h.seq
  · exact k.silent.trans h.silent
  · exact k.seen.trans h.seen
  · exact k.order.trans h.order
  · exact k.wait.trans h.wait
  · exact k.srs.trans h.srs
  · exact k.clk.trans h.clk
  · exact k.last.trans h.last
  · exact k.names.trans h.names
  · exact k.ids.trans h.ids
  · exact k.datas.trans h.datas
  · exact k.sent.trans h.sent
  · exact k.now.trans h.now
  · exact k.frames.trans h.frames
  · exact k.came.trans h.came
  · exact k.dropped.trans h.dropped
  · exact k.replace.trans h.replace
theorem Nd.Same.noteL (s : Nd) (l : Ln) : s.Same (s.noteL l) := by
  unfold Nd.noteL
  (repeat' split) <;> first | exact Nd.Same.write _ _ | exact Nd.Same.rfl' _
theorem Nd.Same.noteO (s : Nd) : s.Same s.noteO := by
  unfold Nd.noteO
  split
  · exact Nd.Same.write _ _
  · exact Nd.Same.rfl' _
theorem Nd.Same.noteLs (L : List Ln) : ∀ s : Nd, s.Same (L.foldl Nd.noteL s) := by
  induction L with
  | nil => intro s; exact Nd.Same.rfl' s
  | cons l L ih => intro s; exact (Nd.Same.noteL s l).trans (ih _)
theorem Nd.Same.note (s : Nd) : s.Same s.note := (Nd.Same.noteO s).trans (Nd.Same.noteLs _ _)
theorem Nd.begin_frames (s : Nd) (now : UInt64) : (s.begin now).out.frames = [] := (Nd.Same.note _).frames
theorem Nd.begin_came (s : Nd) (now : UInt64) : (s.begin now).out.came = [] := (Nd.Same.note _).came
theorem Nd.begin_dropped (s : Nd) (now : UInt64) : (s.begin now).out.dropped = [] := (Nd.Same.note _).dropped
theorem Nd.begin_recs (s : Nd) (now : UInt64) (ok : TabOk s.ls) : (s.begin now).recs.length ≤ s.recs.length + 9 := by
  have := Nd.note_recs { s with now := now, out := OutD.zero, ls := expT now s.ls } (ok.exp now)
  exact this
theorem Nd.begin_jour (s : Nd) (now : UInt64) (ok : TabOk s.ls) : (s.begin now).out.journal.length ≤ 117 := by
  have := Nd.note_jour { s with now := now, out := OutD.zero, ls := expT now s.ls } (ok.exp now)
  simpa [OutD.zero, Nd.begin] using this
attribute [local irreducible] WS LS OpQ OpT OpH OpTQ Spec SpecQ cel
variable (w0 : World)
end Go.Proofs.YtapoehkdnglahaaGreat

/- What a node does at a packet, a text, a time: plain Lean. No program in sight. -/
namespace Go.Proofs.YtapoehkdnglahaaGreat
set_option linter.unusedVariables false
set_option linter.unusedSectionVars false
set_option linter.unusedSimpArgs false
/-! ### Requests that are remembered -/
def seenAt (m : List (Rq × UInt64)) (r : Rq) : UInt64 := (mget m r).getD 0
/-- Whether a request is kept. -/
def remStep (now : UInt64) (p : List (Rq × UInt64) × List Rq) (x : Rq) : List (Rq × UInt64) × List Rq := if now < seenAt p.1 x then (p.1, p.2 ++ [x]) else (mdel p.1 x, p.2)
def remAll (now : UInt64) (m : List (Rq × UInt64)) (l : List Rq) : List (Rq × UInt64) × List Rq := l.foldl (remStep now) (m, [])
/-- The first of those that are forgotten first. -/
def firstStep (m : List (Rq × UInt64)) (l : List Rq) (i : Nat) (j : Nat) : Nat := if seenAt m (l.getD j ⟨0, 0⟩) < seenAt m (l.getD i ⟨0, 0⟩) then j else i
def firstOf (m : List (Rq × UInt64)) (l : List Rq) (k : Nat) : Nat := (List.range k).foldl (firstStep m l) 0
theorem firstOf_succ (m : List (Rq × UInt64)) (l : List Rq) (k : Nat) : firstOf m l (k + 1) = firstStep m l (firstOf m l k) k := by simp [firstOf, List.range_succ]
theorem firstOf_lt (m : List (Rq × UInt64)) (l : List Rq) : ∀ k, k ≤ l.length → 0 < l.length → firstOf m l k < l.length
  | 0, _, h => h
  | k + 1, hk, h => by
    have := firstOf_lt m l k (by omega) h
    rw [firstOf_succ]
    unfold firstStep
    split <;> omega
def Nd.remember (s : Nd) (r : Rq) : Nd :=
  let p := remAll s.now s.seen s.order
  let m := mset p.1 r (s.now + 1280)
  let l := p.2 ++ [r]
  if l.length ≤ 16 then { s with seen := m, order := l } else
  let i := firstOf m l l.length
  { s with seen := mdel m (l.getD i ⟨0, 0⟩), order := l.take i ++ l.drop (i + 1) }
theorem remAll_snoc (now : UInt64) (m : List (Rq × UInt64)) (l : List Rq) (x : Rq) : remAll now m (l ++ [x]) = remStep now (remAll now m l) x := by simp [remAll]
theorem remAll_length (now : UInt64) (m : List (Rq × UInt64)) (l : List Rq) : (remAll now m l).2.length ≤ l.length := by
  induction l using snocInd with
  | nil => simp [remAll]
  | snoc l x ih =>
    rw [remAll_snoc]
    unfold remStep
    split <;> simp <;> omega
/-! ### Packets -/
def Nd.soon (s : Nd) : UInt64 := s.now + 3000
def Ln.learned (dest seq : UInt32) (hops : Int) (next : UInt32) (e : UInt64) : Ln := ⟨dest, seq, hops, next, false, e, []⟩
def Nd.answer (s : Nd) (p : Pk) : Nd := match lookT s.ls p.from_ s.now with
  | some b => s.send b.next { p with ttl := 8, kind := 2 }
  | none => s.drop 3
def hop1 (p : Pk) : Int := min (p.hops + 1) 255
/-- A request that goes on. -/
def Nd.req3 (s : Nd) (p : Pk) : Nd :=
  if p.ttl = 1 then s.drop 4 else
  match lget s.ls p.dest with
  | some l => s.send 0 { p with ttl := p.ttl - 1, hops := hop1 p, destSeq := max p.destSeq l.seq, unknown := false }
  | none => s.send 0 { p with ttl := p.ttl - 1, hops := hop1 p }
/-- A request behind what is learned from it. -/
def Nd.ans2 (s : Nd) (p : Pk) (x : Ln) : Nd :=
  Nd.answer { s with ls := befT (match lookT s.ls p.from_ s.now with | some b => befT s.ls p.dest b.next | none => s.ls) p.from_ x.next } ⟨0, 0, x.hops, false, 0, p.dest, x.seq, p.from_, 0, (x.expires - s.now).toUInt32, [], []⟩
def Nd.req2 (s : Nd) (p : Pk) : Nd :=
  if p.dest = s.self then
    let q := if p.unknown then s.seq else max s.seq p.destSeq
    Nd.answer { s with seq := q } ⟨0, 0, 0, false, 0, p.dest, q, p.from_, 0, 6000, [], []⟩
  else match lookT s.ls p.dest s.now with
  | some x => if p.unknown = true ∨ p.destSeq ≤ x.seq then s.ans2 p x else s.req3 p
  | none => s.req3 p
def Nd.reqU (s : Nd) (src : UInt32) (p : Pk) : Int × List Ln := updT s.self s.ls (Ln.learned p.from_ p.fromSeq (hop1 p) src s.soon)
def Nd.req (s : Nd) (src : UInt32) (p : Pk) : Nd :=
  if p.from_ = s.self ∨ s.now < seenAt s.seen ⟨p.from_, p.id⟩ then s.drop 1 else
  let s1 := s.remember ⟨p.from_, p.id⟩
  let u := s1.reqU src p
  if u.1 = 4 then Nd.drop { s1 with ls := u.2 } 2 else
  Nd.req2 { s1 with ls := if u.1 = 3 then useT u.2 p.from_ s1.soon else u.2 } p
def Nd.lost (s : Nd) (l : List (UInt32 × UInt32)) : Nd := if 0 < l.length then s.send 0 (Pk.lose l) else s
def loseStep (src : UInt32) (a : List Ln × List (UInt32 × UInt32) × Bool) (l : UInt32 × UInt32) : List Ln × List (UInt32 × UInt32) × Bool :=
  (loseT a.1 src l.1 l.2, if (losesT a.1 src l.1 && decide (0 < ((lget a.1 l.1).getD Ln.zero).before.length)) = true then a.2.1 ++ [(l.1, numT (loseT a.1 src l.1 l.2) l.1)] else a.2.1, a.2.2 || losesT a.1 src l.1)
def loseAll (src : UInt32) (ls : List Ln) (l : List (UInt32 × UInt32)) : List Ln × List (UInt32 × UInt32) × Bool := l.foldl (loseStep src) (ls, [], false)
def Nd.los (s : Nd) (src : UInt32) (p : Pk) : Nd :=
  let a := loseAll src s.ls p.lost
  let s1 := Nd.lost { s with ls := a.1 } a.2.1
  if a.2.2 = true then s1 else s1.drop 7
def Nd.came (s : Nd) (x : UInt32 × Str) : Nd := { s with out := { s.out with came := s.out.came ++ [x] } }
def Nd.dat (s : Nd) (src : UInt32) (p : Pk) : Nd :=
  if p.dest = s.self then s.came (p.from_, p.payload) else
  if p.ttl = 1 then s.drop 4 else
  match lookT s.ls p.dest s.now with
  | none => Nd.tell { s.drop 3 with ls := bumpT s.ls p.dest } src p.dest (numT (bumpT s.ls p.dest) p.dest)
  | some x => { s.send x.next { p with ttl := p.ttl - 1 } with ls := useT (useT s.ls p.dest s.soon) p.from_ s.soon }
def Nd.brk (s : Nd) (nb : UInt32) : Nd := Nd.lost { s with ls := brkT nb s.ls } (outB nb (sortU (dests s.ls)) s.ls)
/-! ### Texts and searches -/
/-- A text goes out, if there is a route. -/
def Nd.hand (s : Nd) (dest : UInt32) (text : Str) : Nd := match lookT s.ls dest s.now with
  | none => s
  | some x => { Nd.send { s with datas := s.datas + 1 } x.next ⟨8, 9, 0, false, s.datas + 1, dest, 0, s.self, 0, 0, [], text⟩ with ls := useT s.ls dest s.soon }
def srFind (ss : List Sr) (d : UInt32) : Option Nat := ss.findIdx? fun x => x.dest = d
def nmFind (ss : List Sr) (k : Int) : Option Nat := ss.findIdx? fun x => x.name = k
def Nd.texts (s : Nd) (d : UInt32) : List Str := (mget s.wait d).getD []
def Nd.stop (s : Nd) (k : Nat) : Nd := { s with srs := s.srs.eraseIdx k }
def Nd.handAll (s : Nd) (dest : UInt32) (l : List Str) : Nd := l.foldl (fun s t => s.hand dest t) s
def Nd.unwait (s : Nd) (dest : UInt32) : Nd := { s with wait := mdel s.wait dest }
def Nd.flush (s : Nd) (dest : UInt32) : Nd :=
  let s1 := (s.handAll dest (s.texts dest)).unwait dest
  match srFind s1.srs dest with
  | some k => s1.stop k
  | none => s1
def busyN (now : UInt64) (l : List UInt64) : Nat := (l.filter fun a => now < a + 1000).length
def Nd.arm (s : Nd) (k : Int) (w : UInt64) : Nd := { s with clk := s.clk ++ [⟨s.now + w, s.last + 1, k⟩], last := s.last + 1 }
def Nd.setOut (s : Nd) (k : Nat) (b : Bool) : Nd := { s with srs := s.srs.modify k fun x => { x with out := b } }
def trimS (l : List UInt64) : List UInt64 := if 5 < l.length then l.drop 1 else l
def askWait (x : Sr) : UInt64 := UInt64.ofInt (80 * (x.ttl + 2) * 2 ^ x.retries.toNat)
/-- A request goes out. -/
def Nd.ask1 (s : Nd) (x : Sr) : Nd :=
  let s1 := Nd.note { s with seq := growS s.seq }
  let s2 := { s1 with ids := s1.ids + 1, sent := trimS (s1.sent ++ [s1.now]) }
  let s3 := s2.send 0 ⟨x.ttl, 1, 0, (lget s2.ls x.dest).isNone, s2.ids, x.dest, numT s2.ls x.dest, s2.self, s2.seq, 0, [], []⟩
  s3.remember ⟨s3.self, s3.ids⟩
def Nd.ask (s : Nd) (k : Nat) (x : Sr) : Nd :=
  if s.now < s.silent then ((s.setOut k false).drop 8).arm x.name 1000 else
  if 5 ≤ busyN s.now s.sent then ((s.setOut k false).drop 9).arm x.name 1000 else
  ((s.setOut k true).ask1 x).arm x.name (askWait x)
def Sr.further (x : Sr) : Option Sr :=
  if x.ttl < 5 then some { x with ttl := x.ttl + 2 } else
  if x.ttl < 8 then some { x with ttl := 8 } else
  if x.retries < 2 then some { x with retries := x.retries + 1 } else none
def Nd.drops (s : Nd) (n : Nat) (k : Int) : Nd := { s with out := { s.out with dropped := s.out.dropped ++ List.replicate n k } }
def Nd.again (s : Nd) (k : Nat) (x : Sr) : Nd :=
  match lookT s.ls x.dest s.now with
  | some _ => s.flush x.dest
  | none => if x.out = true then match x.further with
    | some y => Nd.ask { s with srs := s.srs.set k y } k y
    | none => ((s.drops (s.texts x.dest).length 5).unwait x.dest).stop k
    else s.ask k x
def Nd.rep (s : Nd) (src : UInt32) (p : Pk) : Nd :=
  if p.dest = s.self then s.drop 1 else
  let u := updT s.self s.ls (Ln.learned p.dest p.destSeq (hop1 p) src (s.now + p.life.toUInt64))
  let s1 := { s with ls := u.2 }
  if u.1 = 4 then s1.drop 2 else
  if p.from_ = s1.self then
    let s2 := if (lookT s1.ls p.dest s1.now).isSome then s1.flush p.dest else s1
    if u.1 = 3 then s2.drop 7 else s2
  else match lookT s1.ls p.from_ s1.now with
  | none => if p.ttl = 1 then s1.drop 4 else s1.drop 3
  | some b => if p.ttl = 1 then s1.drop 4 else { s1.send b.next { p with ttl := p.ttl - 1, hops := hop1 p } with ls := useT (befT (befT s1.ls p.dest b.next) p.from_ src) p.from_ s1.soon }
/-- What is done with a packet. -/
def Nd.handle (s : Nd) (src : UInt32) (p : Pk) : Nd :=
  if p.kind = 1 then s.req src p else if p.kind = 2 then s.rep src p else if p.kind = 3 then s.los src p else s.dat src p
/-- A frame is heard. -/
def Nd.rcv (s : Nd) (now : UInt64) (src : UInt32) (f : Str) : Nd := match Pk.dec f with
  | none => s.rcvQ now src f
  | some p => if src = 0 ∨ src = s.self ∨ now < s.silent then s.rcvQ now src f else s.handle src p
def Nd.newSr (s : Nd) (dest : UInt32) : Nd := { s with names := s.names + 1, srs := s.srs ++ [⟨dest, 1, 0, false, s.names + 1⟩] }
def Nd.sendT (s : Nd) (dest : UInt32) (text : Str) : Nd :=
  if (lookT s.ls dest s.now).isSome then s.hand dest text else
  let s1 := if (s.texts dest).length = 4 then Nd.drop { s with wait := mset s.wait dest ((s.texts dest).drop 1) } 6 else s
  let s2 := { s1 with wait := mset s1.wait dest (s1.texts dest ++ [text]) }
  match srFind s2.srs dest with
  | some _ => s2
  | none => Nd.ask (s2.newSr dest) s2.srs.length ⟨dest, 1, 0, false, s2.names + 1⟩
/-- The next thing that is due. -/
def Nd.step (s : Nd) (now : UInt64) : Option Nd := match bestN s.clk now s.clk.length with
  | none => none
  | some i =>
    let s1 := { s with clk := s.clk.eraseIdx i }
    match nmFind s1.srs (at' s.clk i).what with
    | some k => match s1.srs[k]? with
      | some x => some (s1.again k x)
      | none => some s1
    | none => some s1
def Nd.ticks : Nat → Nd → UInt64 → Nd
  | 0, s, _ => s
  | f + 1, s, now => match s.step now with
    | some t => t.ticks f now
    | none => s
end Go.Proofs.YtapoehkdnglahaaGreat

/- Slices that are cut, with their capacity; appending to them. No program in sight. -/
namespace Go.Proofs.YtapoehkdnglahaaGreat
open Go.RowKit
set_option linter.unusedVariables false
set_option linter.unusedSimpArgs false
set_option linter.unusedSectionVars false
/-- v[:k:k]. -/
def sCut (v : Value) (k : Nat) : Value := match v with
  | .slice A m c => .slice A (min k m) (min k m)
  | v => v
section
variable {P : Program} {n : Frm} {w0 : World} {E : Env} {D : List Deferred} {H F : HProp} {ops : Array Oper} {l' : List Oper} {Q : Exit → St → Prop} {α : Type} {e : TypeId} {size : Nat} {f : α → List Value} {v u : Value} {l ys : List α}
variable {d : Option Tmp} {ty : TypeId} {pos : String} {after : Array Edge} {gu : Option (Nat × Bool)} {x y z : Operand}
theorem Q_sliceR_hm {t e2 : TypeId} {q q2 : IntKind} {i i2 : Int} {k : Nat} (hx : E.ev x = some v) (hy : E.ev y = some (.int q i)) (hz : E.ev z = some (.int q2 i2)) (hii : i2 = i) (hl : Rdr w0 H v α size f l) (ht : Und P t (.slice e2)) (hs2 : Siz P e2 size) (hi : AsNat i k) (hk : k ≤ l.length) :
    OpQ P n w0 ⟨d, .slice t x none (some y) (some z), ty, pos, after, gu⟩ E H (sCut v k) := fun a w s hs => by
  subst hii
  obtain ⟨A, c, rfl, h1, h2⟩ := (hl.at_ w hs).form
  obtain ⟨i0, hi0, hi1⟩ := Option.map_eq_some_iff.1 hs2.eq
  obtain rfl := hi.eq
  have hel : P.elem t = e2 := by simp [Program.elem, ht.eq]
  have ht' : P.underlying t = some (.slice (P.elem t)) := by rw [ht.eq, hel]
  have hr := run_slice_hm (P := P) (w := w) t A l.length c ht' q q2 (k : Int) (k : Int) (by omega) (by omega) (by omega)
  have hmin : min k l.length = k := by omega
  have hz' : (sizeOf e2).run P w = .ok size w := by simp [sizeOf, typeInfo, hi0, hi1]
  rw [hel, hz'] at hr
  have hA : (if k = 0 then A else A.map (·.add (0 * size))) = A := by
    split
    · rfl
    · cases A with
      | none => rfl
      | some a => simp; unfold Addr.add; cases a; simp
  simp only [execOp, s.ev hx, s.ev hy, s.ev hz, Option.map_some, Option.map_none, run_sliceAt_slice w t _ _ _ _ ht', Sem.run_bind, hr, Result.andThen_ok, Sem.run_pure, Int.toNat_natCast, sCut, hmin, sliced, hA, Nat.sub_zero]
/-- What a cut slice owns: the whole block. -/
theorem Ent.cut (k : Nat) (hk : k ≤ l.length) [h : RowsOf H v α e size f l F] [hf : FixLen f size] : Ent H (rows e size f (sCut v k) (l.take k) * F) := by
  rw [h.eq]
  refine Ent.star (fun x hx => ?_) (Ent.refl _)
  obtain ⟨hlen, hx⟩ := hx
  have hll : ∀ m : List α, (m.flatMap f).length = m.length * size := by
    intro m
    induction m with
    | nil => simp
    | cons a m ih => simp [ih, hf.eq, Nat.succ_mul]; omega
  refine ⟨x, ⟨hll _, ?_⟩, fun _ _ e => e⟩
  have hkl : (l.take k).length = k := by simp; omega
  rcases hx with ⟨A, rfl, hn, hk0⟩ | ⟨g, off, cap, cur, fr, rfl, h1, h2, h3, h4, h5, h6⟩
  · refine .inl ⟨A, by simp [sCut, hn], by omega, hk0⟩
  · have hle : k * size ≤ cap * size := Nat.mul_le_mul_right _ (by omega)
    refine .inr ⟨g, off, k, cur, fr, by simp only [sCut, hkl, Nat.min_eq_left hk], by omega, by omega, by omega, ?_, ?_, h6⟩
    · rw [hkl]
      have e1 : ((l.take k).flatMap f) = (l.flatMap f).take (k * size) := by
        have : l.flatMap f = (l.take k).flatMap f ++ (l.drop k).flatMap f := by rw [← List.flatMap_append, List.take_append_drop]
        rw [this, List.take_left' (by rw [hll, hkl])]
      rw [e1, ← h4, List.take_take, Nat.min_eq_left (Nat.mul_le_mul_right _ hk)]
    · exact fun i a b => h5 i a (by omega)
/-- append(v[:k:k], v[i:]...), both of one block. -/
theorem T_appendCut {t : TypeId} {bytes : Nat} (k j : Nat) (hk : k ≤ l.length) (hj : j ≤ l.length) (hu : u = sTail size v j) (hx : E.ev x = some (sCut v k)) (hy : E.ev y = some u) (hT : SlT P t e size bytes) (hf : FixLen f size) (h1 : ∀ z, ∀ c ∈ f z, c.oneCell' = true) (hn : l.length + l.length ≤ 1000000) (hby : bytes ≤ 1000) (hp : NeZero size) :
    OpT P n w0 ⟨d, .call ⟨.builtin .append, #[x, y], #[t, t]⟩, ty, pos, after, gu⟩ E (rows e size f v l) (fun v' : Value => v') (fun v' => rows e size f v' (l.take k ++ l.drop j)) := fun G a w K Q s hs hK => by
  subst hu
  have hsrc : Src P w size (l.drop j).length (sTail size v j) ((l.drop j).flatMap f) := src_of_rows ((rdr_tail' (w0 := w0) (H := rows e size f v l * G) (v := v) (f := f) (l := l) j).at_ w hs) hf.eq
  have hs2 : Sat w0 w (rows e size f (sCut v k) (l.take k) * G) := (Ent.cut (H := rows e size f v l * G) (F := G) k hk).sat hs
  have hlk : (l.take k).length ≤ l.length := by simp; omega
  have hlj : (l.drop j).length ≤ l.length := by simp
  refine wp_append_sl hT (.inl hT.ht) x y rfl hs2 (s.ev hx) (s.ev hy) hsrc (fun c hc => ?_) (by simp only [maxLen]; omega) ?_ fun v' w' hs' => hK v' w' ?_
  · obtain ⟨z, _, hz⟩ := List.mem_flatMap.1 hc; exact h1 z c hz
  · have : ((l.take k).length + (l.drop j).length) * bytes ≤ 1000000 * 1000 := Nat.mul_le_mul (by omega) hby
    omega
  · unfold rows
    rw [List.length_append, List.flatMap_append]
    exact hs'
theorem H_appendCut {t : TypeId} {bytes : Nat} (k j : Nat) (hx : E.ev x = some (sCut v k)) (hy : E.ev y = some (sTail size v j)) (hl : RowsOf H v α e size f l F) (hk : k ≤ l.length) (hj : j ≤ l.length) (hT : SlTC P t e size bytes) (hf : FixLen f size) (h1 : ∀ z, ∀ c ∈ f z, c.oneCell' = true) (hn : l.length + l.length ≤ 1000000) (hby : Nat.ble bytes 1000 = true) (hp : NeZero size) :
    OpH P n w0 ⟨d, .call ⟨.builtin .append, #[x, y], #[t, t]⟩, ty, pos, after, gu⟩ E H (fun v' : Value => v') (fun v' => rows e size f v' (l.take k ++ l.drop j) * F) := OpH.mk' (T_appendCut k j hk hj rfl hx hy hT.out hf h1 hn (Nat.le_of_ble_eq_true hby) hp) hl.eq
end
end Go.Proofs.YtapoehkdnglahaaGreat

/- Regions that draw and read two or three blocks that no operation changes; a reading call ahead of the claim. No program in sight. -/
namespace Go.Proofs.YtapoehkdnglahaaGreat
open Go.RowKit
set_option linter.unusedVariables false
set_option linter.unusedSimpArgs false
set_option linter.unusedSectionVars false
instance eqlNilN {P : Program} {t e : TypeId} [h : Und P t (.pointer e)] : BinV P .eql t (.pointer none) (.pointer none) (.bool true) := ⟨fun w => by
  have hp : P.pointee t = e := by simp [Program.pointee, h.eq]
  exact run_eql_pointer_nil (w := w) t none (by rw [hp]; exact h.eq), fun w _ _ => by rfl⟩
instance neqNilN {P : Program} {t e : TypeId} [h : Und P t (.pointer e)] : BinV P .neq t (.pointer none) (.pointer none) (.bool false) := ⟨fun w => by
  have hp : P.pointee t = e := by simp [Program.pointee, h.eq]
  exact run_neq_pointer_nil (w := w) t none (by rw [hp]; exact h.eq), fun w _ _ => by rfl⟩
section
variable {P : Program} {n : Frm} {w0 : World} {E : Env} {D : List Deferred} {H F F1 F2 : HProp} {Q : Exit → St → Prop} {l l' : List Oper}
theorem WS_drawR1 {id : Nat} (t : Nat) (idx : List Nat) {g off : Nat} {bt : TypeId} {cs : List Value} (hs : statD P l idx (fun _ => false) 1000 = true) (hl : permL l idx = some l') (hx : E.get t = some (ptr g off)) (hR : LimbB H g bt cs F) (h : DL P n w0 l.toArray Q D (cel g bt cs) emp (fun _ => false) 1000 0 false l' E F) : WS P n w0 (.region id l.toArray true) Q ⟨E, D, H⟩ :=
  WS_draw idx l' (cel g bt cs) emp F _ 1000 hs (by rw [emp_star]; exact hR.eq) (permL_eq hl) h
theorem WS_drawR2 {id : Nat} (t t2 : Nat) (idx : List Nat) {g off g2 off2 : Nat} {bt bt2 : TypeId} {cs cs2 : List Value} (hs : statD P l idx (fun _ => false) 1000 = true) (hl : permL l idx = some l') (hx : E.get t = some (ptr g off)) (hx2 : E.get t2 = some (ptr g2 off2)) (hR : LimbB H g bt cs F1) (hR2 : LimbB F1 g2 bt2 cs2 F) (h : DL P n w0 l.toArray Q D (cel g bt cs * cel g2 bt2 cs2) emp (fun _ => false) 1000 0 false l' E F) : WS P n w0 (.region id l.toArray true) Q ⟨E, D, H⟩ :=
  WS_draw idx l' (cel g bt cs * cel g2 bt2 cs2) emp F _ 1000 hs (by rw [emp_star, hR.eq, hR2.eq, star_assoc]) (permL_eq hl) h
theorem SpecQ.of {f : FuncId} {args : List Value} {X : HProp} {v : Value} (h : Spec P w0 f args X (fun _ : Unit => v) (fun _ => X)) (o : Own H X F) : SpecQ P w0 f args H v := fun w hs => by
  refine (h F w (hs.cast o.eq)).mono ?_
  rintro e w' ⟨_, he, hs'⟩
  exact ⟨he, hs'.cast o.eq.symm⟩
/-- A reading call: what it reads is not claimed yet. -/
theorem DL_callS {ops : Array Oper} {R L F0 X : HProp} {f : FuncId} {args : List Value} {v : Value} {d : Nat} {xs : List Operand} {ts : Array TypeId} {ty : TypeId} {pos : String} {after : Array Edge} {B : Nat → Bool} {k cp : Nat} {l : List Oper} (hf : IsFun P f) (hargs : E.evs xs = some args) (spec : Spec P w0 f args X (fun _ : Unit => v) (fun _ => X)) (ho : Own L X F0) (hd : Nat.blt d n.tmps = true)
    (h : DL P n w0 ops Q D R L B cp (k + 1) false l ((d, v) :: E) F) : DL P n w0 ops Q D R L B cp k false (⟨some d, .call ⟨.value (.func f), xs.toArray, ts⟩, ty, pos, after, none⟩ :: l) E F :=
  DL_tq rfl rfl hd (fun F' => TQ_call hf hargs (SpecQ.of (F := R * (F0 * F')) spec ⟨by show R * (L * F') = _; rw [ho.eq, star_assoc, star_left_comm]⟩)) h
end
section
variable {P : Program} {n : Frm} {w0 : World} {E : Env} {D : List Deferred} {H F : HProp} {d : Option Tmp} {t ty : TypeId} {pos : String} {after : Array Edge} {gu : Option (Nat × Bool)} {x y : Operand} {r kt et : Nat} {v u : Value} {κ ν : Type} [DecidableEq κ] {fk : κ → Value} {fv : ν → Value} {m : List (κ × ν)} {k : κ}
theorem Q_lookupE {z : Value} {zs : List Value} (hx : E.ev x = some (.map (some r))) (hy : E.ev y = some v) (hl : MapOf H r κ ν fk fv m F) (hkk : AsKey fk v k) (hm : MapT P t kt et) (hz : Zero P et z zs) (hk : KeyT P kt fk) (hu : optV fv z (mget m k) = u) : OpQ P n w0 ⟨d, .lookup t x y false, ty, pos, after, gu⟩ E H u := hu ▸ Q_lookup hx hy hl hkk hm hz hk
end
end Go.Proofs.YtapoehkdnglahaaGreat

/- A node's requests as keys of maps. -/
namespace Go.Proofs.YtapoehkdnglahaaGreat
open Go.RowKit
set_option linter.unusedVariables false
set_option linter.unusedSectionVars false
set_option linter.unusedSimpArgs false
theorem rq_check (empty : Bool) (x y : Int) (w : World) : (Instr.checkKey empty 10000 336 (.agg #[.int .u32 x, .int .u32 y])).run Tryz.prog w = .ok () w := by
  have u4 := Tryz.underlying34
  have hS := Tryz.underlying336
  have c2 := check_u empty 9998
  rw [show (10000 : Nat) = 9999 + 1 from rfl]
  unfold Instr.checkKey
  go_simp
theorem rq_eql (x y x' y' : Int) (w : World) :
    (Op.equal 336 (.agg #[.int .u32 x, .int .u32 y]) (.agg #[.int .u32 x', .int .u32 y'])).run Tryz.prog w = .ok (x == x' && y == y') w := by
  have u4 := Tryz.underlying34
  have hS : Tryz.prog.underlying 336 = some (.struct (Tryz.prog.fieldsOf 336)) := by kernel_rfl
  have hp : Tryz.prog.stoodInHeld 336 = false := by kernel_rfl
  rw [show Op.equal 336 = Op.equalIn (9999 + 1) 336 from rfl, run_equalIn_agg w 9999 336 _ _ hS hp]
  simp only [Program.fieldsOf, Tryz.underlying336]
  by_cases h1 : x = x' <;> by_cases h2 : y = y' <;> go_simp
instance : KeyT Tryz.prog 336 rqV := keyT_agg (fs := Tryz.prog.fieldsOf 336) (by kernel_rfl) (fun _ a b w => by
    have h := rq_eql (a.src.toNat : Int) (a.id.toNat : Int) (b.src.toNat : Int) (b.id.toNat : Int) w
    have e : (((a.src.toNat : Int) == (b.src.toNat : Int)) && ((a.id.toNat : Int) == (b.id.toNat : Int))) = decide (a = b) := by
      rw [Bool.eq_iff_iff]
      simp only [Bool.and_eq_true, beq_iff_eq, decide_eq_true_eq]
      constructor
      · intro ⟨h1, h2⟩
        have e1 : a.src = b.src := UInt32.toNat_inj.1 (by omega)
        have e2 : a.id = b.id := UInt32.toNat_inj.1 (by omega)
        cases a; cases b; simp_all
      · rintro rfl; exact ⟨rfl, rfl⟩
    rw [e] at h
    exact h) (fun empty k w => rq_check empty _ _ w) (fun k => by
    show Instr.sameBits (9999 + 1) (.agg #[u32 k.src, u32 k.id]) (.agg #[u32 k.src, u32 k.id]) = true
    simp [Instr.sameBits, u32])
instance (v1 v2 : Value) (a b : UInt32) [h1 : AsU32 v1 a] [h2 : AsU32 v2 b] : AsKey rqV (.agg #[v1, v2]) ⟨a, b⟩ := ⟨by rw [h1.eq, h2.eq]; rfl⟩
instance (k : Rq) : AsKey rqV (.agg (rqC k).toArray) k := ⟨rfl⟩
end Go.Proofs.YtapoehkdnglahaaGreat

/- A node's small functions, its handles out of sight. -/
namespace Go.Proofs.YtapoehkdnglahaaGreat
open Go.RowKit
set_option linter.unusedVariables false
set_option linter.unusedSectionVars false
set_option linter.unusedSimpArgs false
theorem Spec.toA {P : Program} {w0 : World} {f : FuncId} {args : List Value} {pre : HProp} {α : Type} {res : α → Value} {gn : Nat} {s : Nd} {h : α → NH} (hs : Spec P w0 f args pre res (fun x => nodP gn s (h x))) : Spec P w0 f args pre res (fun _ => nodA gn s) := fun G w hw => (hs G w hw).mono fun e w' ⟨x, he, hx⟩ => ⟨x, he, (Ent.nod (h x) (Ent.refl _)).sat hx⟩
/-- The room that is left in an answer. -/
structure Nd.Fit (s : Nd) (k : Nat) : Prop where
  frames : s.out.frames.length + k ≤ 800000
  came : s.out.came.length + k ≤ 800000
  dropped : s.out.dropped.length + k ≤ 800000
  recs : s.recs.length + 9 * k ≤ 400000
  journal : s.out.journal.length + 120 * k ≤ 800000
theorem Nd.Fit.le {s : Nd} {k m : Nat} (h : s.Fit k) (hm : m ≤ k) : s.Fit m := ⟨by have := h.frames; omega, by have := h.came; omega, by have := h.dropped; omega, by have := h.recs; omega, by have := h.journal; omega⟩
theorem Nd.Fit.send {s : Nd} {k : Nat} (h : s.Fit (k + 1)) (to : UInt32) (p : Pk) : (s.send to p).Fit k := by
  obtain ⟨a, b, c, d, e⟩ := h
  constructor <;> simp only [Nd.send, List.length_append, List.length_cons, List.length_nil] <;> omega
theorem Nd.Fit.drop {s : Nd} {k : Nat} (h : s.Fit (k + 1)) (r : Int) : (s.drop r).Fit k := by
  obtain ⟨a, b, c, d, e⟩ := h
  constructor <;> simp only [Nd.drop, List.length_append, List.length_cons, List.length_nil] <;> omega
theorem Nd.Fit.ls {s : Nd} {k : Nat} (h : s.Fit k) (l : List Ln) : Nd.Fit { s with ls := l } k := ⟨h.frames, h.came, h.dropped, h.recs, h.journal⟩
variable (w0 : World)
theorem drop_A (gn : Nat) (s : Nd) (h : NH) (k : Int) (hf : s.Fit 1) : Spec Tryz.prog w0 136 [ptr gn 0, .int .i64 k] (nodP gn s h) (fun _ : Value => .tuple #[]) (fun _ => nodA gn (s.drop k)) := (ndrop_spec w0 gn s h k (by have := hf.dropped; omega)).toA
theorem send_E0 (gn : Nat) (s : Nd) (h : NH) (to : UInt32) (p : Pk) (hp : p.Ok) (hl : p.lost = []) (hf : s.Fit 1) : Spec Tryz.prog w0 188 [ptr gn 0, u32 to, p.val (.slice none 0 0)] (nodP gn s h) (fun _ : Value => .tuple #[]) (fun vf => nodP gn (s.send to p) { h with vf := vf }) := by
  have := nsend_spec w0 gn s h to p hp (.slice none 0 0) rfl emp (hX := by rw [hl]; exact rdr_nil _ _ _) (by have := hf.frames; omega)
  simpa only [star_emp] using this
attribute [local irreducible] WS LS OpQ OpT OpH OpTQ Spec SpecQ cel
set_option maxRecDepth 100000 in
set_option maxHeartbeats 8000000 in
theorem soon_spec (gn : Nat) (s : Nd) (h : NH) : Spec Tryz.prog w0 189 [ptr gn 0] (cel gn 184 (nodC 1 s h s.out)) (fun _ : Unit => u64 s.soon) (fun _ => cel gn 184 (nodC 1 s h s.out)) := by
  refine Spec.enter Tryz.func189 rfl Tryz.ntmps189 rfl fun G => ?_
  simp only [argE, nodC, Nd.soon]
  repeat' (first | (refine WS_seqK ?_; intro K hK) | (refine hK _ ?_; clear hK K) | refine WS_region ?_ | refine LS_nil ?_ | ((refine' LQ ?zh rfl ?_); case zh => intro F'; first | exact Q_move rfl | exact Q_assign rfl | exact Q_nilCheck rfl | exact Q_fieldAddr rfl iI rfl | exact Q_load rfl iI iI rfl) | ((refine' LQ ?zh rfl ?_); case zh => intro F'; exact Q_bin rfl rfl iI) | (first | refine WS_block ?_ | refine WS_skip ?_ | refine WS_ret ?_ | refine WS_exit ?_ | refine WS_label ?_))
  exact ret_tmp (.inl rfl) rfl rfl ⟨(), rfl, by ((try simp only [star_assoc, emp_star, star_emp]); (repeat' (first | exact Ent.last | refine Ent.take ?_ | refine Ent.nilT ?_ | refine Ent.takeR (by first | rfl | assumption | (simp; done)) ?_ | exact Ent.refl _)))⟩
end Go.Proofs.YtapoehkdnglahaaGreat

/- A node's maps of searches and of texts that wait, against their lists: plain, and memory. -/
namespace Go.Proofs.YtapoehkdnglahaaGreat
open Go.RowKit
set_option linter.unusedVariables false
set_option linter.unusedSectionVars false
set_option linter.unusedSimpArgs false
/-! ### A map laid beside a list -/
section
variable {κ ν α : Type} [DecidableEq κ]
def zmap (key : α → κ) (bs : List ν) (ss : List α) : List (κ × ν) := List.zipWith (fun b s => (key s, b)) bs ss
def kfind (key : α → κ) : List α → κ → Option Nat
  | [], _ => none
  | x :: r, d => if key x = d then some 0 else (kfind key r d).map (· + 1)
variable {key : α → κ}
theorem kfind_some : ∀ {ss : List α} {d : κ} {k : Nat}, kfind key ss d = some k → ∃ x, ss[k]? = some x ∧ key x = d
  | [], _, _, h => by cases h
  | x :: r, d, k, h => by
    simp only [kfind] at h
    split at h
    · rename_i e; cases h; exact ⟨x, rfl, e⟩
    · cases hr : kfind key r d with
      | none => rw [hr] at h; cases h
      | some j => rw [hr] at h; cases h; obtain ⟨y, h1, h2⟩ := kfind_some hr; exact ⟨y, by simpa using h1, h2⟩
theorem kfind_none : ∀ {ss : List α} {d : κ}, kfind key ss d = none ↔ ∀ x ∈ ss, key x ≠ d
  | [], _ => by simp [kfind]
  | x :: r, d => by
    simp only [kfind]
    split
    · rename_i e; simp [e]
    · rename_i e
      rw [Option.map_eq_none_iff, kfind_none]
      simp [e]
/-- Where keys are apart, a place tells its key. -/
theorem kfind_at : ∀ {ss : List α} {k : Nat} {x : α}, (ss.map key).Nodup → ss[k]? = some x → kfind key ss (key x) = some k
  | [], _, _, _, h => by simp at h
  | y :: r, 0, x, _, h => by simp at h; subst h; simp [kfind]
  | y :: r, k + 1, x, hn, h => by
    rw [List.map_cons, List.nodup_cons] at hn
    have hx : r[k]? = some x := by simpa using h
    have ih := kfind_at hn.2 hx
    simp only [kfind]
    rw [if_neg (fun e => hn.1 (by rw [e]; exact List.mem_map_of_mem (List.mem_of_getElem? hx))), ih]; rfl
theorem mfind_zmap : ∀ (bs : List ν) (ss : List α) (d : κ), bs.length = ss.length → mfind (zmap key bs ss) d = kfind key ss d
  | [], [], _, _ => rfl
  | b :: bs, s :: ss, d, h => by
    have ih := mfind_zmap bs ss d (by simpa using h)
    show (if key s = d then some 0 else (mfind (zmap key bs ss) d).map (· + 1)) = _
    rw [ih]; rfl
  | [], _ :: _, _, h => by simp at h
  | _ :: _, [], _, h => by simp at h
theorem zmap_get {bs : List ν} {ss : List α} {k : Nat} {b : ν} {x : α} (hb : bs[k]? = some b) (hx : ss[k]? = some x) : (zmap key bs ss)[k]? = some (key x, b) := by
  simp [zmap, List.getElem?_zipWith, hb, hx]
theorem mget_zmap_some {bs : List ν} {ss : List α} {d : κ} {k : Nat} {b : ν} (hl : bs.length = ss.length) (hk : kfind key ss d = some k) (hb : bs[k]? = some b) : mget (zmap key bs ss) d = some b := by
  obtain ⟨x, hx, _⟩ := kfind_some hk
  unfold mget
  rw [mfind_zmap bs ss d hl, hk]
  simp [zmap_get hb hx]
theorem mget_zmap_none {bs : List ν} {ss : List α} {d : κ} (hl : bs.length = ss.length) (hk : kfind key ss d = none) : mget (zmap key bs ss) d = none := by
  unfold mget
  rw [mfind_zmap bs ss d hl, hk]
theorem zmap_erase (bs : List ν) (ss : List α) (k : Nat) : (zmap key bs ss).eraseIdx k = zmap key (bs.eraseIdx k) (ss.eraseIdx k) := by
  induction bs generalizing ss k with
  | nil => simp [zmap]
  | cons b bs ih =>
    cases ss with
    | nil => simp [zmap]
    | cons s ss =>
      cases k with
      | zero => rfl
      | succ k =>
        have := ih ss k
        simp only [zmap, List.zipWith_cons_cons, List.eraseIdx_cons_succ] at this ⊢
        rw [this]
theorem mdel_zmap {bs : List ν} {ss : List α} {d : κ} {k : Nat} (hl : bs.length = ss.length) (hk : kfind key ss d = some k) : mdel (zmap key bs ss) d = zmap key (bs.eraseIdx k) (ss.eraseIdx k) := by
  unfold mdel
  rw [mfind_zmap bs ss d hl, hk]
  exact zmap_erase _ _ _
theorem mdel_zmap_none {bs : List ν} {ss : List α} {d : κ} (hl : bs.length = ss.length) (hk : kfind key ss d = none) : mdel (zmap key bs ss) d = zmap key bs ss := by
  unfold mdel
  rw [mfind_zmap bs ss d hl, hk]
theorem mset_zmap_none {bs : List ν} {ss : List α} {d : κ} (b : ν) (x : α) (hx : key x = d) (hl : bs.length = ss.length) (hk : kfind key ss d = none) : mset (zmap key bs ss) d b = zmap key (bs ++ [b]) (ss ++ [x]) := by
  unfold mset
  rw [mfind_zmap bs ss d hl, hk]
  simp only [zmap]
  rw [List.zipWith_append hl, ← hx]; rfl
theorem mset_zmap_some {bs : List ν} {ss : List α} {d : κ} {k : Nat} (b : ν) (x : α) (hx : key x = d) (hl : bs.length = ss.length) (hk : kfind key ss d = some k) : mset (zmap key bs ss) d b = zmap key (bs.set k b) (ss.set k x) := by
  unfold mset
  rw [mfind_zmap bs ss d hl, hk]
  obtain ⟨y, hy, hd⟩ := kfind_some hk
  have hlt := (List.getElem?_eq_some_iff.1 hy).1
  apply List.ext_getElem?
  intro j
  simp only [zmap, List.getElem?_zipWith, List.getElem?_set, List.length_zipWith]
  by_cases e : k = j
  · subst e; simp [hlt, hl, hx]
  · simp [e]
theorem zmap_set {bs : List ν} {ss : List α} {k : Nat} {x y : α} (hx : ss[k]? = some x) (hk : key y = key x) : zmap key bs (ss.set k y) = zmap key bs ss := by
  apply List.ext_getElem?
  intro j
  simp only [zmap, List.getElem?_zipWith, List.getElem?_set]
  by_cases e : k = j
  · subst e
    have hlt := (List.getElem?_eq_some_iff.1 hx).1
    simp only [if_true, hlt, hx]
    cases bs[k]? <;> simp [hk]
  · simp [e]
/-! ### A row of things laid beside a list -/
def zrow (p : ν → α → HProp) : List ν → List α → HProp
  | b :: bs, s :: ss => p b s * zrow p bs ss
  | _, _ => emp
variable {p : ν → α → HProp}
theorem zrow_hole (p : ν → α → HProp) : ∀ {bs : List ν} {ss : List α} {k : Nat} {b : ν} {x : α}, bs[k]? = some b → ss[k]? = some x →
    ∃ F, zrow p bs ss = p b x * F ∧ (∀ b' x', zrow p (bs.set k b') (ss.set k x') = p b' x' * F) ∧ zrow p (bs.eraseIdx k) (ss.eraseIdx k) = F
  | b0 :: bs, s0 :: ss, 0, b, x, hb, hx => by
    simp at hb hx; subst hb; subst hx
    exact ⟨zrow p bs ss, rfl, fun _ _ => rfl, rfl⟩
  | b0 :: bs, s0 :: ss, k + 1, b, x, hb, hx => by
    obtain ⟨F, h1, h2, h3⟩ := zrow_hole p (bs := bs) (ss := ss) (k := k) (by simpa using hb) (by simpa using hx)
    exact ⟨p b0 s0 * F, by rw [zrow, h1, star_left_comm], fun b' x' => by rw [List.set_cons_succ, List.set_cons_succ, zrow, h2, star_left_comm], by rw [List.eraseIdx_cons_succ, List.eraseIdx_cons_succ, zrow, h3]⟩
  | [], _, _, _, _, hb, _ => by simp at hb
  | _ :: _, [], _, _, _, _, hl => by simp at hl
theorem zrow_snoc : ∀ {bs : List ν} {ss : List α} (b : ν) (x : α), bs.length = ss.length → zrow p (bs ++ [b]) (ss ++ [x]) = p b x * zrow p bs ss
  | [], [], b, x, _ => rfl
  | b0 :: bs, s0 :: ss, b, x, h => by
    show p b0 s0 * zrow p (bs ++ [b]) (ss ++ [x]) = _
    rw [zrow_snoc b x (by simpa using h), star_left_comm]; rfl
  | [], _ :: _, _, _, h => by simp at h
  | _ :: _, [], _, _, h => by simp at h
end
theorem srFind_k (ss : List Sr) (d : UInt32) : srFind ss d = kfind (·.dest) ss d := by
  unfold srFind
  induction ss with
  | nil => rfl
  | cons x r ih => rw [List.findIdx?_cons]; simp only [kfind, decide_eq_true_eq]; rw [ih]
theorem nmFind_k (ss : List Sr) (d : Int) : nmFind ss d = kfind (·.name) ss d := by
  unfold nmFind
  induction ss with
  | nil => rfl
  | cons x r ih => rw [List.findIdx?_cons]; simp only [kfind, decide_eq_true_eq]; rw [ih]
theorem qmap_z (bs : List Nat) (ss : List Sr) : qmap bs ss = zmap (·.dest) bs ss := rfl
theorem imap_z (bs : List Nat) (ss : List Sr) : imap bs ss = zmap (·.name) bs ss := rfl
def srP (g : Nat) (b : Nat) (s : Sr) : HProp := cel b 234 (srC g b s)
theorem srsP_z (g : Nat) : ∀ (bs : List Nat) (ss : List Sr), srsP g bs ss = zrow (srP g) bs ss
  | [], [] => rfl
  | [], _ :: _ => rfl
  | _ :: _, [] => rfl
  | b :: bs, s :: ss => by unfold srsP zrow; rw [srsP_z g bs ss]; rfl
def txP (v : Option Addr × Nat × Nat) (w : UInt32 × List Str) : HProp := rows 9 1 strCc (slV' v) w.2
theorem textsP_z : ∀ (vs : List (Option Addr × Nat × Nat)) (ws : List (UInt32 × List Str)), textsP vs ws = zrow txP vs ws
  | [], [] => rfl
  | [], _ :: _ => rfl
  | _ :: _, [] => rfl
  | v :: vs, w :: ws => by unfold textsP zrow; rw [textsP_z vs ws]; rfl
/-- The texts that wait, as the map tells. -/
theorem mget_k (ws : List (UInt32 × List Str)) (d : UInt32) : mget ws d = ((kfind (·.1) ws d).bind (ws[·]?)).map (·.2) := by
  have : ∀ ws : List (UInt32 × List Str), mfind ws d = kfind (·.1) ws d := fun ws => by
    induction ws with
    | nil => rfl
    | cons x r ih => simp only [mfind, kfind]; rw [ih]
  unfold mget
  rw [this]
  cases hk : kfind (·.1) ws d with
  | none => rfl
  | some k =>
    obtain ⟨x, hx, _⟩ := kfind_some hk
    simp [hx]
end Go.Proofs.YtapoehkdnglahaaGreat

/- A node's requests of late; a search goes further; it ends. -/
namespace Go.Proofs.YtapoehkdnglahaaGreat
open Go.RowKit
set_option linter.unusedVariables false
set_option linter.unusedSectionVars false
set_option linter.unusedSimpArgs false
theorem srsQ_eq {g : Nat} {bs : List Nat} {ss : List Sr} (h : bs.length = ss.length) : srsQ g bs ss = srsP g bs ss := by unfold srsQ; rw [pure'_true h, emp_star]
theorem waitQ_eq {r : Nat} {vs : List (Option Addr × Nat × Nat)} {ws : List (UInt32 × List Str)} (h : vs.length = ws.length) : waitQ r vs ws = mp u32 slV' r (wmap vs ws) * textsP vs ws := by unfold waitQ; rw [pure'_true h, emp_star]
theorem WS_lens {P : Program} {n : Frm} {w0 : World} {E : Env} {D : List Deferred} {F : HProp} {c : Code} {Q : Exit → St → Prop} {mu : Int} {g : Nat} {s : Nd} {h : NH} (hw : h.sb.length = s.srs.length → h.wv.length = s.wait.length → WS P n w0 c Q ⟨E, D, nodPm mu g s h * F⟩) : WS P n w0 c Q ⟨E, D, nodPm mu g s h * F⟩ := fun a w gd => by
  have e : nodPm mu g s h * F = pure' (h.sb.length = s.srs.length) * (pure' (h.wv.length = s.wait.length) * ((cel g 184 (nodC mu s h s.out) * (rows 48 3 Rec.cells h.vr s.recs * (mp u32 u32 h.rh s.held * (tabQ h.tb s.self s.ls * (outH h s.out * (mp rqV u64 h.rs s.seen * (rows 336 2 rqC h.vo s.order * (mp u32 slV' h.rw (wmap h.wv s.wait) * textsP h.wv s.wait * (mp u32 ptrV h.rq (qmap h.sb s.srs) * (mp i64 ptrV h.ri (imap h.sb s.srs) * (srsP g h.sb s.srs * (clockQ h.cb h.cr s.last s.clk * rows 35 1 wrd64C h.vs s.sent)))))))))))) * F)) := by
    unfold nodPm restP restC waitQ srsQ
    ac_rfl
  obtain ⟨h1, hs⟩ := (gd.sat.cast e).pure
  exact hw h1 hs.pure.1 a w gd
/-- What is known of the searches. -/
structure SrOk (s : Nd) : Prop where
  dests : (s.srs.map (·.dest)).Nodup
  names : (s.srs.map (·.name)).Nodup
  each : ∀ x ∈ s.srs, 0 ≤ x.ttl ∧ x.ttl ≤ 8 ∧ 0 ≤ x.retries ∧ x.retries ≤ 2 ∧ x.name ≤ s.names
theorem SrOk.dest {s : Nd} (h : SrOk s) {k : Nat} {x : Sr} (hx : s.srs[k]? = some x) : kfind (·.dest) s.srs x.dest = some k := kfind_at (key := fun x : Sr => x.dest) h.dests hx
theorem SrOk.name {s : Nd} (h : SrOk s) {k : Nat} {x : Sr} (hx : s.srs[k]? = some x) : kfind (·.name) s.srs x.name = some k := kfind_at (key := fun x : Sr => x.name) h.names hx
theorem busyN_succ {now : UInt64} {l : List UInt64} {j : Nat} {a : UInt64} (h : l[j]? = some a) : busyN now (l.take (j + 1)) = busyN now (l.take j) + (if now < a + 1000 then 1 else 0) := by
  rw [List.take_add_one, h, Option.toList_some]
  unfold busyN
  rw [List.filter_append, List.length_append]
  by_cases hc : now < a + 1000
  · rw [if_pos hc, List.filter_cons, if_pos (decide_eq_true hc)]; rfl
  · rw [if_neg hc, List.filter_cons, if_neg (by simpa using hc)]; rfl
theorem busyN_le (now : UInt64) (l : List UInt64) : busyN now l ≤ l.length := List.length_filter_le _ _
attribute [local irreducible] WS LS OpQ OpT OpH OpTQ Spec SpecQ cel
variable (w0 : World)
set_option maxRecDepth 100000 in
set_option maxHeartbeats 8000000 in
theorem busy_spec (gn : Nat) (s : Nd) (h : NH) (hl : s.sent.length ≤ 1000) : Spec Tryz.prog w0 234 [ptr gn 0] (cel gn 184 (nodC 1 s h s.out) * rows 35 1 wrd64C h.vs s.sent) (fun _ : Unit => .bool (decide (5 ≤ busyN s.now s.sent))) (fun _ => cel gn 184 (nodC 1 s h s.out) * rows 35 1 wrd64C h.vs s.sent) := by
  refine Spec.enter Tryz.func234 rfl Tryz.ntmps234 rfl fun G => ?_
  obtain ⟨vs, hvs⟩ : ∃ v, v = h.vs := ⟨_, rfl⟩
  rw [← hvs]
  refine WS_form vs iI fun A cap hv => ?_
  rw [hvs]
  rw [hvs] at hv
  simp only [argE, nodC, hv]
  repeat' (first | (refine WS_seqK ?_; intro K hK) | (refine hK _ ?_; clear hK K) | refine WS_region ?_ | refine LS_nil ?_ | ((refine' LQ ?zh rfl ?_); case zh => intro F'; first | exact Q_move rfl | exact Q_assign rfl | exact Q_nilCheck rfl | exact Q_fieldAddr rfl iI rfl | exact Q_load rfl iI iI rfl | exact Q_len rfl iI) | (first | refine WS_block ?_ | refine WS_skip ?_ | refine WS_ret ?_ | refine WS_exit ?_ | refine WS_label ?_))
  refine WS_loop (fun k τ => ∃ j : Nat, j + k = s.sent.length ∧ τ = ⟨[(11, .int .i64 (j : Int)), (10, .int .i64 (s.sent.length : Int)), (9, .slice A s.sent.length cap), (3, .int .i64 (busyN s.now (s.sent.take j) : Int)), (0, ptr gn 0)], [], cel gn 184 (nodC 1 s h s.out) * (rows 35 1 wrd64C (.slice A s.sent.length cap) s.sent * G)⟩) ?_ ?_
  · exact ⟨s.sent.length, _, ⟨0, by omega, rfl⟩, ⟨rfl, rfl, rfl, rfl, rfl, trivial⟩, rfl, by simp only [nodC, hv]; ((try simp only [star_assoc, emp_star, star_emp]); (repeat' (first | exact Ent.last | refine Ent.take ?_ | refine Ent.nilT ?_ | refine Ent.takeR (by first | rfl | assumption | (simp; done)) ?_ | exact Ent.refl _)))⟩
  · rintro k τ ⟨j, hjk, rfl⟩
    simp only [nodC, hv]
    rcases Nat.lt_or_ge j s.sent.length with hlt | hge
    · obtain ⟨z, hz⟩ : ∃ z, s.sent[j]? = some z := ⟨_, List.getElem?_eq_getElem hlt⟩
      have hb := busyN_succ (now := s.now) hz
      have hbl := busyN_le s.now (s.sent.take j)
      rw [List.length_take] at hbl
      generalize busyN s.now (s.sent.take j) = q at *
      by_cases hc : s.now < z + 1000
      · rw [if_pos hc] at hb
        repeat' (first | (refine WS_seqK ?_; intro K hK) | (refine hK _ ?_; clear hK K) | (with_reducible (first | refine thenS_n ?_ | refine thenS_e ?_ | refine blockS_n ?_ | refine blockS_e ?_ | refine blockS_o rfl ?_ | refine thenS_r ?_ | refine blockS_r ?_ | refine use_K (by assumption) ?_)) | refine WS_region ?_ | refine LS_nil ?_ | ((refine' LQ ?zh rfl ?_); case zh => intro F'; first | exact Q_move rfl | exact Q_assign rfl | exact Q_nilCheck rfl | exact Q_fieldAddr rfl iI rfl | exact Q_load rfl iI iI rfl | exact Q_bin_t rfl rfl iI (by first | assumption | omega) | exact Q_addI rfl rfl (by omega) | exact Q_index rfl rfl iI iI iI iI (by first | assumption | omega | (simp [be_length] <;> omega)) | exact Q_loadR rfl iI iI iI (by assumption) rfl) | ((refine' LQ ?zh rfl ?_); case zh => intro F'; exact Q_bin rfl rfl iI) | (first | refine WS_block ?_ | refine WS_skip ?_ | refine WS_ret ?_ | refine WS_exit ?_ | refine WS_label ?_) | (show WS _ _ _ (.cond _ _ _) _ _; first | refine WS_condT rfl iI ?_ | refine WS_condF rfl iI ?_ | refine WS_condH_t rfl (by assumption) ?_ | refine WS_condH_f rfl (by assumption) ?_ | (refine WS_cond rfl ?_ ?_ <;> intro hc <;> (try simp only [decide_eq_true_eq, decide_eq_false_iff_not, Bool.not_eq_eq_eq_not, Bool.not_true, Bool.not_false, Bool.and_eq_true, Bool.or_eq_true, bne_iff_ne, beq_iff_eq, ne_eq, Decidable.not_not] at hc) <;> (try (exfalso; first | contradiction | omega; done)))))
        exact ⟨k - 1, _, by omega, ⟨j + 1, by omega, rfl⟩, ⟨rfl, rfl, rfl, by rw [hb]; rfl, rfl, trivial⟩, rfl, by simp only [nodC, hv]; ((try simp only [star_assoc, emp_star, star_emp]); (repeat' (first | exact Ent.last | refine Ent.take ?_ | refine Ent.nilT ?_ | refine Ent.takeR (by first | rfl | assumption | (simp; done)) ?_ | exact Ent.refl _)))⟩
      · rw [if_neg hc] at hb
        repeat' (first | (refine WS_seqK ?_; intro K hK) | (refine hK _ ?_; clear hK K) | (with_reducible (first | refine thenS_n ?_ | refine thenS_e ?_ | refine blockS_n ?_ | refine blockS_e ?_ | refine blockS_o rfl ?_ | refine thenS_r ?_ | refine blockS_r ?_ | refine use_K (by assumption) ?_)) | refine WS_region ?_ | refine LS_nil ?_ | ((refine' LQ ?zh rfl ?_); case zh => intro F'; first | exact Q_move rfl | exact Q_assign rfl | exact Q_nilCheck rfl | exact Q_fieldAddr rfl iI rfl | exact Q_load rfl iI iI rfl | exact Q_bin_t rfl rfl iI (by first | assumption | omega) | exact Q_bin_f rfl rfl iI (by first | assumption | omega) | exact Q_addI rfl rfl (by omega) | exact Q_index rfl rfl iI iI iI iI (by first | assumption | omega | (simp [be_length] <;> omega)) | exact Q_loadR rfl iI iI iI (by assumption) rfl) | ((refine' LQ ?zh rfl ?_); case zh => intro F'; exact Q_bin rfl rfl iI) | (first | refine WS_block ?_ | refine WS_skip ?_ | refine WS_ret ?_ | refine WS_exit ?_ | refine WS_label ?_) | (show WS _ _ _ (.cond _ _ _) _ _; first | refine WS_condT rfl iI ?_ | refine WS_condF rfl iI ?_ | refine WS_condH_t rfl (by assumption) ?_ | refine WS_condH_f rfl (by assumption) ?_ | (refine WS_cond rfl ?_ ?_ <;> intro hc <;> (try simp only [decide_eq_true_eq, decide_eq_false_iff_not, Bool.not_eq_eq_eq_not, Bool.not_true, Bool.not_false, Bool.and_eq_true, Bool.or_eq_true, bne_iff_ne, beq_iff_eq, ne_eq, Decidable.not_not] at hc) <;> (try (exfalso; first | contradiction | omega; done)))))
        exact ⟨k - 1, _, by omega, ⟨j + 1, by omega, rfl⟩, ⟨rfl, rfl, rfl, by rw [hb]; rfl, rfl, trivial⟩, rfl, by simp only [nodC, hv]; ((try simp only [star_assoc, emp_star, star_emp]); (repeat' (first | exact Ent.last | refine Ent.take ?_ | refine Ent.nilT ?_ | refine Ent.takeR (by first | rfl | assumption | (simp; done)) ?_ | exact Ent.refl _)))⟩
    · obtain rfl : j = s.sent.length := by omega
      rw [List.take_of_length_le (Nat.le_refl _)]
      by_cases hc : (5 : Int) ≤ (busyN s.now s.sent : Int)
      · repeat' (first | (refine WS_seqK ?_; intro K hK) | (refine hK _ ?_; clear hK K) | (with_reducible (first | refine thenS_n ?_ | refine thenS_e ?_ | refine blockS_n ?_ | refine blockS_e ?_ | refine blockS_o rfl ?_ | refine thenS_r ?_ | refine blockS_r ?_ | refine use_K (by assumption) ?_)) | refine WS_region ?_ | refine LS_nil ?_ | ((refine' LQ ?zh rfl ?_); case zh => intro F'; first | exact Q_move rfl | exact Q_assign rfl | exact Q_bin_t rfl rfl iI (by first | assumption | omega) | exact Q_bin_f rfl rfl iI (by first | assumption | omega)) | (first | refine WS_block ?_ | refine WS_skip ?_ | refine WS_ret ?_ | refine WS_exit ?_ | refine WS_label ?_) | (show WS _ _ _ (.cond _ _ _) _ _; first | refine WS_condT rfl iI ?_ | refine WS_condF rfl iI ?_ | refine WS_condH_t rfl (by assumption) ?_ | refine WS_condH_f rfl (by assumption) ?_ | (refine WS_cond rfl ?_ ?_ <;> intro hc <;> (try simp only [decide_eq_true_eq, decide_eq_false_iff_not, Bool.not_eq_eq_eq_not, Bool.not_true, Bool.not_false, Bool.and_eq_true, Bool.or_eq_true, bne_iff_ne, beq_iff_eq, ne_eq, Decidable.not_not] at hc) <;> (try (exfalso; first | contradiction | omega; done)))))
        exact ret_tmp (.inl rfl) rfl rfl ⟨(), by rw [decide_eq_true (by omega)], by ((try simp only [star_assoc, emp_star, star_emp]); (repeat' (first | exact Ent.last | refine Ent.take ?_ | refine Ent.nilT ?_ | refine Ent.takeR (by first | rfl | assumption | (simp; done)) ?_ | exact Ent.refl _)))⟩
      · repeat' (first | (refine WS_seqK ?_; intro K hK) | (refine hK _ ?_; clear hK K) | (with_reducible (first | refine thenS_n ?_ | refine thenS_e ?_ | refine blockS_n ?_ | refine blockS_e ?_ | refine blockS_o rfl ?_ | refine thenS_r ?_ | refine blockS_r ?_ | refine use_K (by assumption) ?_)) | refine WS_region ?_ | refine LS_nil ?_ | ((refine' LQ ?zh rfl ?_); case zh => intro F'; first | exact Q_move rfl | exact Q_assign rfl | exact Q_bin_f rfl rfl iI (by first | assumption | omega)) | (first | refine WS_block ?_ | refine WS_skip ?_ | refine WS_ret ?_ | refine WS_exit ?_ | refine WS_label ?_) | (show WS _ _ _ (.cond _ _ _) _ _; first | refine WS_condT rfl iI ?_ | refine WS_condF rfl iI ?_ | refine WS_condH_t rfl (by assumption) ?_ | refine WS_condH_f rfl (by assumption) ?_ | (refine WS_cond rfl ?_ ?_ <;> intro hc <;> (try simp only [decide_eq_true_eq, decide_eq_false_iff_not, Bool.not_eq_eq_eq_not, Bool.not_true, Bool.not_false, Bool.and_eq_true, Bool.or_eq_true, bne_iff_ne, beq_iff_eq, ne_eq, Decidable.not_not] at hc) <;> (try (exfalso; first | contradiction | omega; done)))))
        exact ret_tmp (.inl rfl) rfl rfl ⟨(), by rw [decide_eq_false (by omega)], by ((try simp only [star_assoc, emp_star, star_emp]); (repeat' (first | exact Ent.last | refine Ent.take ?_ | refine Ent.nilT ?_ | refine Ent.takeR (by first | rfl | assumption | (simp; done)) ?_ | exact Ent.refl _)))⟩
set_option maxRecDepth 100000 in
set_option maxHeartbeats 8000000 in
theorem further_spec (gn b : Nat) (x : Sr) (h : 0 ≤ x.ttl ∧ x.ttl ≤ 8 ∧ 0 ≤ x.retries ∧ x.retries ≤ 2) : Spec Tryz.prog w0 232 [ptr b 0] (cel b 234 (srC gn b x)) (fun _ : Unit => .bool x.further.isSome) (fun _ => cel b 234 (srC gn b (x.further.getD x))) := by
  refine Spec.enter Tryz.func232 rfl Tryz.ntmps232 rfl fun G => ?_
  simp only [argE, srC]
  unfold Sr.further
  by_cases h1 : x.ttl < 5
  · simp only [if_pos h1, Option.isSome_some, Option.getD_some]
    repeat' (first | (refine WS_seqK ?_; intro K hK) | (refine hK _ ?_; clear hK K) | refine WS_region ?_ | refine LS_nil ?_ | ((refine' LQ ?zh rfl ?_); case zh => intro F'; first | exact Q_move rfl | exact Q_assign rfl | exact Q_nilCheck rfl | exact Q_fieldAddr rfl iI rfl | exact Q_load rfl iI iI rfl | exact Q_bin_t rfl rfl iI (by first | assumption | omega) | exact Q_addI rfl rfl (by omega)) | ((refine' LS_h0 ?zh ?_); (case zh => exact H_storeO rfl rfl iI iI iI rfl); intro g) | (first | refine WS_block ?_ | refine WS_skip ?_ | refine WS_ret ?_ | refine WS_exit ?_ | refine WS_label ?_) | (show WS _ _ _ (.cond _ _ _) _ _; first | refine WS_condT rfl iI ?_ | refine WS_condF rfl iI ?_ | refine WS_condH_t rfl (by assumption) ?_ | refine WS_condH_f rfl (by assumption) ?_ | (refine WS_cond rfl ?_ ?_ <;> intro hc <;> (try simp only [decide_eq_true_eq, decide_eq_false_iff_not, Bool.not_eq_eq_eq_not, Bool.not_true, Bool.not_false, Bool.and_eq_true, Bool.or_eq_true, bne_iff_ne, beq_iff_eq, ne_eq, Decidable.not_not] at hc) <;> (try (exfalso; first | contradiction | omega; done)))))
    exact ret_tmp (.inl rfl) rfl rfl ⟨(), rfl, by ((try simp only [star_assoc, emp_star, star_emp]); (repeat' (first | exact Ent.last | refine Ent.take ?_ | refine Ent.nilT ?_ | refine Ent.takeR (by first | rfl | assumption | (simp; done)) ?_ | exact Ent.refl _)))⟩
  · simp only [if_neg h1]
    by_cases h2 : x.ttl < 8
    · simp only [if_pos h2, Option.isSome_some, Option.getD_some]
      repeat' (first | (refine WS_seqK ?_; intro K hK) | (refine hK _ ?_; clear hK K) | refine WS_region ?_ | refine LS_nil ?_ | ((refine' LQ ?zh rfl ?_); case zh => intro F'; first | exact Q_move rfl | exact Q_assign rfl | exact Q_nilCheck rfl | exact Q_fieldAddr rfl iI rfl | exact Q_load rfl iI iI rfl | exact Q_bin_t rfl rfl iI (by first | assumption | omega) | exact Q_bin_f rfl rfl iI (by first | assumption | omega)) | ((refine' LS_h0 ?zh ?_); (case zh => exact H_storeO rfl rfl iI iI iI rfl); intro g) | (first | refine WS_block ?_ | refine WS_skip ?_ | refine WS_ret ?_ | refine WS_exit ?_ | refine WS_label ?_) | (show WS _ _ _ (.cond _ _ _) _ _; first | refine WS_condT rfl iI ?_ | refine WS_condF rfl iI ?_ | refine WS_condH_t rfl (by assumption) ?_ | refine WS_condH_f rfl (by assumption) ?_ | (refine WS_cond rfl ?_ ?_ <;> intro hc <;> (try simp only [decide_eq_true_eq, decide_eq_false_iff_not, Bool.not_eq_eq_eq_not, Bool.not_true, Bool.not_false, Bool.and_eq_true, Bool.or_eq_true, bne_iff_ne, beq_iff_eq, ne_eq, Decidable.not_not] at hc) <;> (try (exfalso; first | contradiction | omega; done)))))
      exact ret_tmp (.inl rfl) rfl rfl ⟨(), rfl, by ((try simp only [star_assoc, emp_star, star_emp]); (repeat' (first | exact Ent.last | refine Ent.take ?_ | refine Ent.nilT ?_ | refine Ent.takeR (by first | rfl | assumption | (simp; done)) ?_ | exact Ent.refl _)))⟩
    · simp only [if_neg h2]
      by_cases h3 : x.retries < 2
      · simp only [if_pos h3, Option.isSome_some, Option.getD_some]
        repeat' (first | (refine WS_seqK ?_; intro K hK) | (refine hK _ ?_; clear hK K) | refine WS_region ?_ | refine LS_nil ?_ | ((refine' LQ ?zh rfl ?_); case zh => intro F'; first | exact Q_move rfl | exact Q_assign rfl | exact Q_nilCheck rfl | exact Q_fieldAddr rfl iI rfl | exact Q_load rfl iI iI rfl | exact Q_bin_t rfl rfl iI (by first | assumption | omega) | exact Q_bin_f rfl rfl iI (by first | assumption | omega) | exact Q_addI rfl rfl (by omega)) | ((refine' LS_h0 ?zh ?_); (case zh => exact H_storeO rfl rfl iI iI iI rfl); intro g) | (first | refine WS_block ?_ | refine WS_skip ?_ | refine WS_ret ?_ | refine WS_exit ?_ | refine WS_label ?_) | (show WS _ _ _ (.cond _ _ _) _ _; first | refine WS_condT rfl iI ?_ | refine WS_condF rfl iI ?_ | refine WS_condH_t rfl (by assumption) ?_ | refine WS_condH_f rfl (by assumption) ?_ | (refine WS_cond rfl ?_ ?_ <;> intro hc <;> (try simp only [decide_eq_true_eq, decide_eq_false_iff_not, Bool.not_eq_eq_eq_not, Bool.not_true, Bool.not_false, Bool.and_eq_true, Bool.or_eq_true, bne_iff_ne, beq_iff_eq, ne_eq, Decidable.not_not] at hc) <;> (try (exfalso; first | contradiction | omega; done)))))
        exact ret_tmp (.inl rfl) rfl rfl ⟨(), rfl, by ((try simp only [star_assoc, emp_star, star_emp]); (repeat' (first | exact Ent.last | refine Ent.take ?_ | refine Ent.nilT ?_ | refine Ent.takeR (by first | rfl | assumption | (simp; done)) ?_ | exact Ent.refl _)))⟩
      · simp only [if_neg h3, Option.isSome_none, Option.getD_none]
        repeat' (first | (refine WS_seqK ?_; intro K hK) | (refine hK _ ?_; clear hK K) | (with_reducible (first | refine thenS_n ?_ | refine thenS_e ?_ | refine blockS_n ?_ | refine blockS_e ?_ | refine blockS_o rfl ?_ | refine thenS_r ?_ | refine blockS_r ?_ | refine use_K (by assumption) ?_)) | refine WS_region ?_ | refine LS_nil ?_ | ((refine' LQ ?zh rfl ?_); case zh => intro F'; first | exact Q_move rfl | exact Q_assign rfl | exact Q_nilCheck rfl | exact Q_fieldAddr rfl iI rfl | exact Q_load rfl iI iI rfl | exact Q_bin_f rfl rfl iI (by first | assumption | omega)) | (first | refine WS_block ?_ | refine WS_skip ?_ | refine WS_ret ?_ | refine WS_exit ?_ | refine WS_label ?_) | (show WS _ _ _ (.cond _ _ _) _ _; first | refine WS_condT rfl iI ?_ | refine WS_condF rfl iI ?_ | refine WS_condH_t rfl (by assumption) ?_ | refine WS_condH_f rfl (by assumption) ?_ | (refine WS_cond rfl ?_ ?_ <;> intro hc <;> (try simp only [decide_eq_true_eq, decide_eq_false_iff_not, Bool.not_eq_eq_eq_not, Bool.not_true, Bool.not_false, Bool.and_eq_true, Bool.or_eq_true, bne_iff_ne, beq_iff_eq, ne_eq, Decidable.not_not] at hc) <;> (try (exfalso; first | contradiction | omega; done)))))
        exact ret_tmp (.inl rfl) rfl rfl ⟨(), rfl, by ((try simp only [star_assoc, emp_star, star_emp]); (repeat' (first | exact Ent.last | refine Ent.take ?_ | refine Ent.nilT ?_ | refine Ent.takeR (by first | rfl | assumption | (simp; done)) ?_ | exact Ent.refl _)))⟩
set_option maxRecDepth 100000 in
set_option maxHeartbeats 8000000 in
theorem stop_spec (gn : Nat) (s : Nd) (h : NH) (ok : SrOk s) {k b : Nat} {x : Sr} (hx : s.srs[k]? = some x) (hb : h.sb[k]? = some b) : Spec Tryz.prog w0 233 [ptr b 0] (nodP gn s h) (fun _ : Unit => .tuple #[]) (fun _ => nodP gn (s.stop k) { h with sb := h.sb.eraseIdx k }) := by
  have h1 := ok.dest hx
  have h2 := ok.name hx
  refine Spec.enter Tryz.func233 rfl Tryz.ntmps233 rfl fun G => ?_
  refine WS_lens fun hsb hwv => ?_
  obtain ⟨F, e1, _, e3⟩ := zrow_hole (srP gn) hb hx
  have hsb' : (h.sb.eraseIdx k).length = (s.srs.eraseIdx k).length := by rw [List.length_eraseIdx, List.length_eraseIdx, hsb]
  have d1 : mdel (qmap h.sb s.srs) x.dest = qmap (h.sb.eraseIdx k) (s.srs.eraseIdx k) := mdel_zmap (key := fun x : Sr => x.dest) hsb h1
  have d2 : mdel (imap h.sb s.srs) x.name = imap (h.sb.eraseIdx k) (s.srs.eraseIdx k) := mdel_zmap (key := fun x : Sr => x.name) hsb h2
  simp only [nodP, nodPm, nodC, outH, restP, restC, Nd.stop, srsQ_eq hsb, srsQ_eq hsb', srsP_z, e1, e3]
  simp only [argE, srP, srC]
  rw [← d1, ← d2]
  repeat' (first | (show WS _ _ _ (.region 0 _ true) _ _; refine WS_drawK [0, 1, 2, 3, 4, 5, 6, 7, 8, 9, 10, 11] 11 [3, 6, 10] (by decide +kernel) rfl ?_) | (show WS _ _ _ (.region 1 _ true) _ _; refine WS_drawK [0, 1, 2, 3, 4, 5, 6, 7, 8, 9, 10, 11] 11 [3, 6, 10] (by decide +kernel) rfl ?_) | (refine WS_seqK ?_; intro K hK) | (refine hK _ ?_; clear hK K) | (first | refine DL_nilA ?_ | refine DL_nilS ?_ | refine DL_nilN ?_ | refine DL_nilE ?_ | refine DL_nilR ?_) | (first | refine DL_claimS rfl ?_ | refine DL_claim rfl rfl ?_) | ((first | refine' DL_qp rfl rfl rfl ?zh ?_ | refine' DL_q rfl rfl ?zh ?_); case zh => intro F'; first | exact Q_move rfl | exact Q_nilCheck rfl | exact Q_fieldAddr rfl iI rfl | exact Q_load rfl iI iI rfl) | ((refine' DL_h0 ?zh rfl rfl ?_); (case zh => exact H_delete rfl rfl iI iI iI iI); intro g))
  exact ret_none (.inr rfl) rfl ⟨(), rfl, by ((try simp only [star_assoc, emp_star, star_emp]); (repeat' (first | exact Ent.last | refine Ent.take ?_ | refine Ent.nilT ?_ | refine Ent.takeR (by first | rfl | assumption | (simp; done)) ?_ | exact Ent.refl _)))⟩
end Go.Proofs.YtapoehkdnglahaaGreat

/- What a node remembers: its walk. -/
namespace Go.Proofs.YtapoehkdnglahaaGreat
open Go.RowKit
set_option linter.unusedVariables false
set_option linter.unusedSectionVars false
set_option linter.unusedSimpArgs false
attribute [local irreducible] WS LS OpQ OpT OpH OpTQ Spec SpecQ cel
variable (w0 : World)
set_option maxRecDepth 100000 in
set_option maxHeartbeats 16000000 in
theorem remember_spec (gn : Nat) (s : Nd) (h : NH) (r : Rq) (hl : s.order.length ≤ 16) : Spec Tryz.prog w0 235 [ptr gn 0, rqV r] (nodP gn s h) (fun _ : Value => .tuple #[]) (fun vo => nodP gn (s.remember r) { h with vo := vo }) := by
  refine Spec.enter Tryz.func235 rfl Tryz.ntmps235 rfl fun G => ?_
  obtain ⟨tb, vr, rh, rs, vo, rw', rq, ri, cb, cr, vs, vf, vc, vd, sb, wv⟩ := h
  obtain ⟨R, hR⟩ : ∃ R : HProp, R = rows 48 3 Rec.cells vr s.recs * (mp u32 u32 rh s.held * (tabQ tb s.self s.ls * (outH ⟨tb, vr, rh, rs, vo, rw', rq, ri, cb, cr, vs, vf, vc, vd, sb, wv⟩ s.out * (waitQ rw' wv s.wait * (mp u32 ptrV rq (qmap sb s.srs) * (mp i64 ptrV ri (imap sb s.srs) * (srsQ gn sb s.srs * (clockQ cb cr s.last s.clk * (rows 35 1 wrd64C vs s.sent * G))))))))) := ⟨_, rfl⟩
  refine WS_ent (H' := cel gn 184 (nodC 1 s ⟨tb, vr, rh, rs, vo, rw', rq, ri, cb, cr, vs, vf, vc, vd, sb, wv⟩ s.out) * (mp rqV u64 rs s.seen * (rows 336 2 rqC vo s.order * R))) (by rw [hR]; unfold nodP nodPm restP restC; ((try simp only [star_assoc, emp_star, star_emp]); (repeat' (first | exact Ent.last | refine Ent.take ?_ | refine Ent.nilT ?_ | refine Ent.takeR (by first | rfl | assumption | (simp; done)) ?_ | exact Ent.refl _)))) ?_
  have fin : ∀ (vo' : Value) (m' : List (Rq × UInt64)) (l' : List Rq) (Z : HProp), Ent (cel gn 184 (nodC 1 s ⟨tb, vr, rh, rs, vo', rw', rq, ri, cb, cr, vs, vf, vc, vd, sb, wv⟩ s.out) * (mp rqV u64 rs m' * (rows 336 2 rqC vo' l' * (R * Z)))) (nodP gn { s with seen := m', order := l' } ⟨tb, vr, rh, rs, vo', rw', rq, ri, cb, cr, vs, vf, vc, vd, sb, wv⟩ * G) := by
    intro vo' m' l' Z
    rw [hR]
    have e1 : outH ⟨tb, vr, rh, rs, vo', rw', rq, ri, cb, cr, vs, vf, vc, vd, sb, wv⟩ s.out = outH ⟨tb, vr, rh, rs, vo, rw', rq, ri, cb, cr, vs, vf, vc, vd, sb, wv⟩ s.out := rfl
    unfold nodP nodPm restP restC
    simp only [nodC, e1]
    ((try simp only [star_assoc, emp_star, star_emp]); (repeat' (first | exact Ent.last | refine Ent.take ?_ | refine Ent.nilT ?_ | refine Ent.takeR (by first | rfl | assumption | (simp; done)) ?_ | exact Ent.refl _)))
  refine WS_form vo iI fun A cap hv => ?_
  subst hv
  simp only [nodC, argE, rqV, rqC] at *
  repeat' (first | (refine WS_seqK ?_; intro K hK) | (refine hK _ ?_; clear hK K) | refine WS_region ?_ | refine LS_nil ?_ | ((refine' LQ ?zh rfl ?_); case zh => intro F'; first | exact Q_move rfl | exact Q_assign rfl | exact Q_nilCheck rfl | exact Q_fieldAddr rfl iI rfl | exact Q_load rfl iI iI rfl | exact Q_len rfl iI) | ((refine' LS_h ?zh rfl ?_); (case zh => exact H_box rfl); intro g) | (first | refine WS_block ?_ | refine WS_skip ?_ | refine WS_ret ?_ | refine WS_exit ?_ | refine WS_label ?_) | (refine LS_q (Q_sliceR_hm rfl rfl rfl rfl iI iI iI iI (Nat.zero_le _)) rfl ?_))
  have e0 : sCut (.slice A s.order.length cap) 0 = .slice A 0 0 := by simp [sCut]
  rw [e0]
  revert g; intro gb
  refine WS_ent (Ent.nil _ 336 2 rqC A) ?_
  obtain ⟨vo, hvo⟩ : ∃ v : Value, v = .slice A s.order.length cap := ⟨_, rfl⟩
  rw [← hvo]
  refine WS_loop (fun k τ => ∃ (j : Nat) (vk : Value), j + k = s.order.length ∧ τ = ⟨[(20, .int .i64 (j : Int)), (19, .int .i64 (s.order.length : Int)), (18, vo), (4, vk), (3, ptr gb 0), (0, ptr gn 0)], [], cel gb 336 [u32 r.src, u32 r.id] * (cel gn 184 (nodC 1 s ⟨tb, vr, rh, rs, vo, rw', rq, ri, cb, cr, vs, vf, vc, vd, sb, wv⟩ s.out) * (mp rqV u64 rs (remAll s.now s.seen (s.order.take j)).1 * (rows 336 2 rqC vk (remAll s.now s.seen (s.order.take j)).2 * (rows 336 2 rqC vo s.order * R))))⟩) ?_ ?_
  · exact ⟨s.order.length, _, ⟨0, _, by omega, rfl⟩, ⟨rfl, rfl, rfl, rfl, rfl, rfl, trivial⟩, rfl, by simp only [List.take_zero, remAll, List.foldl_nil, nodC]; ((try simp only [star_assoc, emp_star, star_emp]); (repeat' (first | exact Ent.last | refine Ent.take ?_ | refine Ent.nilT ?_ | refine Ent.takeR (by first | rfl | assumption | (simp; done)) ?_ | exact Ent.refl _)))⟩
  · rintro k τ ⟨j, vk, hjk, rfl⟩
    rcases Nat.lt_or_ge j s.order.length with hlt | hge
    · obtain ⟨⟨xs, xi⟩, hz⟩ : ∃ z, s.order[j]? = some z := ⟨_, List.getElem?_eq_getElem hlt⟩
      have htk : remAll s.now s.seen (s.order.take (j + 1)) = remStep s.now (remAll s.now s.seen (s.order.take j)) ⟨xs, xi⟩ := by rw [List.take_add_one, hz, Option.toList_some, remAll_snoc]
      have hpl := remAll_length s.now s.seen (s.order.take j)
      rw [List.length_take] at hpl
      generalize remAll s.now s.seen (s.order.take j) = p at *
      obtain ⟨m, q⟩ := p
      simp only [remStep] at htk hpl
      simp only [nodC, rqC]
      cases hg : mget m (⟨xs, xi⟩ : Rq) with
      | none =>
        have hsn : ¬ s.now < seenAt m ⟨xs, xi⟩ := by simp [seenAt, hg]
        have hn0 : ¬ s.now < 0 := UInt64.not_lt.2 (UInt64.zero_le)
        rw [if_neg hsn] at htk
        repeat' (first | (show WS _ _ _ (.region 5 _ true) _ _; refine WS_drawA [0, 1, 2, 3, 4, 5, 6, 7, 8, 9, 10] (by decide +kernel) rfl ?_) | (show WS _ _ _ (.region 7 _ true) _ _; refine WS_drawK [0, 1, 2, 3, 4, 5] 5 [3, 4] (by decide +kernel) rfl ?_) | (refine WS_seqK ?_; intro K hK) | (refine hK _ ?_; clear hK K) | (with_reducible (first | refine thenS_n ?_ | refine thenS_e ?_ | refine blockS_n ?_ | refine blockS_e ?_ | refine blockS_o rfl ?_ | refine thenS_r ?_ | refine blockS_r ?_ | refine use_K (by assumption) ?_)) | refine WS_region ?_ | refine LS_nil ?_ | (first | refine DL_nilA ?_ | refine DL_nilS ?_ | refine DL_nilN ?_ | refine DL_nilE ?_ | refine DL_nilR ?_) | (first | refine DL_claimS rfl ?_ | refine DL_claim rfl rfl ?_) | ((first | refine' LQ ?zh rfl ?_ | refine' DL_qp rfl rfl rfl ?zh ?_ | refine' DL_q rfl rfl ?zh ?_); case zh => intro F'; first | exact Q_move rfl | exact Q_nilCheck rfl | exact Q_fieldAddr rfl iI rfl | exact Q_load rfl iI iI rfl | exact Q_bin_t rfl rfl iI (by first | assumption | omega | decide) | exact Q_bin_f rfl rfl iI (by first | assumption | omega | decide) | exact Q_addI rfl rfl (by omega) | exact Q_loadA rfl iI iI rfl | exact Q_index rfl rfl iI iI iI iI (by first | assumption | omega | (simp [be_length] <;> omega)) | exact Q_loadRA rfl iI iI iI (by assumption) | exact Q_lookup_n rfl rfl iI iI iI iI iI (by assumption)) | ((refine' LS_h ?zh rfl ?_); (case zh => exact H_alloc iI); intro g) | ((first | refine' LS_h0 ?zh ?_ | refine' DL_h0 ?zh rfl rfl ?_); (case zh => first | exact H_delete rfl rfl iI iI iI iI | exact H_storeA rfl rfl iI iI (by first | rfl | (simp only [List.all_cons, List.all_nil, *]; rfl)) rfl); intro g) | (first | refine WS_block ?_ | refine WS_skip ?_ | refine WS_ret ?_ | refine WS_exit ?_ | refine WS_label ?_) | (show WS _ _ _ (.cond _ _ _) _ _; first | refine WS_condT rfl iI ?_ | refine WS_condF rfl iI ?_ | refine WS_condH_t rfl (by assumption) ?_ | refine WS_condH_f rfl (by assumption) ?_ | (refine WS_cond rfl ?_ ?_ <;> intro hc <;> (try simp only [decide_eq_true_eq, decide_eq_false_iff_not, Bool.not_eq_eq_eq_not, Bool.not_true, Bool.not_false, Bool.and_eq_true, Bool.or_eq_true, bne_iff_ne, beq_iff_eq, ne_eq, Decidable.not_not] at hc) <;> (try (exfalso; first | contradiction | omega; done)))))
        exact ⟨k - 1, _, by omega, ⟨j + 1, vk, by omega, rfl⟩, ⟨rfl, rfl, rfl, rfl, rfl, rfl, trivial⟩, rfl, by rw [htk]; ((try simp only [star_assoc, emp_star, star_emp]); (repeat' (first | exact Ent.last | refine Ent.take ?_ | refine Ent.nilT ?_ | refine Ent.takeR (by first | rfl | assumption | (simp; done)) ?_ | exact Ent.refl _)))⟩
      | some t =>
        by_cases hsn : s.now < t
        · have hsn' : s.now < seenAt m ⟨xs, xi⟩ := by simpa [seenAt, hg] using hsn
          rw [if_pos hsn'] at htk
          repeat' (first | (show WS _ _ _ (.region 5 _ true) _ _; refine WS_drawA [0, 1, 2, 3, 4, 5, 6, 7, 8, 9, 10] (by decide +kernel) rfl ?_) | (refine WS_seqK ?_; intro K hK) | (refine hK _ ?_; clear hK K) | (with_reducible (first | refine thenS_n ?_ | refine thenS_e ?_ | refine blockS_n ?_ | refine blockS_e ?_ | refine blockS_o rfl ?_ | refine thenS_r ?_ | refine blockS_r ?_ | refine use_K (by assumption) ?_)) | refine WS_region ?_ | refine LS_nil ?_ | (first | refine DL_nilA ?_ | refine DL_nilS ?_ | refine DL_nilN ?_ | refine DL_nilE ?_ | refine DL_nilR ?_) | ((first | refine' LQ ?zh rfl ?_ | refine' DL_q rfl rfl ?zh ?_); case zh => intro F'; first | exact Q_move rfl | exact Q_assign rfl | exact Q_nilCheck rfl | exact Q_fieldAddr rfl iI rfl | exact Q_load rfl iI iI rfl | exact Q_bin_t rfl rfl iI (by first | assumption | omega | decide) | exact Q_addI rfl rfl (by omega) | exact Q_loadA rfl iI iI rfl | exact Q_index rfl rfl iI iI iI iI (by first | assumption | omega | (simp [be_length] <;> omega)) | exact Q_loadRA rfl iI iI iI (by assumption) | exact Q_lookup_s rfl rfl iI iI iI iI iI (by assumption)) | ((refine' LS_h ?zh rfl ?_); (case zh => exact H_alloc iI); intro g) | ((refine' LS_h0 ?zh ?_); (case zh => exact H_storeA rfl rfl iI iI (by first | rfl | (simp only [List.all_cons, List.all_nil, *]; rfl)) rfl); intro g) | (first | refine WS_block ?_ | refine WS_skip ?_ | refine WS_ret ?_ | refine WS_exit ?_ | refine WS_label ?_) | (show WS _ _ _ (.cond _ _ _) _ _; first | refine WS_condT rfl iI ?_ | refine WS_condF rfl iI ?_ | refine WS_condH_t rfl (by assumption) ?_ | refine WS_condH_f rfl (by assumption) ?_ | (refine WS_cond rfl ?_ ?_ <;> intro hc <;> (try simp only [decide_eq_true_eq, decide_eq_false_iff_not, Bool.not_eq_eq_eq_not, Bool.not_true, Bool.not_false, Bool.and_eq_true, Bool.or_eq_true, bne_iff_ne, beq_iff_eq, ne_eq, Decidable.not_not] at hc) <;> (try (exfalso; first | contradiction | omega; done)))) | (refine LS_h (H_buildSliceR rqC [⟨xs, xi⟩] iI iI iI rfl rfl rfl rfl rfl iI rfl rfl rfl) rfl ?_; intro vx) | (refine LS_h (H_appendR rfl rfl iI iI rfl iI iI rqC_one (by first | omega | (simp [be_length] <;> omega)) rfl) rfl ?_; intro vk2))
          exact ⟨k - 1, _, by omega, ⟨j + 1, vk2, by omega, rfl⟩, ⟨rfl, rfl, rfl, rfl, rfl, rfl, trivial⟩, rfl, by rw [htk]; ((try simp only [star_assoc, emp_star, star_emp]); (repeat' (first | exact Ent.last | refine Ent.take ?_ | refine Ent.nilT ?_ | refine Ent.takeR (by first | rfl | assumption | (simp; done)) ?_ | exact Ent.refl _)))⟩
        · have hsn' : ¬ s.now < seenAt m ⟨xs, xi⟩ := by simpa [seenAt, hg] using hsn
          rw [if_neg hsn'] at htk
          repeat' (first | (show WS _ _ _ (.region 5 _ true) _ _; refine WS_drawA [0, 1, 2, 3, 4, 5, 6, 7, 8, 9, 10] (by decide +kernel) rfl ?_) | (show WS _ _ _ (.region 7 _ true) _ _; refine WS_drawK [0, 1, 2, 3, 4, 5] 5 [3, 4] (by decide +kernel) rfl ?_) | (refine WS_seqK ?_; intro K hK) | (refine hK _ ?_; clear hK K) | (with_reducible (first | refine thenS_n ?_ | refine thenS_e ?_ | refine blockS_n ?_ | refine blockS_e ?_ | refine blockS_o rfl ?_ | refine thenS_r ?_ | refine blockS_r ?_ | refine use_K (by assumption) ?_)) | refine WS_region ?_ | refine LS_nil ?_ | (first | refine DL_nilA ?_ | refine DL_nilS ?_ | refine DL_nilN ?_ | refine DL_nilE ?_ | refine DL_nilR ?_) | (first | refine DL_claimS rfl ?_ | refine DL_claim rfl rfl ?_) | ((first | refine' LQ ?zh rfl ?_ | refine' DL_qp rfl rfl rfl ?zh ?_ | refine' DL_q rfl rfl ?zh ?_); case zh => intro F'; first | exact Q_move rfl | exact Q_nilCheck rfl | exact Q_fieldAddr rfl iI rfl | exact Q_load rfl iI iI rfl | exact Q_bin_t rfl rfl iI (by first | assumption | omega | decide) | exact Q_bin_f rfl rfl iI (by first | assumption | omega | decide) | exact Q_addI rfl rfl (by omega) | exact Q_loadA rfl iI iI rfl | exact Q_index rfl rfl iI iI iI iI (by first | assumption | omega | (simp [be_length] <;> omega)) | exact Q_loadRA rfl iI iI iI (by assumption) | exact Q_lookup_s rfl rfl iI iI iI iI iI (by assumption)) | ((refine' LS_h ?zh rfl ?_); (case zh => exact H_alloc iI); intro g) | ((first | refine' LS_h0 ?zh ?_ | refine' DL_h0 ?zh rfl rfl ?_); (case zh => first | exact H_delete rfl rfl iI iI iI iI | exact H_storeA rfl rfl iI iI (by first | rfl | (simp only [List.all_cons, List.all_nil, *]; rfl)) rfl); intro g) | (first | refine WS_block ?_ | refine WS_skip ?_ | refine WS_ret ?_ | refine WS_exit ?_ | refine WS_label ?_) | (show WS _ _ _ (.cond _ _ _) _ _; first | refine WS_condT rfl iI ?_ | refine WS_condF rfl iI ?_ | refine WS_condH_t rfl (by assumption) ?_ | refine WS_condH_f rfl (by assumption) ?_ | (refine WS_cond rfl ?_ ?_ <;> intro hc <;> (try simp only [decide_eq_true_eq, decide_eq_false_iff_not, Bool.not_eq_eq_eq_not, Bool.not_true, Bool.not_false, Bool.and_eq_true, Bool.or_eq_true, bne_iff_ne, beq_iff_eq, ne_eq, Decidable.not_not] at hc) <;> (try (exfalso; first | contradiction | omega; done)))))
          exact ⟨k - 1, _, by omega, ⟨j + 1, vk, by omega, rfl⟩, ⟨rfl, rfl, rfl, rfl, rfl, rfl, trivial⟩, rfl, by rw [htk]; ((try simp only [star_assoc, emp_star, star_emp]); (repeat' (first | exact Ent.last | refine Ent.take ?_ | refine Ent.nilT ?_ | refine Ent.takeR (by first | rfl | assumption | (simp; done)) ?_ | exact Ent.refl _)))⟩
    · obtain rfl : j = s.order.length := by omega
      rw [List.take_of_length_le (Nat.le_refl _)]
      have hpl := remAll_length s.now s.seen s.order
      generalize hp : remAll s.now s.seen s.order = p at *
      obtain ⟨m, q⟩ := p
      simp only at hpl
      obtain ⟨ra, rb⟩ := r
      by_cases hlen : ((q ++ [⟨ra, rb⟩] : List Rq).length : Int) ≤ 16
      · have er : s.remember ⟨ra, rb⟩ = { s with seen := mset m ⟨ra, rb⟩ (s.now + 1280), order := q ++ [⟨ra, rb⟩] } := by unfold Nd.remember; simp only [hp]; rw [if_pos (by omega)]
        rw [er]
        simp only [nodC, rqC] at fin ⊢
        repeat' (first | (show WS _ _ _ (.region 10 _ true) _ _; refine WS_drawK [0, 1, 2, 3, 4, 5, 6, 7, 8, 9, 10] 10 [3, 4, 8] (by decide +kernel) rfl ?_) | (refine WS_seqK ?_; intro K hK) | (refine hK _ ?_; clear hK K) | (with_reducible (first | refine thenS_n ?_ | refine thenS_e ?_ | refine blockS_n ?_ | refine blockS_e ?_ | refine blockS_o rfl ?_ | refine thenS_r ?_ | refine blockS_r ?_ | refine use_K (by assumption) ?_)) | refine WS_region ?_ | refine LS_nil ?_ | (first | refine DL_nilA ?_ | refine DL_nilS ?_ | refine DL_nilN ?_ | refine DL_nilE ?_ | refine DL_nilR ?_) | (first | refine DL_claimS rfl ?_ | refine DL_claim rfl rfl ?_) | ((first | refine' LQ ?zh rfl ?_ | refine' DL_qp rfl rfl rfl ?zh ?_ | refine' DL_q rfl rfl ?zh ?_); case zh => intro F'; first | exact Q_move rfl | exact Q_nilCheck rfl | exact Q_fieldAddr rfl iI rfl | exact Q_load rfl iI iI rfl | exact Q_bin_t rfl rfl iI (by first | assumption | omega | decide) | exact Q_bin_f rfl rfl iI (by first | assumption | omega | decide) | exact Q_loadA rfl iI iI rfl | exact Q_len rfl iI) | ((first | refine' LQ ?zh rfl ?_ | refine' DL_q rfl rfl ?zh ?_); case zh => intro F'; exact Q_bin rfl rfl iI) | ((first | refine' LS_h0 ?zh ?_ | refine' DL_h0 ?zh rfl rfl ?_); (case zh => first | exact H_storeO rfl rfl iI iI iI rfl | exact H_mapUpdate rfl rfl rfl iI iI iI iI iI); intro g) | (first | refine WS_block ?_ | refine WS_skip ?_ | refine WS_ret ?_ | refine WS_exit ?_ | refine WS_label ?_) | (show WS _ _ _ (.cond _ _ _) _ _; first | refine WS_condT rfl iI ?_ | refine WS_condF rfl iI ?_ | refine WS_condH_t rfl (by assumption) ?_ | refine WS_condH_f rfl (by assumption) ?_ | (refine WS_cond rfl ?_ ?_ <;> intro hc <;> (try simp only [decide_eq_true_eq, decide_eq_false_iff_not, Bool.not_eq_eq_eq_not, Bool.not_true, Bool.not_false, Bool.and_eq_true, Bool.or_eq_true, bne_iff_ne, beq_iff_eq, ne_eq, Decidable.not_not] at hc) <;> (try (exfalso; first | contradiction | omega; done)))) | (refine LS_h (H_buildSliceR rqC [⟨ra, rb⟩] iI iI iI rfl rfl rfl rfl rfl iI rfl rfl rfl) rfl ?_; intro vx) | (refine LS_h (H_appendR rfl rfl iI iI rfl iI iI rqC_one (by first | omega | (simp [be_length] <;> omega)) rfl) rfl ?_; intro vk2; refine LS_form vk2 iI fun A2 cap2 hv2 => ?_; subst hv2))
        refine ret_none (.inl rfl) rfl ⟨.slice A2 (q ++ [⟨ra, rb⟩] : List Rq).length cap2, rfl, ?_⟩
        rw [er]
        refine Ent.trans ?_ (fin _ _ _ emp)
        ((try simp only [star_assoc, emp_star, star_emp]); (repeat' (first | exact Ent.last | refine Ent.take ?_ | refine Ent.nilT ?_ | refine Ent.takeR (by first | rfl | assumption | (simp; done)) ?_ | exact Ent.refl _)))
      · simp only [nodC, rqC]
        repeat' (first | (show WS _ _ _ (.region 10 _ true) _ _; refine WS_drawK [0, 1, 2, 3, 4, 5, 6, 7, 8, 9, 10] 10 [3, 4, 8] (by decide +kernel) rfl ?_) | (refine WS_seqK ?_; intro K hK) | (refine hK _ ?_; clear hK K) | (with_reducible (first | refine thenS_n ?_ | refine thenS_e ?_ | refine blockS_n ?_ | refine blockS_e ?_ | refine blockS_o rfl ?_ | refine thenS_r ?_ | refine blockS_r ?_ | refine use_K (by assumption) ?_)) | refine WS_region ?_ | refine LS_nil ?_ | (first | refine DL_nilA ?_ | refine DL_nilS ?_ | refine DL_nilN ?_ | refine DL_nilE ?_ | refine DL_nilR ?_) | (first | refine DL_claimS rfl ?_ | refine DL_claim rfl rfl ?_) | ((first | refine' LQ ?zh rfl ?_ | refine' DL_qp rfl rfl rfl ?zh ?_ | refine' DL_q rfl rfl ?zh ?_); case zh => intro F'; first | exact Q_move rfl | exact Q_assign rfl | exact Q_nilCheck rfl | exact Q_fieldAddr rfl iI rfl | exact Q_load rfl iI iI rfl | exact Q_bin_f rfl rfl iI (by first | assumption | omega | decide) | exact Q_loadA rfl iI iI rfl | exact Q_len rfl iI) | ((first | refine' LQ ?zh rfl ?_ | refine' DL_q rfl rfl ?zh ?_); case zh => intro F'; exact Q_bin rfl rfl iI) | ((first | refine' LS_h0 ?zh ?_ | refine' DL_h0 ?zh rfl rfl ?_); (case zh => first | exact H_storeO rfl rfl iI iI iI rfl | exact H_mapUpdate rfl rfl rfl iI iI iI iI iI); intro g) | (first | refine WS_block ?_ | refine WS_skip ?_ | refine WS_ret ?_ | refine WS_exit ?_ | refine WS_label ?_) | (show WS _ _ _ (.cond _ _ _) _ _; first | refine WS_condT rfl iI ?_ | refine WS_condF rfl iI ?_ | refine WS_condH_t rfl (by assumption) ?_ | refine WS_condH_f rfl (by assumption) ?_ | (refine WS_cond rfl ?_ ?_ <;> intro hc <;> (try simp only [decide_eq_true_eq, decide_eq_false_iff_not, Bool.not_eq_eq_eq_not, Bool.not_true, Bool.not_false, Bool.and_eq_true, Bool.or_eq_true, bne_iff_ne, beq_iff_eq, ne_eq, Decidable.not_not] at hc) <;> (try (exfalso; first | contradiction | omega; done)))) | (refine LS_h (H_buildSliceR rqC [⟨ra, rb⟩] iI iI iI rfl rfl rfl rfl rfl iI rfl rfl rfl) rfl ?_; intro vx) | (refine LS_h (H_appendR rfl rfl iI iI rfl iI iI rqC_one (by first | omega | (simp [be_length] <;> omega)) rfl) rfl ?_; intro vk2; refine LS_form vk2 iI fun A2 cap2 hv2 => ?_; subst hv2))
        obtain ⟨M, hM⟩ : ∃ M : List (Rq × UInt64), M = mset m ⟨ra, rb⟩ (s.now + 1280) := ⟨_, rfl⟩
        obtain ⟨L, hL⟩ : ∃ L : List Rq, L = q ++ [⟨ra, rb⟩] := ⟨_, rfl⟩
        have hLl : L.length ≤ 17 := by rw [hL]; simp; omega
        have hL0 : 16 < L.length := by rw [hL]; omega
        have er : s.remember ⟨ra, rb⟩ = { s with seen := mdel M (L.getD (firstOf M L L.length) ⟨0, 0⟩), order := L.take (firstOf M L L.length) ++ L.drop (firstOf M L L.length + 1) } := by unfold Nd.remember; simp only [hp, ← hM, ← hL]; rw [if_neg (by omega)]
        rw [← hL, ← hM]
        clear hM hL
        obtain ⟨vl, hvl⟩ : ∃ v : Value, v = .slice A2 L.length cap2 := ⟨_, rfl⟩
        rw [← hvl]
        refine WS_loop (fun k τ => ∃ j : Nat, j + k = L.length ∧ τ = ⟨[(73, .int .i64 (j : Int)), (72, .int .i64 (L.length : Int)), (71, vl), (7, .int .i64 (firstOf M L j : Int)), (0, ptr gn 0)], [], mp rqV u64 rs M * (cel gn 184 (nodC 1 s ⟨tb, vr, rh, rs, vl, rw', rq, ri, cb, cr, vs, vf, vc, vd, sb, wv⟩ s.out) * (rows 336 2 rqC vl L * R))⟩) ?_ ?_
        · exact ⟨L.length, _, ⟨0, by omega, rfl⟩, ⟨rfl, rfl, rfl, rfl, rfl, trivial⟩, rfl, by simp only [nodC]; ((try simp only [star_assoc, emp_star, star_emp]); (repeat' (first | exact Ent.last | refine Ent.take ?_ | refine Ent.nilT ?_ | refine Ent.takeR (by first | rfl | assumption | (simp; done)) ?_ | exact Ent.refl _)))⟩
        · rintro k τ ⟨j, hjk, rfl⟩
          have hfl := firstOf_lt M L j (by omega) (by omega)
          rcases Nat.lt_or_ge j L.length with hlt | hge
          · obtain ⟨⟨xs, xi⟩, hz⟩ : ∃ z, L[j]? = some z := ⟨_, List.getElem?_eq_getElem hlt⟩
            have hfs := firstOf_succ M L j
            generalize firstOf M L j = i0 at *
            obtain ⟨⟨ys, yi⟩, hy⟩ : ∃ z, L[i0]? = some z := ⟨_, List.getElem?_eq_getElem hfl⟩
            have hx1 : L.getD j ⟨0, 0⟩ = ⟨xs, xi⟩ := by simp [hz]
            have hy1 : L.getD i0 ⟨0, 0⟩ = ⟨ys, yi⟩ := by simp [hy]
            simp only [firstStep, hx1, hy1] at hfs
            simp only [nodC, rqC]
            by_cases hcc : seenAt M (⟨xs, xi⟩ : Rq) < seenAt M (⟨ys, yi⟩ : Rq)
            · rw [if_pos hcc] at hfs
              cases hgx : mget M (⟨xs, xi⟩ : Rq) <;> cases hgy : mget M (⟨ys, yi⟩ : Rq)
              all_goals simp only [seenAt, hgx, hgy, Option.getD_none, Option.getD_some] at hcc
              all_goals first | (exact absurd hcc (by decide); done) | skip
              all_goals
                repeat' (first | (show WS _ _ _ (.region 16 _ true) _ _; refine WS_drawA [0, 1, 2, 3, 4, 5, 6, 7, 8, 9, 10, 11, 12, 13, 14, 15, 16, 17, 18] (by decide +kernel) rfl ?_) | (refine WS_seqK ?_; intro K hK) | (refine hK _ ?_; clear hK K) | (with_reducible (first | refine thenS_n ?_ | refine thenS_e ?_ | refine blockS_n ?_ | refine blockS_e ?_ | refine blockS_o rfl ?_ | refine thenS_r ?_ | refine blockS_r ?_ | refine use_K (by assumption) ?_)) | refine WS_region ?_ | refine LS_nil ?_ | (first | refine DL_nilA ?_ | refine DL_nilS ?_ | refine DL_nilN ?_ | refine DL_nilE ?_ | refine DL_nilR ?_) | ((first | refine' LQ ?zh rfl ?_ | refine' DL_q rfl rfl ?zh ?_); case zh => intro F'; first | exact Q_move rfl | exact Q_assign rfl | exact Q_nilCheck rfl | exact Q_fieldAddr rfl iI rfl | exact Q_load rfl iI iI rfl | exact Q_bin_t rfl rfl iI (by first | assumption | omega | decide) | exact Q_addI rfl rfl (by omega) | exact Q_loadA rfl iI iI rfl | exact Q_index rfl rfl iI iI iI iI (by first | assumption | omega | (simp [be_length] <;> omega)) | exact Q_loadRA rfl iI iI iI (by assumption) | exact Q_lookup_s rfl rfl iI iI iI iI iI (by assumption) | exact Q_lookup_n rfl rfl iI iI iI iI iI (by assumption)) | ((refine' LS_h ?zh rfl ?_); (case zh => exact H_alloc iI); intro g) | ((refine' LS_h0 ?zh ?_); (case zh => exact H_storeA rfl rfl iI iI (by first | rfl | (simp only [List.all_cons, List.all_nil, *]; rfl)) rfl); intro g) | (first | refine WS_block ?_ | refine WS_skip ?_ | refine WS_ret ?_ | refine WS_exit ?_ | refine WS_label ?_) | (show WS _ _ _ (.cond _ _ _) _ _; first | refine WS_condT rfl iI ?_ | refine WS_condF rfl iI ?_ | refine WS_condH_t rfl (by assumption) ?_ | refine WS_condH_f rfl (by assumption) ?_ | (refine WS_cond rfl ?_ ?_ <;> intro hc <;> (try simp only [decide_eq_true_eq, decide_eq_false_iff_not, Bool.not_eq_eq_eq_not, Bool.not_true, Bool.not_false, Bool.and_eq_true, Bool.or_eq_true, bne_iff_ne, beq_iff_eq, ne_eq, Decidable.not_not] at hc) <;> (try (exfalso; first | contradiction | omega; done)))))
              all_goals
                exact ⟨k - 1, _, by omega, ⟨j + 1, by omega, rfl⟩, ⟨rfl, rfl, rfl, by rw [hfs]; rfl, rfl, trivial⟩, rfl, by ((try simp only [star_assoc, emp_star, star_emp]); (repeat' (first | exact Ent.last | refine Ent.take ?_ | refine Ent.nilT ?_ | refine Ent.takeR (by first | rfl | assumption | (simp; done)) ?_ | exact Ent.refl _)))⟩
            · rw [if_neg hcc] at hfs
              cases hgx : mget M (⟨xs, xi⟩ : Rq) <;> cases hgy : mget M (⟨ys, yi⟩ : Rq)
              all_goals simp only [seenAt, hgx, hgy, Option.getD_none, Option.getD_some] at hcc
              all_goals first | (exact absurd hcc (by decide); done) | skip
              all_goals
                repeat' (first | (show WS _ _ _ (.region 16 _ true) _ _; refine WS_drawA [0, 1, 2, 3, 4, 5, 6, 7, 8, 9, 10, 11, 12, 13, 14, 15, 16, 17, 18] (by decide +kernel) rfl ?_) | (refine WS_seqK ?_; intro K hK) | (refine hK _ ?_; clear hK K) | (with_reducible (first | refine thenS_n ?_ | refine thenS_e ?_ | refine blockS_n ?_ | refine blockS_e ?_ | refine blockS_o rfl ?_ | refine thenS_r ?_ | refine blockS_r ?_ | refine use_K (by assumption) ?_)) | refine WS_region ?_ | refine LS_nil ?_ | (first | refine DL_nilA ?_ | refine DL_nilS ?_ | refine DL_nilN ?_ | refine DL_nilE ?_ | refine DL_nilR ?_) | ((first | refine' LQ ?zh rfl ?_ | refine' DL_q rfl rfl ?zh ?_); case zh => intro F'; first | exact Q_move rfl | exact Q_assign rfl | exact Q_nilCheck rfl | exact Q_fieldAddr rfl iI rfl | exact Q_load rfl iI iI rfl | exact Q_bin_t rfl rfl iI (by first | assumption | omega | decide) | exact Q_bin_f rfl rfl iI (by first | assumption | omega | decide) | exact Q_addI rfl rfl (by omega) | exact Q_loadA rfl iI iI rfl | exact Q_index rfl rfl iI iI iI iI (by first | assumption | omega | (simp [be_length] <;> omega)) | exact Q_loadRA rfl iI iI iI (by assumption) | exact Q_lookup_s rfl rfl iI iI iI iI iI (by assumption) | exact Q_lookup_n rfl rfl iI iI iI iI iI (by assumption)) | ((refine' LS_h ?zh rfl ?_); (case zh => exact H_alloc iI); intro g) | ((refine' LS_h0 ?zh ?_); (case zh => exact H_storeA rfl rfl iI iI (by first | rfl | (simp only [List.all_cons, List.all_nil, *]; rfl)) rfl); intro g) | (first | refine WS_block ?_ | refine WS_skip ?_ | refine WS_ret ?_ | refine WS_exit ?_ | refine WS_label ?_) | (show WS _ _ _ (.cond _ _ _) _ _; first | refine WS_condT rfl iI ?_ | refine WS_condF rfl iI ?_ | refine WS_condH_t rfl (by assumption) ?_ | refine WS_condH_f rfl (by assumption) ?_ | (refine WS_cond rfl ?_ ?_ <;> intro hc <;> (try simp only [decide_eq_true_eq, decide_eq_false_iff_not, Bool.not_eq_eq_eq_not, Bool.not_true, Bool.not_false, Bool.and_eq_true, Bool.or_eq_true, bne_iff_ne, beq_iff_eq, ne_eq, Decidable.not_not] at hc) <;> (try (exfalso; first | contradiction | omega; done)))))
              all_goals
                exact ⟨k - 1, _, by omega, ⟨j + 1, by omega, rfl⟩, ⟨rfl, rfl, rfl, by rw [hfs]; rfl, rfl, trivial⟩, rfl, by ((try simp only [star_assoc, emp_star, star_emp]); (repeat' (first | exact Ent.last | refine Ent.take ?_ | refine Ent.nilT ?_ | refine Ent.takeR (by first | rfl | assumption | (simp; done)) ?_ | exact Ent.refl _)))⟩
          · obtain rfl : j = L.length := by omega
            generalize firstOf M L L.length = i0 at *
            obtain ⟨⟨ys, yi⟩, hy⟩ : ∃ z, L[i0]? = some z := ⟨_, List.getElem?_eq_getElem hfl⟩
            have hy1 : L.getD i0 ⟨0, 0⟩ = ⟨ys, yi⟩ := by simp [hy]
            rw [hy1] at er
            simp only [nodC, rqC]
            repeat' (first | (show WS _ _ _ (.region 19 _ true) _ _; refine WS_drawK [0, 1, 2, 3, 4, 5, 6, 7, 8, 9, 10, 11] 11 [3, 7, 9, 10] (by decide +kernel) rfl ?_) | (show WS _ _ _ (.region 20 _ true) _ _; first | refine WS_drawK [0, 1, 2, 3, 4, 5, 6, 7, 8, 9, 10, 11, 12, 13, 14, 15, 16, 17, 18] 15 [4, 7, 11, 14] (by decide +kernel) rfl ?_ | refine WS_drawM 0 [0, 1, 2, 3, 4, 5, 6, 7, 8, 9, 10, 11, 12, 13, 14, 15, 16, 17, 18] 18 [4, 11] (by decide +kernel) rfl rfl iI ?_) | (refine WS_seqK ?_; intro K hK) | (refine hK _ ?_; clear hK K) | (with_reducible (first | refine thenS_n ?_ | refine thenS_e ?_ | refine blockS_n ?_ | refine blockS_e ?_ | refine blockS_o rfl ?_ | refine thenS_r ?_ | refine blockS_r ?_ | refine use_K (by assumption) ?_)) | refine WS_region ?_ | refine LS_nil ?_ | (first | refine DL_nilA ?_ | refine DL_nilS ?_ | refine DL_nilN ?_ | refine DL_nilE ?_ | refine DL_nilR ?_) | (first | refine DL_claimS rfl ?_ | refine DL_claim rfl rfl ?_) | ((first | refine' LQ ?zh rfl ?_ | refine' DL_qp rfl rfl rfl ?zh ?_ | refine' DL_q rfl rfl ?zh ?_); case zh => intro F'; first | exact Q_move rfl | exact Q_nilCheck rfl | exact Q_fieldAddr rfl iI rfl | exact Q_load rfl iI iI rfl | exact Q_bin_f rfl rfl iI (by first | assumption | omega | decide) | exact Q_addI rfl rfl (by omega) | exact Q_index rfl rfl iI iI iI iI (by first | assumption | omega | (simp [be_length] <;> omega)) | exact Q_loadRA rfl iI iI iI (by assumption) | exact Q_sliceR_l rfl rfl iI iI iI iI (by first | assumption | omega | (simp [be_length] <;> omega))) | ((refine' DL_h0 ?zh rfl rfl ?_); (case zh => first | exact H_storeO rfl rfl iI iI iI rfl | exact H_delete rfl rfl iI iI iI iI); intro g) | (first | refine WS_block ?_ | refine WS_skip ?_ | refine WS_ret ?_ | refine WS_exit ?_ | refine WS_label ?_) | (show WS _ _ _ (.cond _ _ _) _ _; first | refine WS_condT rfl iI ?_ | refine WS_condF rfl iI ?_ | refine WS_condH_t rfl (by assumption) ?_ | refine WS_condH_f rfl (by assumption) ?_ | (refine WS_cond rfl ?_ ?_ <;> intro hc <;> (try simp only [decide_eq_true_eq, decide_eq_false_iff_not, Bool.not_eq_eq_eq_not, Bool.not_true, Bool.not_false, Bool.and_eq_true, Bool.or_eq_true, bne_iff_ne, beq_iff_eq, ne_eq, Decidable.not_not] at hc) <;> (try (exfalso; first | contradiction | omega; done)))) | ((refine' DL_qp rfl rfl rfl ?zh ?_); (case zh => intro F'; exact Q_sliceR_hm rfl rfl rfl rfl iI iI iI iI (by omega))) | (refine DL_h (H_appendCut i0 (i0 + 1) rfl rfl iI (by omega) (by omega) iI iI rqC_one (by omega) rfl iI) rfl rfl rfl ?_; intro va))
            refine ret_none (.inr rfl) rfl ⟨va, rfl, ?_⟩
            rw [er]
            refine Ent.trans ?_ (fin _ _ _ emp)
            ((try simp only [star_assoc, emp_star, star_emp]); (repeat' (first | exact Ent.last | refine Ent.take ?_ | refine Ent.nilT ?_ | refine Ent.takeR (by first | rfl | assumption | (simp; done)) ?_ | exact Ent.refl _)))
end Go.Proofs.YtapoehkdnglahaaGreat

/- A node answers; it tells what is lost; a text goes out. -/
namespace Go.Proofs.YtapoehkdnglahaaGreat
open Go.RowKit
set_option linter.unusedVariables false
set_option linter.unusedSectionVars false
set_option linter.unusedSimpArgs false
attribute [local irreducible] WS LS OpQ OpT OpH OpTQ Spec SpecQ cel
variable (w0 : World)
set_option maxRecDepth 100000 in
set_option maxHeartbeats 8000000 in
theorem hand_spec (gn : Nat) (s : Nd) (h : NH) (dest : UInt32) (text : Str) (ht : text.length ≤ 100) (ok : TabOk s.ls) (hf : s.Fit 1) : Spec Tryz.prog w0 135 [ptr gn 0, u32 dest, strV text] (nodP gn s h) (fun _ : Value => .bool (lookT s.ls dest s.now).isSome) (fun vf => nodP gn (s.hand dest text) { h with vf := vf }) := by
  have p1 := find_spec w0 h.tb s.self s.ls ok dest s.now
  refine Spec.enter Tryz.func135 rfl Tryz.ntmps135 rfl fun G => ?_
  cases hx : lookT s.ls dest s.now with
  | none =>
    have es : s.hand dest text = s := by unfold Nd.hand; rw [hx]
    rw [es]
    simp only [nodP, nodPm, nodC, outH, restP] at p1 ⊢
    simp only [argE]
    simp only [hx, findV, findH] at p1
    repeat' (first | (show WS _ _ _ (.region 1 _ true) _ _; first | refine WS_drawR1 0 [0, 1, 2, 3, 4, 5, 6, 7, 8, 9, 10, 11, 12, 13, 14, 15] (by decide +kernel) rfl rfl iI ?_ | refine WS_drawK [0, 1, 2, 3, 4, 5, 6, 7, 8, 9, 10, 11, 12, 13, 14, 15] 9 [3, 8] (by decide +kernel) rfl ?_ | refine WS_drawN 7 0 [0, 1, 2, 3, 4, 5, 6, 7, 8, 9, 10, 11, 12, 13, 14, 15] 14 [] (by decide +kernel) rfl rfl rfl iI iI ?_) | (refine WS_seqK ?_; intro K hK) | (refine hK _ ?_; clear hK K) | (with_reducible (first | refine thenS_n ?_ | refine thenS_e ?_ | refine blockS_n ?_ | refine blockS_e ?_ | refine blockS_o rfl ?_ | refine thenS_r ?_ | refine blockS_r ?_ | refine use_K (by assumption) ?_)) | refine WS_region ?_ | refine LS_nil ?_ | (first | refine DL_nilA ?_ | refine DL_nilS ?_ | refine DL_nilN ?_ | refine DL_nilE ?_ | refine DL_nilR ?_) | (refine DL_alloc iI rfl ?_; intro g) | ((first | refine' LQ ?zh rfl ?_ | refine' DL_q rfl rfl ?zh ?_); case zh => intro F'; first | exact Q_move rfl | exact Q_assign rfl | exact Q_nilCheck rfl | exact Q_fieldAddr rfl iI rfl | exact Q_load rfl iI iI rfl | exact Q_extract rfl rfl | exact Q_un rfl iI) | ((refine' DL_h0 ?zh rfl rfl ?_); (case zh => exact H_storeA rfl rfl iI iI (by first | rfl | (simp only [List.all_cons, List.all_nil, *]; rfl)) rfl); intro g) | (first | refine WS_block ?_ | refine WS_skip ?_ | refine WS_ret ?_ | refine WS_exit ?_ | refine WS_label ?_) | (show WS _ _ _ (.cond _ _ _) _ _; first | refine WS_condT rfl iI ?_ | refine WS_condF rfl iI ?_ | refine WS_condH_t rfl (by assumption) ?_ | refine WS_condH_f rfl (by assumption) ?_ | (refine WS_cond rfl ?_ ?_ <;> intro hc <;> (try simp only [decide_eq_true_eq, decide_eq_false_iff_not, Bool.not_eq_eq_eq_not, Bool.not_true, Bool.not_false, Bool.and_eq_true, Bool.or_eq_true, bne_iff_ne, beq_iff_eq, ne_eq, Decidable.not_not] at hc) <;> (try (exfalso; first | contradiction | omega; done)))) | (refine DL_h (H_callX iI rfl p1 iI) rfl rfl rfl ?_; intro x1))
    exact ret_tmp (.inl rfl) rfl rfl ⟨h.vf, rfl, by ((try simp only [star_assoc, emp_star, star_emp]); (repeat' (first | exact Ent.last | refine Ent.take ?_ | refine Ent.nilT ?_ | refine Ent.takeR (by first | rfl | assumption | (simp; done)) ?_ | exact Ent.refl _)))⟩
  | some b =>
    obtain ⟨s1, hs1⟩ : ∃ s1 : Nd, s1 = { s with datas := s.datas + 1 } := ⟨_, rfl⟩
    obtain ⟨s2, hs2⟩ : ∃ s2 : Nd, s2 = s1.send b.next ⟨8, 9, 0, false, s.datas + 1, dest, 0, s.self, 0, 0, [], text⟩ := ⟨_, rfl⟩
    have es : s.hand dest text = { s2 with ls := useT s2.ls dest s2.soon } := by unfold Nd.hand; rw [hx]; rw [hs2, hs1]; rfl
    have p2 := send_E0 w0 gn s1 h b.next ⟨8, 9, 0, false, s.datas + 1, dest, 0, s.self, 0, 0, [], text⟩ ⟨by simp [i64R], by simp [i64R], by simp [i64R], by simp, by simp only; omega⟩ rfl (by rw [hs1]; exact ⟨hf.frames, hf.came, hf.dropped, hf.recs, hf.journal⟩)
    have p3 := fun vf => soon_spec w0 gn s2 { h with vf := vf }
    have p4 := use_spec w0 h.tb s2.self s2.ls dest s2.soon
    rw [← hs2] at p2
    rw [hs1] at p2
    rw [es]
    simp only [nodP, nodPm, nodC, outH, restP, Pk.val, Pk.cells] at p1 p2 p3 p4 ⊢
    simp only [argE]
    simp only [hx, findV, findH, routeC] at p1
    repeat' (first | (show WS _ _ _ (.region 1 _ true) _ _; first | refine WS_drawR1 0 [0, 1, 2, 3, 4, 5, 6, 7, 8, 9, 10, 11, 12, 13, 14, 15] (by decide +kernel) rfl rfl iI ?_ | refine WS_drawK [0, 1, 2, 3, 4, 5, 6, 7, 8, 9, 10, 11, 12, 13, 14, 15] 9 [3, 8] (by decide +kernel) rfl ?_ | refine WS_drawN 7 0 [0, 1, 2, 3, 4, 5, 6, 7, 8, 9, 10, 11, 12, 13, 14, 15] 14 [] (by decide +kernel) rfl rfl rfl iI iI ?_) | (show WS _ _ _ (.region 5 _ true) _ _; refine WS_drawK [0, 1, 2, 3, 4, 5, 6, 7, 8, 9, 10, 11, 12, 13, 14] 14 [2, 6, 11] (by decide +kernel) rfl ?_) | (show WS _ _ _ (.region 6 _ true) _ _; refine WS_drawK [0, 1, 2, 3, 4, 5, 6, 7] 7 [3] (by decide +kernel) rfl ?_) | (refine WS_seqK ?_; intro K hK) | (refine hK _ ?_; clear hK K) | refine WS_region ?_ | refine LS_nil ?_ | (first | refine DL_nilA ?_ | refine DL_nilS ?_ | refine DL_nilN ?_ | refine DL_nilE ?_ | refine DL_nilR ?_) | (first | refine DL_claimS rfl ?_ | refine DL_claim rfl rfl ?_) | (refine DL_alloc iI rfl ?_; intro g) | ((first | refine' LQ ?zh rfl ?_ | refine' DL_qp rfl rfl rfl ?zh ?_ | refine' DL_q rfl rfl ?zh ?_); case zh => intro F'; first | exact Q_move rfl | exact Q_assign rfl | exact Q_nilCheck rfl | exact Q_fieldAddr rfl iI rfl | exact Q_load rfl iI iI rfl | exact Q_extract rfl rfl | exact Q_un rfl iI | exact Q_build iI iI rfl rfl) | ((refine' LQ ?zh rfl ?_); case zh => intro F'; exact Q_bin rfl rfl iI) | ((first | refine' LS_h0 ?zh ?_ | refine' DL_h0 ?zh rfl rfl ?_); (case zh => first | exact H_storeO rfl rfl iI iI iI rfl | exact H_storeAO rfl rfl iI iI iI rfl); intro g) | (first | refine WS_block ?_ | refine WS_skip ?_ | refine WS_ret ?_ | refine WS_exit ?_ | refine WS_label ?_) | (show WS _ _ _ (.cond _ _ _) _ _; first | refine WS_condT rfl iI ?_ | refine WS_condF rfl iI ?_ | refine WS_condH_t rfl (by assumption) ?_ | refine WS_condH_f rfl (by assumption) ?_ | (refine WS_cond rfl ?_ ?_ <;> intro hc <;> (try simp only [decide_eq_true_eq, decide_eq_false_iff_not, Bool.not_eq_eq_eq_not, Bool.not_true, Bool.not_false, Bool.and_eq_true, Bool.or_eq_true, bne_iff_ne, beq_iff_eq, ne_eq, Decidable.not_not] at hc) <;> (try (exfalso; first | contradiction | omega; done)))) | (refine DL_h (H_callX iI rfl p1 iI) rfl rfl rfl ?_; intro x1) | (refine DL_h (H_callX iI rfl p2 iI) rfl rfl rfl ?_; intro vf; replace p3 := p3 vf) | (refine DL_callS iI rfl p3 iI rfl ?_) | (refine DL_h (H_callX iI rfl p4 iI) rfl rfl rfl ?_; intro x4))
    exact ret_tmp (.inl rfl) rfl rfl ⟨vf, rfl, by ((try simp only [star_assoc, emp_star, star_emp]); (repeat' (first | exact Ent.last | refine Ent.take ?_ | refine Ent.nilT ?_ | refine Ent.takeR (by first | rfl | assumption | (simp; done)) ?_ | exact Ent.refl _)))⟩
end Go.Proofs.YtapoehkdnglahaaGreat

/- Bounds of packets; what remembering and learning leave alone. -/
namespace Go.Proofs.YtapoehkdnglahaaGreat
open Go.RowKit
set_option linter.unusedVariables false
set_option linter.unusedSectionVars false
set_option linter.unusedSimpArgs false
/-- Bounds of a packet that was read. -/
structure Pk.Read (p : Pk) : Prop where
  ttl : 1 ≤ p.ttl ∧ p.ttl ≤ 255
  kind : i64R p.kind
  hops : 0 ≤ p.hops ∧ p.hops ≤ 255
  lost : p.lost.length ≤ 1000
  payload : p.payload.length ≤ 100
theorem Nd.remember_eqs (s : Nd) (r : Rq) : (s.remember r).ls = s.ls ∧ (s.remember r).self = s.self ∧ (s.remember r).now = s.now ∧ (s.remember r).out = s.out ∧ (s.remember r).recs = s.recs := by
  unfold Nd.remember
  dsimp only
  split <;> exact ⟨rfl, rfl, rfl, rfl, rfl⟩
theorem Nd.Fit.remember {s : Nd} {k : Nat} (h : s.Fit k) (r : Rq) : (s.remember r).Fit k := by
  obtain ⟨_, _, _, e, f⟩ := s.remember_eqs r
  exact ⟨by rw [e]; exact h.frames, by rw [e]; exact h.came, by rw [e]; exact h.dropped, by rw [f]; exact h.recs, by rw [e]; exact h.journal⟩
end Go.Proofs.YtapoehkdnglahaaGreat

