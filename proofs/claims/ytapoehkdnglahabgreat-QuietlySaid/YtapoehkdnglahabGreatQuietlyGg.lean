/- NodW QuiP MesN MesJ QuiW Quietly, joined. -/
import Derived.Test.YtapoehkdnglahabGreatQuietlyGf
/- A node's doors: node.Node's and mesh.Node's functions. -/
namespace Go.Proofs.YtapoehkdnglahabGreat
open Go.RowKit
set_option linter.unusedVariables false
set_option linter.unusedSimpArgs false
theorem Nd.noteL_jour (s : Nd) (l : Ln) : (s.noteL l).out.journal.length ≤ s.out.journal.length + 13 := by
  unfold Nd.noteL
  (repeat' split) <;> simp [Nd.write, Rec.bytes_length]
theorem Nd.noteO_jour (s : Nd) : s.noteO.out.journal.length ≤ s.out.journal.length + 13 := by
  unfold Nd.noteO
  split <;> simp [Nd.write, Rec.bytes_length]
theorem Nd.noteLs_jour (L : List Ln) : ∀ s : Nd, (L.foldl Nd.noteL s).out.journal.length ≤ s.out.journal.length + 13 * L.length := by
  induction L with
  | nil => intro s; simp
  | cons l L ih => intro s; have h1 := ih (s.noteL l); have h2 := s.noteL_jour l; simp only [List.foldl_cons, List.length_cons]; omega
theorem Nd.note_jour (s : Nd) (ok : TabOk s.ls) : s.note.out.journal.length ≤ s.out.journal.length + 117 := by
  have h1 := Nd.noteLs_jour (listT s.ls) s.noteO
  have h2 := s.noteO_jour
  have h3 := listT_length s.ls
  have h4 := ok.short
  unfold Nd.note
  omega
/-- What note leaves alone. -/
structure Nd.Same (s t : Nd) : Prop where
  ls : t.ls = s.ls
  self : t.self = s.self
  seq : t.seq = s.seq
  silent : t.silent = s.silent
  seen : t.seen = s.seen
  order : t.order = s.order
  wait : t.wait = s.wait
  srs : t.srs = s.srs
  clk : t.clk = s.clk
  last : t.last = s.last
  names : t.names = s.names
  ids : t.ids = s.ids
  datas : t.datas = s.datas
  sent : t.sent = s.sent
  now : t.now = s.now
  frames : t.out.frames = s.out.frames
  came : t.out.came = s.out.came
  dropped : t.out.dropped = s.out.dropped
  replace : t.out.replace = s.out.replace
theorem Nd.Same.rfl' (s : Nd) : s.Same s := by constructor <;> rfl
theorem Nd.Same.write (s : Nd) (r : Rec) : s.Same (s.write r) := by constructor <;> rfl
theorem Nd.Same.trans {s t u : Nd} (h : s.Same t) (k : t.Same u) : s.Same u := by
  constructor
  · exact k.ls.trans h.ls
  · exact k.self.trans h.self
  · exact k.seq.trans h.seq
  · exact k.silent.trans h.silent
  · exact k.seen.trans h.seen
  · exact k.order.trans h.order
  · exact k.wait.trans h.wait
  · exact k.srs.trans h.srs
  · exact k.clk.trans h.clk
  · exact k.last.trans h.last
  · exact k.names.trans h.names
  · exact k.ids.trans h.ids
  · exact k.datas.trans h.datas
  · exact k.sent.trans h.sent
  · exact k.now.trans h.now
  · exact k.frames.trans h.frames
  · exact k.came.trans h.came
  · exact k.dropped.trans h.dropped
  · exact k.replace.trans h.replace
theorem Nd.Same.noteL (s : Nd) (l : Ln) : s.Same (s.noteL l) := by
  unfold Nd.noteL
  (repeat' split) <;> first | exact Nd.Same.write _ _ | exact Nd.Same.rfl' _
theorem Nd.Same.noteO (s : Nd) : s.Same s.noteO := by
  unfold Nd.noteO
  split
  · exact Nd.Same.write _ _
  · exact Nd.Same.rfl' _
theorem Nd.Same.noteLs (L : List Ln) : ∀ s : Nd, s.Same (L.foldl Nd.noteL s) := by
  induction L with
  | nil => intro s; exact Nd.Same.rfl' s
  | cons l L ih => intro s; exact (Nd.Same.noteL s l).trans (ih _)
theorem Nd.Same.note (s : Nd) : s.Same s.note := (Nd.Same.noteO s).trans (Nd.Same.noteLs _ _)
/-- What begins a call. -/
theorem Nd.begin_ls (s : Nd) (now : UInt64) : (s.begin now).ls = expT now s.ls := (Nd.Same.note _).ls
theorem Nd.begin_frames (s : Nd) (now : UInt64) : (s.begin now).out.frames = [] := (Nd.Same.note _).frames
theorem Nd.begin_dropped (s : Nd) (now : UInt64) : (s.begin now).out.dropped = [] := (Nd.Same.note _).dropped
theorem Nd.begin_ok (s : Nd) (now : UInt64) (ok : TabOk s.ls) : TabOk (s.begin now).ls := by rw [Nd.begin_ls]; exact ok.exp now
theorem Nd.begin_recs (s : Nd) (now : UInt64) (ok : TabOk s.ls) : (s.begin now).recs.length ≤ s.recs.length + 9 := by
  have := Nd.note_recs { s with now := now, out := OutD.zero, ls := expT now s.ls } (ok.exp now)
  exact this
theorem Nd.begin_jour (s : Nd) (now : UInt64) (ok : TabOk s.ls) : (s.begin now).out.journal.length ≤ 117 := by
  have := Nd.note_jour { s with now := now, out := OutD.zero, ls := expT now s.ls } (ok.exp now)
  simpa [OutD.zero, Nd.begin] using this
theorem Nd.rcvQ_ls (s : Nd) (now : UInt64) (a : UInt32) (f : Str) : (s.rcvQ now a f).ls = s.ls := by
  unfold Nd.rcvQ
  (repeat' split) <;> simp only [Nd.drop, Nd.tell, Nd.send]
theorem Nd.rcvQ_recs (s : Nd) (now : UInt64) (a : UInt32) (f : Str) : (s.rcvQ now a f).recs = s.recs := by
  unfold Nd.rcvQ
  (repeat' split) <;> simp only [Nd.drop, Nd.tell, Nd.send]
theorem Nd.rcvQ_jour (s : Nd) (now : UInt64) (a : UInt32) (f : Str) : (s.rcvQ now a f).out.journal = s.out.journal := by
  unfold Nd.rcvQ
  (repeat' split) <;> simp only [Nd.drop, Nd.tell, Nd.send]
attribute [local irreducible] WS LS OpQ OpT OpH OpTQ Spec SpecQ cel
variable (w0 : World)
set_option maxRecDepth 100000 in
set_option maxHeartbeats 8000000 in
/-- A node hears a frame, and is silent. -/
theorem nrcvQ_spec (gn : Nat) (s : Nd) (now : UInt64) (from_ : UInt32) (f : Str) (ok : TabOk s.ls) (hr : s.recs.length ≤ 8000) (hq : (s.begin now).Deaf now from_ f) (hf : f.length ≤ 100000) (v : Value) (X : HProp) [hX : Rdr w0 X v UInt8 1 byteC f] :
    Spec Tryz.prog w0 34 [ptr gn 0, u64 now, u32 from_, v] (nodI gn s * X) (fun x : Value × Value × Value => outA ((s.begin now).rcvQ now from_ f).done.out x) (fun x => nodI gn ((s.begin now).rcvQ now from_ f).done * (outR ((s.begin now).rcvQ now from_ f).done.out x * X)) := by
  have h1 := Nd.begin_recs s now ok
  have h2 := Nd.begin_jour s now ok
  have h3 := Nd.begin_ok s now ok
  have p1 := fun bf br bn bw => does_spec w0 gn s ((s.begin now).rcvQ now from_ f) now (by omega) ok (by rw [Nd.rcvQ_recs]; omega) (by rw [Nd.rcvQ_jour]; omega) (by rw [Nd.rcvQ_ls]; exact h3) 65 [ptr bf 0, ptr br 0, ptr bn 0, ptr bw 0] _ _ (rcvQ_spec w0 gn (s.begin now) now from_ f hq hf (by rw [Nd.begin_frames]; simp) (by rw [Nd.begin_dropped]; simp) bf br bn bw 25 26 90 24 v X)
  generalize ((s.begin now).rcvQ now from_ f).done = s2 at p1 ⊢
  simp only [outA, outR] at p1 ⊢
  refine Spec.enter Tryz.func34 rfl Tryz.ntmps34 rfl fun G => ?_
  simp only [argE]
  repeat' (first
    | (refine WS_seqK ?_; intro K hK)
    | (refine hK _ ?_; clear hK K)
    | (with_reducible (first | refine thenS_n ?_ | refine thenS_e ?_ | refine blockS_n ?_ | refine blockS_e ?_ | refine blockS_o rfl ?_ | refine thenS_r ?_ | refine blockS_r ?_ | refine use_K (by assumption) ?_))
    | refine WS_region ?_
    | refine LS_nil ?_
    | ((refine' LQ ?h rfl ?_); case h => intro F'; first | exact Q_load rfl iI iI rfl | exact Q_loadA rfl iI iI rfl | exact Q_loadR rfl iI iI iI (by assumption) rfl | exact Q_loadR rfl iI iI iI rfl rfl | exact Q_loadRA rfl iI iI iI (by assumption) | exact Q_makeFunc rfl rfl)
    | ((refine' LS_h ?h rfl ?_); (case h => first | exact H_alloc iI | exact H_box rfl | exact H_boxO rfl iI | exact H_box1 rfl (by first | rfl | assumption)); intro g)
    | ((refine' LS_h0 ?h ?_); (case h => first | exact H_storeO rfl rfl iI iI iI rfl | exact H_storeAO rfl rfl iI iI iI rfl | exact H_store8 rfl rfl iI iI rfl iI (by first | assumption | omega | (simp [be_length] <;> omega)) | exact H_storeRA _ rfl rfl rfl iI iI iI rfl rfl (by first | assumption | omega | (simp [be_length] <;> omega)) | exact H_storeR _ rfl rfl iI iI iI rfl (by assumption) rfl | exact H_store rfl rfl iI (by first | rfl | assumption) iI rfl | exact H_storeA rfl rfl iI iI (by first | rfl | (simp only [List.all_cons, List.all_nil, *]; rfl)) rfl); intro g)
    | (first | refine WS_block ?_ | refine WS_skip ?_ | refine WS_ret ?_ | refine WS_exit ?_ | refine WS_label ?_)
    | (show WS _ _ _ (.cond _ _ _) _ _; first | refine WS_condT rfl iI ?_ | refine WS_condF rfl iI ?_ | refine WS_condH_t rfl (by assumption) ?_ | refine WS_condH_f rfl (by assumption) ?_ | (refine WS_cond rfl ?_ ?_ <;> intro hc <;> (try simp only [decide_eq_true_eq, decide_eq_false_iff_not, Bool.not_eq_eq_eq_not, Bool.not_true, Bool.not_false, Bool.and_eq_true, Bool.or_eq_true, bne_iff_ne, beq_iff_eq, ne_eq, Decidable.not_not] at hc) <;> (try (exfalso; first | contradiction | omega; done))))
    | (refine LS_h (H_callX iI rfl (p1 _ _ _ _) iI) rfl ?_; intro x))
  exact ret_1 (.inl rfl) rfl (RV_cell rfl iI iI rfl) ⟨x.1, rfl, by ((try simp only [star_assoc, emp_star, star_emp]); (repeat' (first | exact Ent.last | refine Ent.take ?_ | refine Ent.nilT ?_ | refine Ent.takeR (by first | rfl | assumption | (simp; done)) ?_ | exact Ent.refl _)))⟩
set_option maxRecDepth 100000 in
set_option maxHeartbeats 8000000 in
theorem nroutes_spec (gn : Nat) (s : Nd) (ok : TabOk s.ls) :
    Spec Tryz.prog w0 36 [ptr gn 0] (nodI gn s) (fun x : Value × List LnS => x.1) (fun x => nodI gn s * (pure' (x.2.map (·.1) = listT s.ls) * (rows 53 7 routeS x.1 x.2 * befs x.2))) := by
  refine Spec.enterM Tryz.func36 rfl Tryz.ntmps36 rfl fun G => ?_
  refine WS_nodI fun h o => ?_
  simp only [argE, nodC]
  have p1 := lock_spec w0 gn 159 (nodC 0 s h o).tail
  have p2 := list_spec w0 h.tb s.self s.ls ok
  simp only [nodC, List.tail_cons] at p1
  repeat' (first
    | (refine WS_seqK ?_; intro K hK)
    | (refine hK _ ?_; clear hK K)
    | (with_reducible (first | refine thenS_n ?_ | refine thenS_e ?_ | refine blockS_n ?_ | refine blockS_e ?_ | refine blockS_o rfl ?_ | refine thenS_r ?_ | refine blockS_r ?_ | refine use_K (by assumption) ?_))
    | refine WS_region ?_
    | refine LS_nil ?_
    | ((refine' LQ ?h rfl ?_); case h => intro F'; first | exact Q_move rfl | exact Q_assign rfl | exact Q_nilCheck rfl | exact Q_fieldAddr rfl iI rfl | exact Q_load rfl iI iI rfl | exact Q_loadA rfl iI iI rfl | exact Q_fieldR rfl iI iI rfl (by first | assumption | omega | (simp [be_length] <;> omega)) | exact Q_loadR rfl iI iI iI (by assumption) rfl | exact Q_loadR rfl iI iI iI rfl rfl | exact Q_loadRA rfl iI iI iI (by assumption) | exact Q_nilCheck_f rfl)
    | (first | refine WS_block ?_ | refine WS_skip ?_ | refine WS_ret ?_ | refine WS_exit ?_ | refine WS_label ?_)
    | (show WS _ _ _ (.cond _ _ _) _ _; first | refine WS_condT rfl iI ?_ | refine WS_condF rfl iI ?_ | refine WS_condH_t rfl (by assumption) ?_ | refine WS_condH_f rfl (by assumption) ?_ | (refine WS_cond rfl ?_ ?_ <;> intro hc <;> (try simp only [decide_eq_true_eq, decide_eq_false_iff_not, Bool.not_eq_eq_eq_not, Bool.not_true, Bool.not_false, Bool.and_eq_true, Bool.or_eq_true, bne_iff_ne, beq_iff_eq, ne_eq, Decidable.not_not] at hc) <;> (try (exfalso; first | contradiction | omega; done))))
    | (refine LS_h (H_callX iI rfl p1 iI) rfl ?_; intro u1)
    | (refine LS_h (H_callX iI rfl p2 iI) rfl ?_; intro x)
    | refine LS_defer rfl rfl rfl ?_)
  simp only [Env.putO]
  refine out_r (lv_call (u := .returning) (caps := []) (args := [ptr gn 0]) (by simp) inferInstance ?_)
  refine unlock_D w0 iI rfl ?_
  refine lv_ret1 rfl (RV_tmp rfl) ⟨x, rfl, ?_⟩
  rw [star_assoc (nodI _ _)]
  refine ent_nodI h o ?_
  simp only [nodC]
  ((try simp only [star_assoc, emp_star, star_emp]); (repeat' (first | exact Ent.last | refine Ent.take ?_ | refine Ent.nilT ?_ | refine Ent.takeR (by first | rfl | assumption | (simp; done)) ?_ | exact Ent.refl _)))
set_option maxRecDepth 100000 in
set_option maxHeartbeats 8000000 in
theorem nseq_spec (gn : Nat) (s : Nd) :
    Spec Tryz.prog w0 33 [ptr gn 0] (nodI gn s) (fun _ : Unit => u32 s.seq) (fun _ => nodI gn s) := by
  refine Spec.enterM Tryz.func33 rfl Tryz.ntmps33 rfl fun G => ?_
  refine WS_nodI fun h o => ?_
  simp only [argE, nodC]
  have p1 := lock_spec w0 gn 159 (nodC 0 s h o).tail
  simp only [nodC, List.tail_cons] at p1
  repeat' (first
    | (refine WS_seqK ?_; intro K hK)
    | (refine hK _ ?_; clear hK K)
    | (with_reducible (first | refine thenS_n ?_ | refine thenS_e ?_ | refine blockS_n ?_ | refine blockS_e ?_ | refine blockS_o rfl ?_ | refine thenS_r ?_ | refine blockS_r ?_ | refine use_K (by assumption) ?_))
    | refine WS_region ?_
    | refine LS_nil ?_
    | ((refine' LQ ?h rfl ?_); case h => intro F'; first | exact Q_move rfl | exact Q_assign rfl | exact Q_nilCheck rfl | exact Q_fieldAddr rfl iI rfl | exact Q_load rfl iI iI rfl | exact Q_loadA rfl iI iI rfl | exact Q_fieldR rfl iI iI rfl (by first | assumption | omega | (simp [be_length] <;> omega)) | exact Q_loadR rfl iI iI iI (by assumption) rfl | exact Q_loadR rfl iI iI iI rfl rfl | exact Q_loadRA rfl iI iI iI (by assumption) | exact Q_nilCheck_f rfl)
    | (first | refine WS_block ?_ | refine WS_skip ?_ | refine WS_ret ?_ | refine WS_exit ?_ | refine WS_label ?_)
    | (show WS _ _ _ (.cond _ _ _) _ _; first | refine WS_condT rfl iI ?_ | refine WS_condF rfl iI ?_ | refine WS_condH_t rfl (by assumption) ?_ | refine WS_condH_f rfl (by assumption) ?_ | (refine WS_cond rfl ?_ ?_ <;> intro hc <;> (try simp only [decide_eq_true_eq, decide_eq_false_iff_not, Bool.not_eq_eq_eq_not, Bool.not_true, Bool.not_false, Bool.and_eq_true, Bool.or_eq_true, bne_iff_ne, beq_iff_eq, ne_eq, Decidable.not_not] at hc) <;> (try (exfalso; first | contradiction | omega; done))))
    | (refine LS_h (H_callX iI rfl p1 iI) rfl ?_; intro u1)
    | refine LS_defer rfl rfl rfl ?_)
  simp only [Env.putO]
  refine out_r (lv_call (u := .returning) (caps := []) (args := [ptr gn 0]) (by simp) inferInstance ?_)
  refine unlock_D w0 iI rfl ?_
  refine lv_ret1 rfl (RV_tmp rfl) ⟨(), rfl, ?_⟩
  refine ent_nodI h o ?_
  simp only [nodC]
  ((try simp only [star_assoc, emp_star, star_emp]); (repeat' (first | exact Ent.last | refine Ent.take ?_ | refine Ent.nilT ?_ | refine Ent.takeR (by first | rfl | assumption | (simp; done)) ?_ | exact Ent.refl _)))
end Go.Proofs.YtapoehkdnglahabGreat

/- A node that has begun again is quiet: in plain Lean. -/
namespace Go.Proofs.YtapoehkdnglahabGreat
open Go.RowKit
set_option linter.unusedVariables false
set_option linter.unusedSimpArgs false
/-- What holds of it as long as it is silent. -/
structure Nd.Quiet (s : Nd) : Prop where
  self : s.self = 1
  ok : TabOk s.ls
  inv : ∀ l ∈ s.ls, l.valid = false
  own : ¬ s.own < s.seq
  held : ∀ l ∈ listT s.ls, ∃ q, mget s.held l.dest = some q ∧ ¬ q < l.seq
  recs : s.recs.length ≤ 10
  silent : 2100 ≤ s.silent
theorem noteLs_fix {h : List (UInt32 × UInt32)} (L : List Ln) : ∀ s : Nd, s.held = h → (∀ l ∈ L, ∃ q, mget h l.dest = some q ∧ ¬ q < l.seq) → L.foldl Nd.noteL s = s := by
  induction L with
  | nil => intro s _ _; rfl
  | cons l L ih =>
    intro s hs hl
    obtain ⟨q, h1, h2⟩ := hl l (by simp)
    have e : s.noteL l = s := by unfold Nd.noteL; rw [hs, h1]; simp [h2]
    rw [List.foldl_cons, e]
    exact ih s hs fun l hm => hl l (by simp [hm])
theorem Nd.note_fix {s : Nd} (h1 : ¬ s.own < s.seq) (h2 : ∀ l ∈ listT s.ls, ∃ q, mget s.held l.dest = some q ∧ ¬ q < l.seq) : s.note = s := by
  have e : s.noteO = s := by unfold Nd.noteO; rw [if_neg h1]
  unfold Nd.note
  rw [e]
  exact noteLs_fix _ s rfl h2
theorem expT_inv {ls : List Ln} (h : ∀ l ∈ ls, l.valid = false) (now : UInt64) : expT now ls = ls := by
  unfold expT
  conv => rhs; rw [← List.map_id ls]
  refine List.map_congr_left fun l hl => ?_
  simp [Ln.exp, h l hl]
theorem Nd.Quiet.begin {s : Nd} (h : s.Quiet) (now : UInt64) : s.begin now = { s with now := now, out := OutD.zero } := by
  unfold Nd.begin
  rw [expT_inv h.inv]
  exact Nd.note_fix h.own h.held
theorem Nd.Quiet.of {s t : Nd} (h : s.Quiet) (h1 : t.self = s.self) (h2 : t.ls = s.ls) (h3 : t.own = s.own) (h4 : t.seq = s.seq) (h5 : t.held = s.held) (h6 : t.recs.length ≤ s.recs.length) (h7 : t.silent = s.silent ∨ 2100 ≤ t.silent) : t.Quiet := by
  refine ⟨h1.trans h.self, by rw [h2]; exact h.ok, by rw [h2]; exact h.inv, by rw [h3, h4]; exact h.own, by rw [h2, h5]; exact h.held, Nat.le_trans h6 h.recs, ?_⟩
  rcases h7 with h7 | h7
  · rw [h7]; exact h.silent
  · exact h7
theorem Nd.Quiet.done {s : Nd} (h : s.Quiet) : s.done = s := by
  have e := Nd.note_fix h.own h.held
  have := h.recs
  unfold Nd.done
  rw [e, if_neg (by omega)]
/-- What it answers a frame. -/
theorem Nd.Quiet.hear {s : Nd} (h : s.Quiet) (now : UInt64) (hn : 100 ≤ now ∧ now < 2100) (f : Str) :
    ((s.begin now).rcvQ now 2 f).done.Quiet ∧ (s.begin now).Deaf now 2 f ∧ ((s.begin now).rcvQ now 2 f).done.out.came = [] ∧ (((s.begin now).rcvQ now 2 f).done.out.frames = [] ∨ ∃ d q, ((s.begin now).rcvQ now 2 f).done.out.frames = [(2, (Pk.lose [(d, q)]).out)]) := by
  have hb := h.begin now
  have q0 : (s.begin now).Quiet := by rw [hb]; exact h.of rfl rfl rfl rfl rfl (Nat.le_refl _) (.inl rfl)
  have hf : (s.begin now).out.frames = [] := by rw [hb]; rfl
  have hc : (s.begin now).out.came = [] := by rw [hb]; rfl
  generalize s.begin now = t at *
  have hsil : now + 2000 ≥ 2100 := by
    obtain ⟨h1, h2⟩ := hn
    rw [ge_iff_le, UInt64.le_iff_toNat_le] 
    rw [UInt64.le_iff_toNat_le] at h1
    rw [UInt64.lt_iff_toNat_lt] at h2
    rw [UInt64.toNat_add]
    simp at *
    omega
  have key : (t.rcvQ now 2 f).Quiet ∧ (t.rcvQ now 2 f).out.came = [] ∧ ((t.rcvQ now 2 f).out.frames = [] ∨ ∃ d q, (t.rcvQ now 2 f).out.frames = [(2, (Pk.lose [(d, q)]).out)]) := by
    unfold Nd.rcvQ
    (repeat' split)
    · exact ⟨q0.of rfl rfl rfl rfl rfl (Nat.le_refl _) (.inl rfl), hc, .inl hf⟩
    · exact ⟨q0.of rfl rfl rfl rfl rfl (Nat.le_refl _) (.inl rfl), hc, .inl hf⟩
    · rename_i p _ _ _
      refine ⟨q0.of ?_ ?_ ?_ ?_ ?_ ?_ (.inr ?_), ?_, .inr ⟨p.dest, numT t.ls p.dest, ?_⟩⟩
      all_goals simp only [Nd.drop, Nd.tell, Nd.send, hf, hc, List.nil_append, Nat.le_refl]
      · exact hsil
    · exact ⟨q0.of rfl rfl rfl rfl rfl (Nat.le_refl _) (.inl rfl), hc, .inl hf⟩
  obtain ⟨k1, k2, k3⟩ := key
  rw [k1.done]
  refine ⟨k1, .inr (.inr ?_), k2, k3⟩
  exact UInt64.lt_of_lt_of_le hn.2 q0.silent
/-! ### A node that begins -/
theorem noteLs_held (L : List Ln) : ∀ s : Nd, (L.map (·.dest)).Nodup → ∀ l ∈ L, ∃ q, mget (L.foldl Nd.noteL s).held l.dest = some q ∧ ¬ q < l.seq := by
  have keep : ∀ (M : List Ln) (s : Nd) (d : UInt32), d ∉ M.map (·.dest) → mget (M.foldl Nd.noteL s).held d = mget s.held d := by
    intro M
    induction M with
    | nil => intro s d _; rfl
    | cons m M ih =>
      intro s d hd
      simp only [List.map_cons, List.mem_cons, not_or] at hd
      rw [List.foldl_cons, ih _ d hd.2]
      unfold Nd.noteL
      (repeat' split) <;> simp [Nd.write, mget_mset, Ne.symm hd.1]
  induction L with
  | nil => intro s _ l hl; cases hl
  | cons m M ih =>
    intro s hn l hl
    simp only [List.map_cons, List.nodup_cons] at hn
    rw [List.foldl_cons]
    rcases List.mem_cons.1 hl with rfl | hl
    · rw [keep M _ _ hn.1]
      unfold Nd.noteL
      split
      · rename_i q hq
        split
        · exact ⟨l.seq, by simp [Nd.write, mget_mset], by simp⟩
        · rename_i hnq
          exact ⟨q, hq, hnq⟩
      · exact ⟨l.seq, by simp [Nd.write, mget_mset], by simp⟩
    · exact ih _ hn.2 l hl
theorem lget_dest {ls : List Ln} {d : UInt32} {l : Ln} (h : lget ls d = some l) : l ∈ ls ∧ l.dest = d := by
  unfold lget at h
  cases hf : lfind ls d with
  | none => rw [hf] at h; cases h
  | some i =>
    obtain ⟨m, hm, hd⟩ := lfind_some hf
    rw [hf] at h
    simp only [Option.bind_some, hm, Option.some.injEq] at h
    subst h
    exact ⟨List.mem_of_getElem? hm, hd⟩
theorem listT_mem {ls : List Ln} {l : Ln} (h : l ∈ listT ls) : l ∈ ls := by
  obtain ⟨d, _, hd⟩ := List.mem_filterMap.1 h
  exact (lget_dest hd).1
theorem listT_nodup {ls : List Ln} (ok : TabOk ls) : ((listT ls).map (·.dest)).Nodup := by
  have h1 : (sortU (dests ls)).Nodup := (List.mergeSort_perm _ _).nodup_iff.2 ok.nodup
  have h2 : (listT ls).map (·.dest) = (sortU (dests ls)).filter (fun d => (lget ls d).isSome) := by
    unfold listT
    generalize sortU (dests ls) = D
    induction D with
    | nil => rfl
    | cons d D ih =>
      rw [List.filterMap_cons, List.filter_cons]
      cases hg : lget ls d with
      | none => simpa [hg] using ih
      | some l => simp [(lget_dest hg).2, ih]
  rw [h2]
  exact h1.filter _
theorem newT_inv (self : UInt32) (c : List Rec) : ∀ l ∈ newT self c, l.valid = false := by
  induction c using snocInd with
  | nil => intro l hl; cases hl
  | snoc c r ih =>
    rw [newT_snoc]
    unfold newStep
    split
    · intro l hl
      unfold putT at hl
      split at hl
      · rcases List.mem_or_eq_of_mem_set hl with hl | rfl
        · exact ih l hl
        · rfl
      · rcases List.mem_append.1 hl with hl | hl
        · exact ih l hl
        · simp at hl; subst hl; rfl
    · exact ih
theorem Nd.new_quiet (b : Str) (hb : 0 < b.length) : (Nd.new 1 b 100).Quiet := by
  have hok := Nd.booted_ok 1 b 100
  obtain ⟨s0, hs0⟩ : ∃ s0 : Nd, s0 = Nd.booted 1 b 100 := ⟨_, rfl⟩
  have e0 : s0 = { Nd.blank 1 with seq := growS (maxOwn (readJ b)), ls := newT 1 (compR (readJ b)), silent := 100 + 2000 } := by rw [hs0]; unfold Nd.booted; rw [if_pos hb]
  have en : Nd.new 1 b 100 = (s0.write ⟨true, 0, s0.seq⟩).note := by unfold Nd.new; rw [hs0]
  rw [← hs0] at hok
  have hsm := Nd.Same.note (s0.write ⟨true, 0, s0.seq⟩)
  have ho : (s0.write ⟨true, 0, s0.seq⟩).noteO = s0.write ⟨true, 0, s0.seq⟩ := by unfold Nd.noteO; rw [if_neg (by simp [Nd.write])]
  have hr := Nd.noteLs_recs (listT s0.ls) (s0.write ⟨true, 0, s0.seq⟩)
  have hl8 := Nat.le_trans (listT_length s0.ls) hok.short
  have hn : (s0.write ⟨true, 0, s0.seq⟩).note = (listT s0.ls).foldl Nd.noteL (s0.write ⟨true, 0, s0.seq⟩) := by unfold Nd.note; rw [ho]; rfl
  have hown : ∀ (L : List Ln) (s : Nd), (L.foldl Nd.noteL s).own = s.own := by
    intro L
    induction L with
    | nil => intro s; rfl
    | cons l L ih =>
      intro s
      rw [List.foldl_cons, ih]
      unfold Nd.noteL
      (repeat' split) <;> rfl
  rw [en]
  refine ⟨?_, ?_, ?_, ?_, ?_, ?_, ?_⟩
  · rw [hsm.self]; show s0.self = 1; rw [e0]; rfl
  · rw [hsm.ls]; exact hok
  · rw [hsm.ls]; intro l hl; have : l ∈ s0.ls := hl; rw [e0] at this; exact newT_inv _ _ l this
  · rw [hsm.seq, hn, hown]; simp [Nd.write]
  · rw [hsm.ls, hn]; exact noteLs_held _ _ (listT_nodup hok)
  · rw [hn]
    have h0 : s0.recs = [] := by rw [e0]; rfl
    have : (s0.write ⟨true, 0, s0.seq⟩).recs.length = 1 := by simp [Nd.write, h0]
    omega
  · rw [hsm.silent]; show 2100 ≤ s0.silent; rw [e0]; show (2100 : UInt64) ≤ 100 + 2000; decide
theorem Nd.new_seq (b : Str) (hb : 0 < b.length) : (Nd.new 1 b 100).seq = growS (maxOwn (readJ b)) := by
  unfold Nd.new
  rw [(Nd.Same.note _).seq]
  show (Nd.booted 1 b 100).seq = _
  unfold Nd.booted
  rw [if_pos hb]
theorem Nd.newO_frames (b : Str) : (Nd.newO 1 b 100).frames = [] := by
  unfold Nd.newO Nd.new
  simp only
  rw [(Nd.Same.note _).frames]
  show (Nd.booted 1 b 100).out.frames = _
  unfold Nd.booted
  split <;> rfl
theorem maxOwn_norm (l : List Rec) : maxOwn (l.map Rec.norm) = maxOwn l := by
  unfold maxOwn
  rw [List.foldl_map]
  rfl
end Go.Proofs.YtapoehkdnglahabGreat

/- mesh.Node: the doors of a node. -/
namespace Go.Proofs.YtapoehkdnglahabGreat
open Go.RowKit
set_option linter.unusedVariables false
set_option linter.unusedSimpArgs false
def mnodI (gm : Nat) (s : Nd) : HProp := hex fun gn : Nat => cel gm 94 [ptr gn 0] * nodI gn s
theorem ent_mnodI {gm : Nat} {s : Nd} {H F : HProp} (gn : Nat) (e : Ent H ((cel gm 94 [ptr gn 0] * nodI gn s) * F)) : Ent H (mnodI gm s * F) := Ent.hexI (p := fun gn : Nat => cel gm 94 [ptr gn 0] * nodI gn s) gn e
theorem Spec.mnod {P : Program} {w0 : World} {f : FuncId} {args : List Value} {gm : Nat} {s : Nd} {X : HProp} {α : Type} {res : α → Value} {post : α → HProp} (h : ∀ gn, Spec P w0 f args ((cel gm 94 [ptr gn 0] * nodI gn s) * X) res post) : Spec P w0 f args (mnodI gm s * X) res post := fun G w hs => by
  have hs1 : Sat w0 w (hex (fun gn : Nat => cel gm 94 [ptr gn 0] * nodI gn s) * (X * G)) := hs.cast (star_assoc _ _ _)
  obtain ⟨x, hs2⟩ := hs1.ex
  exact h x G w (hs2.cast (star_assoc _ _ _).symm)
theorem Spec.mnod0 {P : Program} {w0 : World} {f : FuncId} {args : List Value} {gm : Nat} {s : Nd} {α : Type} {res : α → Value} {post : α → HProp} (h : ∀ gn, Spec P w0 f args (cel gm 94 [ptr gn 0] * nodI gn s) res post) : Spec P w0 f args (mnodI gm s) res post := by
  have := Spec.mnod (X := emp) (gm := gm) (s := s) (P := P) (w0 := w0) (f := f) (args := args) (res := res) (post := post) (fun gn => by rw [star_emp]; exact h gn)
  rwa [star_emp] at this
attribute [local irreducible] WS LS OpQ OpT OpH OpTQ Spec SpecQ cel
variable (w0 : World)
set_option maxRecDepth 100000 in
set_option maxHeartbeats 8000000 in
theorem mnew_spec (self : UInt32) (h0 : self ≠ 0) (b : List UInt8) (hb : b.length ≤ 1000000) (now : UInt64) (v : Value) (X : HProp) [hX : Rdr w0 X v UInt8 1 byteC b] :
    Spec Tryz.prog w0 11 [u32 self, v, u64 now] X (fun x : Nat × (Value × Value × Value) => .tuple #[ptr x.1 0, outA (Nd.newO self b now) x.2, .int .i64 0]) (fun x => mnodI x.1 (Nd.new self b now) * (outR (Nd.newO self b now) x.2 * X)) := by
  have p1 := nnew_spec w0 self b hb now v X
  refine Spec.enter Tryz.func11 rfl Tryz.ntmps11 rfl fun G => ?_
  generalize Nd.new self b now = s at p1 ⊢
  generalize Nd.newO self b now = o at p1 ⊢
  simp only [outA, outR] at p1 ⊢
  simp only [argE]
  repeat' (first
    | (show WS _ _ _ (.region 4 _ true) _ _; first | refine WS_drawK [0, 1, 3, 2, 4, 5, 6] 5 [2] (by decide +kernel) rfl ?_ | refine WS_drawN 7 10 [0, 1, 3, 2, 4, 5, 6] 5 [] (by decide +kernel) rfl rfl rfl iI iI ?_)
    | (refine WS_seqK ?_; intro K hK)
    | (refine hK _ ?_; clear hK K)
    | (with_reducible (first | refine thenS_n ?_ | refine thenS_e ?_ | refine blockS_n ?_ | refine blockS_e ?_ | refine blockS_o rfl ?_ | refine thenS_r ?_ | refine blockS_r ?_ | refine use_K (by assumption) ?_))
    | refine WS_region ?_
    | refine LS_nil ?_
    | (first | refine DL_nilA ?_ | refine DL_nilS ?_ | refine DL_nilN ?_ | refine DL_nilE ?_ | refine DL_nilR ?_)
    | (first | refine DL_claimS rfl ?_ | refine DL_claim rfl rfl ?_)
    | (refine DL_alloc iI rfl ?_; intro g)
    | ((first | refine' LQ ?h rfl ?_ | refine' DL_qp rfl rfl rfl ?h ?_ | refine' DL_q rfl rfl ?h ?_); case h => intro F'; first | exact Q_move rfl | exact Q_assign rfl | exact Q_load rfl iI iI rfl | exact Q_bin_t rfl rfl iI (by first | assumption | omega) | exact Q_bin_f rfl rfl iI (by first | assumption | omega) | exact Q_bin_nt rfl rfl iI (by first | assumption | omega) | exact Q_bin_nf rfl rfl iI (by first | assumption | omega) | exact Q_addI rfl rfl (by omega) | exact Q_subI rfl rfl (by omega) | exact Q_extract rfl rfl | exact Q_loadA rfl iI iI rfl | exact Q_build iI iI rfl rfl | exact Q_buildA iI iI iI rfl rfl | exact Q_loadR rfl iI iI iI (by assumption) rfl | exact Q_loadR rfl iI iI iI rfl rfl | exact Q_loadRA rfl iI iI iI (by assumption) | exact Q_addS rfl rfl (by first | omega | (simp [be_length] <;> omega)) | exact Q_quoI rfl rfl (by omega) | exact Q_remI rfl rfl (by omega) | exact Q_mulI rfl rfl (by omega))
    | ((first | refine LS_binS rfl rfl iI rfl ?_ ?_ | refine LS_binN rfl rfl iI rfl ?_ ?_ | refine DL_binS rfl rfl iI rfl ?_ ?_) <;> intro hc)
    | ((first | refine' LQ ?h rfl ?_ | refine' DL_qp rfl rfl rfl ?h ?_ | refine' DL_q rfl rfl ?h ?_); case h => intro F'; first | exact Q_bin rfl rfl iI)
    | ((first | refine' LS_h ?h rfl ?_ | refine' DL_h ?h rfl rfl rfl ?_); (case h => first | exact H_alloc iI | exact H_box rfl | exact H_boxO rfl iI | exact H_box1 rfl (by first | rfl | assumption)); intro g)
    | ((first | refine' LS_h0 ?h ?_ | refine' DL_h0 ?h rfl rfl ?_); (case h => first | exact H_storeO rfl rfl iI iI iI rfl | exact H_storeAO rfl rfl iI iI iI rfl | exact H_store8 rfl rfl iI iI rfl iI (by first | assumption | omega | (simp [be_length] <;> omega)) | exact H_storeRA _ rfl rfl rfl iI iI iI rfl rfl (by first | assumption | omega | (simp [be_length] <;> omega)) | exact H_storeR _ rfl rfl iI iI iI rfl (by assumption) rfl | exact H_store rfl rfl iI (by first | rfl | assumption) iI rfl | exact H_storeA rfl rfl iI iI (by first | rfl | (simp only [List.all_cons, List.all_nil, *]; rfl)) rfl); intro g)
    | (first | refine WS_block ?_ | refine WS_skip ?_ | refine WS_ret ?_ | refine WS_exit ?_ | refine WS_label ?_)
    | (show WS _ _ _ (.cond _ _ _) _ _; first | refine WS_condT rfl iI ?_ | refine WS_condF rfl iI ?_ | refine WS_condH_t rfl (by assumption) ?_ | refine WS_condH_f rfl (by assumption) ?_ | (refine WS_cond rfl ?_ ?_ <;> intro hc <;> (try simp only [decide_eq_true_eq, decide_eq_false_iff_not, Bool.not_eq_eq_eq_not, Bool.not_true, Bool.not_false, Bool.and_eq_true, Bool.or_eq_true, bne_iff_ne, beq_iff_eq, ne_eq, Decidable.not_not] at hc) <;> (try (exfalso; first | contradiction | omega; done))))
    | (refine LS_h (H_callX iI rfl p1 iI) rfl ?_; intro x))
  exact ret_3 (.inl rfl) rfl (RV_tmp rfl) (RV_cell rfl iI iI rfl) (RV_tmp rfl) ⟨(_, x.2), rfl, by rw [star_assoc (mnodI _ _)]; exact ent_mnodI x.1 (by ((try simp only [star_assoc, emp_star, star_emp]); (repeat' (first | exact Ent.last | refine Ent.take ?_ | refine Ent.nilT ?_ | refine Ent.takeR (by first | rfl | assumption | (simp; done)) ?_ | exact Ent.refl _))))⟩
set_option maxRecDepth 100000 in
set_option maxHeartbeats 8000000 in
theorem mrcvQ_spec (gm : Nat) (s : Nd) (now : UInt64) (from_ : UInt32) (f : Str) (ok : TabOk s.ls) (hr : s.recs.length ≤ 8000) (hq : (s.begin now).Deaf now from_ f) (hf : f.length ≤ 100000) (v : Value) (X : HProp) [hX : Rdr w0 X v UInt8 1 byteC f] :
    Spec Tryz.prog w0 13 [ptr gm 0, u64 now, u32 from_, v] (mnodI gm s * X) (fun x : Value × Value × Value => outA ((s.begin now).rcvQ now from_ f).done.out x) (fun x => mnodI gm ((s.begin now).rcvQ now from_ f).done * (outR ((s.begin now).rcvQ now from_ f).done.out x * X)) := by
  refine Spec.mnod fun gn => ?_
  have p1 := nrcvQ_spec w0 gn s now from_ f ok hr hq hf v X
  refine Spec.enter Tryz.func13 rfl Tryz.ntmps13 rfl fun G => ?_
  generalize ((s.begin now).rcvQ now from_ f).done = s2 at p1 ⊢
  simp only [outA, outR] at p1 ⊢
  simp only [argE]
  repeat' (first
    | (refine WS_seqK ?_; intro K hK)
    | (refine hK _ ?_; clear hK K)
    | (with_reducible (first | refine thenS_n ?_ | refine thenS_e ?_ | refine blockS_n ?_ | refine blockS_e ?_ | refine blockS_o rfl ?_ | refine thenS_r ?_ | refine blockS_r ?_ | refine use_K (by assumption) ?_))
    | refine WS_region ?_
    | refine LS_nil ?_
    | ((refine' LQ ?h rfl ?_); case h => intro F'; first | exact Q_move rfl | exact Q_nilCheck rfl | exact Q_fieldAddr rfl iI rfl | exact Q_load rfl iI iI rfl | exact Q_loadA rfl iI iI rfl | exact Q_fieldR rfl iI iI rfl (by first | assumption | omega | (simp [be_length] <;> omega)) | exact Q_loadR rfl iI iI iI (by assumption) rfl | exact Q_loadR rfl iI iI iI rfl rfl | exact Q_loadRA rfl iI iI iI (by assumption) | exact Q_nilCheck_f rfl)
    | ((refine' LS_h ?h rfl ?_); (case h => first | exact H_alloc iI); intro g)
    | ((refine' LS_h0 ?h ?_); (case h => first | exact H_storeO rfl rfl iI iI iI rfl | exact H_storeAO rfl rfl iI iI iI rfl | exact H_store8 rfl rfl iI iI rfl iI (by first | assumption | omega | (simp [be_length] <;> omega)) | exact H_storeRA _ rfl rfl rfl iI iI iI rfl rfl (by first | assumption | omega | (simp [be_length] <;> omega)) | exact H_storeR _ rfl rfl iI iI iI rfl (by assumption) rfl | exact H_store rfl rfl iI (by first | rfl | assumption) iI rfl | exact H_storeA rfl rfl iI iI (by first | rfl | (simp only [List.all_cons, List.all_nil, *]; rfl)) rfl); intro g)
    | (first | refine WS_block ?_ | refine WS_skip ?_ | refine WS_ret ?_ | refine WS_exit ?_ | refine WS_label ?_)
    | (show WS _ _ _ (.cond _ _ _) _ _; first | refine WS_condT rfl iI ?_ | refine WS_condF rfl iI ?_ | refine WS_condH_t rfl (by assumption) ?_ | refine WS_condH_f rfl (by assumption) ?_ | (refine WS_cond rfl ?_ ?_ <;> intro hc <;> (try simp only [decide_eq_true_eq, decide_eq_false_iff_not, Bool.not_eq_eq_eq_not, Bool.not_true, Bool.not_false, Bool.and_eq_true, Bool.or_eq_true, bne_iff_ne, beq_iff_eq, ne_eq, Decidable.not_not] at hc) <;> (try (exfalso; first | contradiction | omega; done))))
    | (refine LS_h (H_callX iI rfl p1 iI) rfl ?_; intro x))
  exact ret_1 (.inl rfl) rfl (RV_cell rfl iI iI rfl) ⟨x, rfl, by rw [star_assoc (mnodI _ _)]; exact ent_mnodI gn (by ((try simp only [star_assoc, emp_star, star_emp]); (repeat' (first | exact Ent.last | refine Ent.take ?_ | refine Ent.nilT ?_ | refine Ent.takeR (by first | rfl | assumption | (simp; done)) ?_ | exact Ent.refl _))))⟩
set_option maxRecDepth 100000 in
set_option maxHeartbeats 8000000 in
theorem mroutes_spec (gm : Nat) (s : Nd) (ok : TabOk s.ls) :
    Spec Tryz.prog w0 15 [ptr gm 0] (mnodI gm s) (fun x : Value × List LnS => x.1) (fun x => mnodI gm s * (pure' (x.2.map (·.1) = listT s.ls) * (rows 53 7 routeS x.1 x.2 * befs x.2))) := by
  refine Spec.mnod0 fun gn => ?_
  have p1 := nroutes_spec w0 gn s ok
  refine Spec.enter Tryz.func15 rfl Tryz.ntmps15 rfl fun G => ?_
  simp only [argE]
  repeat' (first
    | (refine WS_seqK ?_; intro K hK)
    | (refine hK _ ?_; clear hK K)
    | (with_reducible (first | refine thenS_n ?_ | refine thenS_e ?_ | refine blockS_n ?_ | refine blockS_e ?_ | refine blockS_o rfl ?_ | refine thenS_r ?_ | refine blockS_r ?_ | refine use_K (by assumption) ?_))
    | refine WS_region ?_
    | refine LS_nil ?_
    | ((refine' LQ ?h rfl ?_); case h => intro F'; first | exact Q_move rfl | exact Q_assign rfl | exact Q_nilCheck rfl | exact Q_fieldAddr rfl iI rfl | exact Q_load rfl iI iI rfl | exact Q_loadA rfl iI iI rfl | exact Q_fieldR rfl iI iI rfl (by first | assumption | omega | (simp [be_length] <;> omega)) | exact Q_loadR rfl iI iI iI (by assumption) rfl | exact Q_loadR rfl iI iI iI rfl rfl | exact Q_loadRA rfl iI iI iI (by assumption) | exact Q_nilCheck_f rfl)
    | (first | refine WS_block ?_ | refine WS_skip ?_ | refine WS_ret ?_ | refine WS_exit ?_ | refine WS_label ?_)
    | (show WS _ _ _ (.cond _ _ _) _ _; first | refine WS_condT rfl iI ?_ | refine WS_condF rfl iI ?_ | refine WS_condH_t rfl (by assumption) ?_ | refine WS_condH_f rfl (by assumption) ?_ | (refine WS_cond rfl ?_ ?_ <;> intro hc <;> (try simp only [decide_eq_true_eq, decide_eq_false_iff_not, Bool.not_eq_eq_eq_not, Bool.not_true, Bool.not_false, Bool.and_eq_true, Bool.or_eq_true, bne_iff_ne, beq_iff_eq, ne_eq, Decidable.not_not] at hc) <;> (try (exfalso; first | contradiction | omega; done))))
    | (refine LS_h (H_callX iI rfl p1 iI) rfl ?_; intro x))
  exact ret_tmp (.inl rfl) rfl rfl ⟨x, rfl, by rw [star_assoc (mnodI _ _)]; exact ent_mnodI gn (by ((try simp only [star_assoc, emp_star, star_emp]); (repeat' (first | exact Ent.last | refine Ent.take ?_ | refine Ent.nilT ?_ | refine Ent.takeR (by first | rfl | assumption | (simp; done)) ?_ | exact Ent.refl _))))⟩
set_option maxRecDepth 100000 in
set_option maxHeartbeats 8000000 in
theorem mseq_spec (gm : Nat) (s : Nd) :
    Spec Tryz.prog w0 12 [ptr gm 0] (mnodI gm s) (fun _ : Unit => u32 s.seq) (fun _ => mnodI gm s) := by
  refine Spec.mnod0 fun gn => ?_
  have p1 := nseq_spec w0 gn s
  refine Spec.enter Tryz.func12 rfl Tryz.ntmps12 rfl fun G => ?_
  simp only [argE]
  repeat' (first
    | (refine WS_seqK ?_; intro K hK)
    | (refine hK _ ?_; clear hK K)
    | (with_reducible (first | refine thenS_n ?_ | refine thenS_e ?_ | refine blockS_n ?_ | refine blockS_e ?_ | refine blockS_o rfl ?_ | refine thenS_r ?_ | refine blockS_r ?_ | refine use_K (by assumption) ?_))
    | refine WS_region ?_
    | refine LS_nil ?_
    | ((refine' LQ ?h rfl ?_); case h => intro F'; first | exact Q_move rfl | exact Q_assign rfl | exact Q_nilCheck rfl | exact Q_fieldAddr rfl iI rfl | exact Q_load rfl iI iI rfl | exact Q_loadA rfl iI iI rfl | exact Q_fieldR rfl iI iI rfl (by first | assumption | omega | (simp [be_length] <;> omega)) | exact Q_loadR rfl iI iI iI (by assumption) rfl | exact Q_loadR rfl iI iI iI rfl rfl | exact Q_loadRA rfl iI iI iI (by assumption) | exact Q_nilCheck_f rfl)
    | (first | refine WS_block ?_ | refine WS_skip ?_ | refine WS_ret ?_ | refine WS_exit ?_ | refine WS_label ?_)
    | (show WS _ _ _ (.cond _ _ _) _ _; first | refine WS_condT rfl iI ?_ | refine WS_condF rfl iI ?_ | refine WS_condH_t rfl (by assumption) ?_ | refine WS_condH_f rfl (by assumption) ?_ | (refine WS_cond rfl ?_ ?_ <;> intro hc <;> (try simp only [decide_eq_true_eq, decide_eq_false_iff_not, Bool.not_eq_eq_eq_not, Bool.not_true, Bool.not_false, Bool.and_eq_true, Bool.or_eq_true, bne_iff_ne, beq_iff_eq, ne_eq, Decidable.not_not] at hc) <;> (try (exfalso; first | contradiction | omega; done))))
    | (refine LS_h (H_callX iI rfl p1 iI) rfl ?_; intro x))
  exact ret_tmp (.inl rfl) rfl rfl ⟨(), rfl, by exact ent_mnodI gn (by ((try simp only [star_assoc, emp_star, star_emp]); (repeat' (first | exact Ent.last | refine Ent.take ?_ | refine Ent.nilT ?_ | refine Ent.takeR (by first | rfl | assumption | (simp; done)) ?_ | exact Ent.refl _))))⟩
end Go.Proofs.YtapoehkdnglahabGreat

/- mesh.WriteRecord. -/
namespace Go.Proofs.YtapoehkdnglahabGreat
open Go.RowKit
set_option linter.unusedVariables false
set_option linter.unusedSimpArgs false
attribute [local irreducible] WS LS OpQ OpT OpH OpTQ Spec SpecQ cel
variable (w0 : World)
set_option maxRecDepth 100000 in
theorem mwrite_spec (r : Rec) : Spec Tryz.prog w0 10 [.agg r.cells.toArray] emp (fun v' : Value => v') (fun v' => rows 5 1 byteC v' r.bytes) := by
  have h := wrecord_spec w0 r
  refine Spec.enter Tryz.func10 rfl Tryz.ntmps10 rfl fun G => ?_
  simp only [argE, Rec.cells] at h ⊢
  repeat' (first
    | (refine WS_seqK ?_; intro K hK)
    | (refine hK _ ?_; clear hK K)
    | (with_reducible (first | refine thenS_n ?_ | refine thenS_e ?_ | refine blockS_n ?_ | refine blockS_e ?_ | refine blockS_o rfl ?_ | refine thenS_r ?_ | refine blockS_r ?_ | refine use_K (by assumption) ?_))
    | refine WS_region ?_
    | refine LS_nil ?_
    | ((refine' LQ ?h rfl ?_); case h => intro F'; first | exact Q_assign rfl | exact Q_load rfl iI iI rfl | exact Q_loadA rfl iI iI rfl | exact Q_loadR rfl iI iI iI (by assumption) rfl | exact Q_loadR rfl iI iI iI rfl rfl | exact Q_loadRA rfl iI iI iI (by assumption))
    | ((refine' LS_h ?h rfl ?_); (case h => first | exact H_box rfl | exact H_boxO rfl iI | exact H_box1 rfl (by first | rfl | assumption)); intro g)
    | (first | refine WS_block ?_ | refine WS_skip ?_ | refine WS_ret ?_ | refine WS_exit ?_ | refine WS_label ?_)
    | (show WS _ _ _ (.cond _ _ _) _ _; first | refine WS_condT rfl iI ?_ | refine WS_condF rfl iI ?_ | refine WS_condH_t rfl (by assumption) ?_ | refine WS_condH_f rfl (by assumption) ?_ | (refine WS_cond rfl ?_ ?_ <;> intro hc <;> (try simp only [decide_eq_true_eq, decide_eq_false_iff_not, Bool.not_eq_eq_eq_not, Bool.not_true, Bool.not_false, Bool.and_eq_true, Bool.or_eq_true, bne_iff_ne, beq_iff_eq, ne_eq, Decidable.not_not] at hc) <;> (try (exfalso; first | contradiction | omega; done))))
    | (refine LS_h (H_callX iI rfl h iI) rfl ?_; intro v))
  exact ret_tmp (.inl rfl) rfl rfl ⟨v, rfl, by ((try simp only [star_assoc, emp_star, star_emp]); (repeat' (first | exact Ent.last | refine Ent.take ?_ | refine Ent.nilT ?_ | refine Ent.takeR (by first | rfl | assumption | (simp; done)) ?_ | exact Ent.refl _)))⟩
end Go.Proofs.YtapoehkdnglahabGreat

/- What the law Quietly returns, by a walk. -/
namespace Go.Proofs.YtapoehkdnglahabGreat
open Go.RowKit
set_option linter.unusedVariables false
set_option linter.unusedSimpArgs false
/-- One's own greatest number, as the law finds it. -/
def mostF (l : List Rec) : UInt32 := l.foldl (fun m r => if r.own = true ∧ m < r.seq then r.seq else m) 6
theorem mostF_snoc (l : List Rec) (r : Rec) : mostF (l ++ [r]) = if r.own = true ∧ mostF l < r.seq then r.seq else mostF l := by rw [mostF, mostF, List.foldl_append]; rfl
theorem mostF_max (l : List Rec) : mostF (⟨true, 0, 6⟩ :: l) = maxOwn (⟨true, 0, 6⟩ :: l) := by
  induction l using snocInd with
  | nil => rfl
  | snoc l r ih =>
    rw [← List.cons_append, mostF_snoc, maxOwn_snoc, ih]
    generalize maxOwn _ = m
    cases r.own
    · simp
    · have e : max m r.seq = if m ≤ r.seq then r.seq else m := rfl
      simp only [true_and, if_true, e]
      by_cases h : m < r.seq
      · rw [if_pos h, if_pos (UInt32.le_of_lt h)]
      · rw [if_neg h]
        split
        · rename_i h2; exact UInt32.le_antisymm h2 (UInt32.not_lt.1 h)
        · rfl
theorem growS_more (m : UInt32) (h : m < 4294967295) : ¬ growS m ≤ m := by
  rw [UInt32.lt_iff_toNat_lt] at h
  have h' : m.toNat < 4294967295 := h
  have h1 : (m + 1).toNat = m.toNat + 1 := by rw [UInt32.toNat_add]; show (m.toNat + 1) % 2 ^ 32 = _; omega
  have h2 : m + 1 ≠ 0 := fun e => by rw [e] at h1; simp at h1
  unfold growS
  rw [if_neg h2, UInt32.le_iff_toNat_le, h1]
  omega
theorem lose_fits (d q : UInt32) : (Pk.lose [(d, q)]).Fits := by unfold Pk.Fits; simp [Pk.lose]
theorem lose_dec (d q : UInt32) : Pk.dec (Pk.lose [(d, q)]).out = some (Pk.lose [(d, q)]) := by
  rw [Pk.out_fit (lose_fits d q)]; exact Pk.dec_bytes (lose_fits d q)
theorem now_mod (w : UInt64) : 100 ≤ 100 + w % 2000 ∧ 100 + w % 2000 < 2100 := by
  have h1 : (w % 2000).toNat = w.toNat % 2000 := by simp
  have h2 : (100 + w % 2000).toNat = 100 + w.toNat % 2000 := by rw [UInt64.toNat_add, h1]; show (100 + w.toNat % 2000) % 2 ^ 64 = _; omega
  rw [UInt64.le_iff_toNat_le, UInt64.lt_iff_toNat_lt, h2]
  show 100 ≤ _ ∧ _ < 2100
  omega
instance asU64_100 : AsU64 (.int .u64 100) 100 := ⟨rfl⟩
instance asU32_2 : AsU32 (.int .u32 2) 2 := ⟨rfl⟩
attribute [local irreducible] WS LS OpQ OpT OpH OpTQ Spec SpecQ cel
variable (w0 : World)
set_option maxRecDepth 100000 in
set_option maxHeartbeats 4000000 in
theorem quietly_big (l : List Rec) (fs : List Str) (wait : UInt64) (v1 v2 : Value) (X : HProp) [hX1 : Rdr w0 X v1 Rec 3 Rec.cells l] [hX2 : Rdr w0 X v2 Str 1 strCc fs] (h : 200 < l.length ∨ 4096 < fs.length) : Spec Tryz.prog w0 3 [v1, v2, u64 wait] X (fun _ : Unit => .bool true) (fun _ => X) := by
  refine Spec.enter Tryz.func3 rfl Tryz.ntmps3 rfl fun G => ?_
  simp only [argE]
  by_cases h1 : 200 < l.length
  · repeat' (first
      | (refine WS_seqK ?_; intro K hK)
      | (refine hK _ ?_; clear hK K)
      | (with_reducible (first | refine thenS_n ?_ | refine thenS_e ?_ | refine blockS_n ?_ | refine blockS_e ?_ | refine blockS_o rfl ?_ | refine thenS_r ?_ | refine blockS_r ?_ | refine use_K (by assumption) ?_))
      | refine WS_region ?_
      | refine LS_nil ?_
      | (show LS _ _ _ _ _ (⟨_, _, _, _, _, some _⟩ :: _) _; first | refine LS_wantT rfl rfl iI rfl ?_ | refine LS_wantF rfl rfl iI rfl ?_ | refine LS_wantU rfl rfl rfl ?_ | ((first | refine LS_wantS rfl rfl rfl ?_ ?_ | refine LS_wantN rfl ?_ ?_) <;> intro hc <;> (try simp only [decide_eq_true_eq, decide_eq_false_iff_not, Bool.not_eq_eq_eq_not, Bool.not_true, Bool.not_false, Bool.and_eq_true, Bool.or_eq_true, bne_iff_ne, beq_iff_eq, ne_eq, Decidable.not_not] at hc) <;> (try (exfalso; first | contradiction | omega; done))))
      | ((refine' LQ ?h rfl ?_); case h => intro F'; first | exact Q_move rfl | exact Q_assign rfl | exact Q_fieldAddr rfl iI rfl | exact Q_load rfl iI iI rfl | exact Q_bin_t rfl rfl iI (by first | assumption | omega | decide) | exact Q_bin_f rfl rfl iI (by first | assumption | omega | decide) | exact Q_bin_nt rfl rfl iI (by first | assumption | omega | decide) | exact Q_bin_nf rfl rfl iI (by first | assumption | omega | decide) | exact Q_bin rfl rfl iI | exact Q_addI rfl rfl (by omega) | exact Q_subI rfl rfl (by omega) | exact Q_extract rfl rfl | exact Q_pick_t rfl iI rfl | exact Q_pick_f rfl iI rfl | exact Q_pick rfl rfl rfl | exact Q_un rfl iI | exact Q_loadA rfl iI iI rfl | exact Q_build iI iI rfl rfl | exact Q_buildA iI iI iI rfl rfl | exact Q_len rfl iI | exact Q_lenS rfl iI | exact Q_index rfl rfl iI iI iI iI (by first | assumption | omega | (simp [be_length] <;> omega)) | exact Q_fieldR rfl iI iI rfl (by first | assumption | omega | (simp [be_length] <;> omega)) | exact Q_loadR rfl iI iI iI (by assumption) rfl | exact Q_loadR rfl iI iI iI rfl rfl | exact Q_loadRA rfl iI iI iI (by assumption) | exact Q_lenR rfl iI iI | exact Q_lenM rfl iI iI | exact Q_conv32_8 rfl iI iI iI | exact Q_conv64 rfl iI iI iI | exact Q_conv32 rfl iI iI iI | exact Q_convS rfl iI rfl iI iI iI | exact Q_convSame rfl iI iI (by omega) | exact Q_convI8 rfl iI iI | exact Q_conv328 rfl iI iI | exact Q_conv8 rfl iI iI | exact Q_bytesS rfl iI iI rfl iI iI iI | exact Q_addS rfl rfl (by first | omega | (simp [be_length] <;> omega)) | exact Q_indexV rfl rfl iI iI iI (by first | assumption | omega) | exact Q_quoI rfl rfl (by omega) | exact Q_remI rfl rfl (by omega) | exact Q_negI rfl (by omega) | exact Q_mulI rfl rfl (by omega))
      | ((refine' LS_h ?h rfl ?_); (case h => first | exact H_alloc iI | exact H_buildB iI iI iI rfl rfl rfl rfl rfl iI rfl rfl | exact H_buildSlice iI iI iI rfl rfl rfl rfl rfl | exact H_buildSlice0 iI iI | exact H_appendD rfl rfl iI iI rfl iI iI byteC_one (by first | omega | (simp [be_length] <;> omega)) rfl | exact H_appendB rfl rfl iI iI iI rfl rfl iI (by first | omega | (simp [be_length] <;> omega)) rfl | exact H_appendS rfl rfl iI rfl iI iI (by first | omega | (simp [be_length] <;> omega)) rfl | exact H_convS rfl iI rfl iI iI iI); intro g)
      | ((refine' LS_h0 ?h ?_); (case h => first | exact H_storeO rfl rfl iI iI iI rfl | exact H_storeAO rfl rfl iI iI iI rfl | exact H_store8 rfl rfl iI iI rfl iI (by first | assumption | omega | (simp [be_length] <;> omega)) | exact H_storeRA _ rfl rfl rfl iI iI iI rfl rfl (by first | assumption | omega | (simp [be_length] <;> omega)) | exact H_storeR _ rfl rfl iI iI iI rfl (by assumption) rfl | exact H_store rfl rfl iI (by first | rfl | assumption) iI rfl | exact H_storeA rfl rfl iI iI (by first | rfl | (simp only [List.all_cons, List.all_nil, *]; rfl)) rfl); intro g)
      | (first | refine WS_block ?_ | refine WS_skip ?_ | refine WS_ret ?_ | refine WS_exit ?_ | refine WS_label ?_)
      | (show WS _ _ _ (.cond _ _ _) _ _; first | refine WS_condT rfl iI ?_ | refine WS_condF rfl iI ?_ | refine WS_condH_t rfl (by assumption) ?_ | refine WS_condH_f rfl (by assumption) ?_ | (refine WS_cond rfl ?_ ?_ <;> intro hc <;> (try simp only [decide_eq_true_eq, decide_eq_false_iff_not, Bool.not_eq_eq_eq_not, Bool.not_true, Bool.not_false, Bool.and_eq_true, Bool.or_eq_true, bne_iff_ne, beq_iff_eq, ne_eq, Decidable.not_not] at hc) <;> (try (exfalso; first | contradiction | omega; done)))))
    exact ret_tmp (.inl rfl) rfl rfl ⟨(), rfl, by ((try simp only [star_assoc, emp_star, star_emp]); (repeat' (first | exact Ent.last | refine Ent.take ?_ | refine Ent.nilT ?_ | refine Ent.takeR (by first | rfl | assumption | (simp; done)) ?_ | exact Ent.refl _)))⟩
  · have h2 : 4096 < fs.length := by omega
    repeat' (first
      | (refine WS_seqK ?_; intro K hK)
      | (refine hK _ ?_; clear hK K)
      | (with_reducible (first | refine thenS_n ?_ | refine thenS_e ?_ | refine blockS_n ?_ | refine blockS_e ?_ | refine blockS_o rfl ?_ | refine thenS_r ?_ | refine blockS_r ?_ | refine use_K (by assumption) ?_))
      | refine WS_region ?_
      | refine LS_nil ?_
      | (show LS _ _ _ _ _ (⟨_, _, _, _, _, some _⟩ :: _) _; first | refine LS_wantT rfl rfl iI rfl ?_ | refine LS_wantF rfl rfl iI rfl ?_ | refine LS_wantU rfl rfl rfl ?_ | ((first | refine LS_wantS rfl rfl rfl ?_ ?_ | refine LS_wantN rfl ?_ ?_) <;> intro hc <;> (try simp only [decide_eq_true_eq, decide_eq_false_iff_not, Bool.not_eq_eq_eq_not, Bool.not_true, Bool.not_false, Bool.and_eq_true, Bool.or_eq_true, bne_iff_ne, beq_iff_eq, ne_eq, Decidable.not_not] at hc) <;> (try (exfalso; first | contradiction | omega; done))))
      | ((refine' LQ ?h rfl ?_); case h => intro F'; first | exact Q_move rfl | exact Q_assign rfl | exact Q_fieldAddr rfl iI rfl | exact Q_load rfl iI iI rfl | exact Q_bin_t rfl rfl iI (by first | assumption | omega | decide) | exact Q_bin_f rfl rfl iI (by first | assumption | omega | decide) | exact Q_bin_nt rfl rfl iI (by first | assumption | omega | decide) | exact Q_bin_nf rfl rfl iI (by first | assumption | omega | decide) | exact Q_bin rfl rfl iI | exact Q_addI rfl rfl (by omega) | exact Q_subI rfl rfl (by omega) | exact Q_extract rfl rfl | exact Q_pick_t rfl iI rfl | exact Q_pick_f rfl iI rfl | exact Q_pick rfl rfl rfl | exact Q_un rfl iI | exact Q_loadA rfl iI iI rfl | exact Q_build iI iI rfl rfl | exact Q_buildA iI iI iI rfl rfl | exact Q_len rfl iI | exact Q_lenS rfl iI | exact Q_index rfl rfl iI iI iI iI (by first | assumption | omega | (simp [be_length] <;> omega)) | exact Q_fieldR rfl iI iI rfl (by first | assumption | omega | (simp [be_length] <;> omega)) | exact Q_loadR rfl iI iI iI (by assumption) rfl | exact Q_loadR rfl iI iI iI rfl rfl | exact Q_loadRA rfl iI iI iI (by assumption) | exact Q_lenR rfl iI iI | exact Q_lenM rfl iI iI | exact Q_conv32_8 rfl iI iI iI | exact Q_conv64 rfl iI iI iI | exact Q_conv32 rfl iI iI iI | exact Q_convS rfl iI rfl iI iI iI | exact Q_convSame rfl iI iI (by omega) | exact Q_convI8 rfl iI iI | exact Q_conv328 rfl iI iI | exact Q_conv8 rfl iI iI | exact Q_bytesS rfl iI iI rfl iI iI iI | exact Q_addS rfl rfl (by first | omega | (simp [be_length] <;> omega)) | exact Q_indexV rfl rfl iI iI iI (by first | assumption | omega) | exact Q_quoI rfl rfl (by omega) | exact Q_remI rfl rfl (by omega) | exact Q_negI rfl (by omega) | exact Q_mulI rfl rfl (by omega))
      | ((refine' LS_h ?h rfl ?_); (case h => first | exact H_alloc iI | exact H_buildB iI iI iI rfl rfl rfl rfl rfl iI rfl rfl | exact H_buildSlice iI iI iI rfl rfl rfl rfl rfl | exact H_buildSlice0 iI iI | exact H_appendD rfl rfl iI iI rfl iI iI byteC_one (by first | omega | (simp [be_length] <;> omega)) rfl | exact H_appendB rfl rfl iI iI iI rfl rfl iI (by first | omega | (simp [be_length] <;> omega)) rfl | exact H_appendS rfl rfl iI rfl iI iI (by first | omega | (simp [be_length] <;> omega)) rfl | exact H_convS rfl iI rfl iI iI iI); intro g)
      | ((refine' LS_h0 ?h ?_); (case h => first | exact H_storeO rfl rfl iI iI iI rfl | exact H_storeAO rfl rfl iI iI iI rfl | exact H_store8 rfl rfl iI iI rfl iI (by first | assumption | omega | (simp [be_length] <;> omega)) | exact H_storeRA _ rfl rfl rfl iI iI iI rfl rfl (by first | assumption | omega | (simp [be_length] <;> omega)) | exact H_storeR _ rfl rfl iI iI iI rfl (by assumption) rfl | exact H_store rfl rfl iI (by first | rfl | assumption) iI rfl | exact H_storeA rfl rfl iI iI (by first | rfl | (simp only [List.all_cons, List.all_nil, *]; rfl)) rfl); intro g)
      | (first | refine WS_block ?_ | refine WS_skip ?_ | refine WS_ret ?_ | refine WS_exit ?_ | refine WS_label ?_)
      | (show WS _ _ _ (.cond _ _ _) _ _; first | refine WS_condT rfl iI ?_ | refine WS_condF rfl iI ?_ | refine WS_condH_t rfl (by assumption) ?_ | refine WS_condH_f rfl (by assumption) ?_ | (refine WS_cond rfl ?_ ?_ <;> intro hc <;> (try simp only [decide_eq_true_eq, decide_eq_false_iff_not, Bool.not_eq_eq_eq_not, Bool.not_true, Bool.not_false, Bool.and_eq_true, Bool.or_eq_true, bne_iff_ne, beq_iff_eq, ne_eq, Decidable.not_not] at hc) <;> (try (exfalso; first | contradiction | omega; done)))))
    exact ret_tmp (.inl rfl) rfl rfl ⟨(), rfl, by ((try simp only [star_assoc, emp_star, star_emp]); (repeat' (first | exact Ent.last | refine Ent.take ?_ | refine Ent.nilT ?_ | refine Ent.takeR (by first | rfl | assumption | (simp; done)) ?_ | exact Ent.refl _)))⟩
set_option maxRecDepth 100000 in
set_option maxHeartbeats 16000000 in
theorem quietly_walk (l : List Rec) (fs : List Str) (hl : l.length ≤ 200) (hfs : fs.length ≤ 4096) (wait : UInt64) (v1 v2 : Value) (X : HProp) [hX1 : Rdr w0 X v1 Rec 3 Rec.cells l] [hX2 : Rdr w0 X v2 Str 1 strCc fs] : Spec Tryz.prog w0 3 [v1, v2, u64 wait] X (fun _ : Unit => .bool true) (fun _ => X) := by
  refine Spec.enter Tryz.func3 rfl Tryz.ntmps3 rfl fun G => ?_
  simp only [argE]
  refine WS_ent (Ent.nil _ 5 1 byteC none) ?_
  repeat' (first
    | (refine WS_seqK ?_; intro K hK)
    | (refine hK _ ?_; clear hK K)
    | (with_reducible (first | refine thenS_n ?_ | refine thenS_e ?_ | refine blockS_n ?_ | refine blockS_e ?_ | refine blockS_o rfl ?_ | refine thenS_r ?_ | refine blockS_r ?_ | refine use_K (by assumption) ?_))
    | refine WS_region ?_
    | refine LS_nil ?_
    | (show LS _ _ _ _ _ (⟨_, _, _, _, _, some _⟩ :: _) _; first | refine LS_wantT rfl rfl iI rfl ?_ | refine LS_wantF rfl rfl iI rfl ?_ | refine LS_wantU rfl rfl rfl ?_ | ((first | refine LS_wantS rfl rfl rfl ?_ ?_ | refine LS_wantN rfl ?_ ?_) <;> intro hc <;> (try simp only [decide_eq_true_eq, decide_eq_false_iff_not, Bool.not_eq_eq_eq_not, Bool.not_true, Bool.not_false, Bool.and_eq_true, Bool.or_eq_true, bne_iff_ne, beq_iff_eq, ne_eq, Decidable.not_not] at hc) <;> (try (exfalso; first | contradiction | omega; done))))
    | ((refine' LQ ?h rfl ?_); case h => intro F'; first | exact Q_move rfl | exact Q_assign rfl | exact Q_fieldAddr rfl iI rfl | exact Q_load rfl iI iI rfl | exact Q_bin_t rfl rfl iI (by first | assumption | omega | decide) | exact Q_bin_f rfl rfl iI (by first | assumption | omega | decide) | exact Q_bin_nt rfl rfl iI (by first | assumption | omega | decide) | exact Q_bin_nf rfl rfl iI (by first | assumption | omega | decide) | exact Q_addI rfl rfl (by omega) | exact Q_subI rfl rfl (by omega) | exact Q_extract rfl rfl | exact Q_pick_t rfl iI rfl | exact Q_pick_f rfl iI rfl | exact Q_pick rfl rfl rfl | exact Q_un rfl iI | exact Q_loadA rfl iI iI rfl | exact Q_build iI iI rfl rfl | exact Q_buildA iI iI iI rfl rfl | exact Q_len rfl iI | exact Q_lenS rfl iI | exact Q_index rfl rfl iI iI iI iI (by first | assumption | omega | (simp [be_length] <;> omega)) | exact Q_fieldR rfl iI iI rfl (by first | assumption | omega | (simp [be_length] <;> omega)) | exact Q_loadR rfl iI iI iI (by assumption) rfl | exact Q_loadR rfl iI iI iI rfl rfl | exact Q_loadRA rfl iI iI iI (by assumption) | exact Q_lenR rfl iI iI | exact Q_lenM rfl iI iI | exact Q_conv32_8 rfl iI iI iI | exact Q_conv64 rfl iI iI iI | exact Q_conv32 rfl iI iI iI | exact Q_convS rfl iI rfl iI iI iI | exact Q_convSame rfl iI iI (by omega) | exact Q_convI8 rfl iI iI | exact Q_conv328 rfl iI iI | exact Q_conv8 rfl iI iI | exact Q_bytesS rfl iI iI rfl iI iI iI | exact Q_addS rfl rfl (by first | omega | (simp [be_length] <;> omega)) | exact Q_indexV rfl rfl iI iI iI (by first | assumption | omega) | exact Q_quoI rfl rfl (by omega) | exact Q_remI rfl rfl (by omega) | exact Q_negI rfl (by omega) | exact Q_mulI rfl rfl (by omega))
    | ((first | refine LS_binS rfl rfl iI rfl ?_ ?_ | refine LS_binN rfl rfl iI rfl ?_ ?_) <;> intro hc)
    | ((refine' LQ ?h rfl ?_); case h => intro F'; first | exact Q_bin rfl rfl iI)
    | ((refine' LS_h ?h rfl ?_); (case h => first | exact H_alloc iI | exact H_buildB iI iI iI rfl rfl rfl rfl rfl iI rfl rfl | exact H_buildSlice0 iI iI | exact H_appendD rfl rfl iI iI rfl iI iI byteC_one (by first | omega | (simp [be_length] <;> omega)) rfl | exact H_appendB rfl rfl iI iI iI rfl rfl iI (by first | omega | (simp [be_length] <;> omega)) rfl | exact H_appendS rfl rfl iI rfl iI iI (by first | omega | (simp [be_length] <;> omega)) rfl | exact H_convS rfl iI rfl iI iI iI); intro g)
    | ((refine' LS_h0 ?h ?_); (case h => first | exact H_storeO rfl rfl iI iI iI rfl | exact H_storeAO rfl rfl iI iI iI rfl | exact H_store8 rfl rfl iI iI rfl iI (by first | assumption | omega | (simp [be_length] <;> omega)) | exact H_storeRA _ rfl rfl rfl iI iI iI rfl rfl (by first | assumption | omega | (simp [be_length] <;> omega)) | exact H_storeR _ rfl rfl iI iI iI rfl (by assumption) rfl | exact H_store rfl rfl iI (by first | rfl | assumption) iI rfl | exact H_storeA rfl rfl iI iI (by first | rfl | (simp only [List.all_cons, List.all_nil, *]; rfl)) rfl); intro g)
    | (first | refine WS_block ?_ | refine WS_skip ?_ | refine WS_ret ?_ | refine WS_exit ?_ | refine WS_label ?_)
    | (show WS _ _ _ (.cond _ _ _) _ _; first | refine WS_condT rfl iI ?_ | refine WS_condF rfl iI ?_ | refine WS_condH_t rfl (by assumption) ?_ | refine WS_condH_f rfl (by assumption) ?_ | (refine WS_cond rfl ?_ ?_ <;> intro hc <;> (try simp only [decide_eq_true_eq, decide_eq_false_iff_not, Bool.not_eq_eq_eq_not, Bool.not_true, Bool.not_false, Bool.and_eq_true, Bool.or_eq_true, bne_iff_ne, beq_iff_eq, ne_eq, Decidable.not_not] at hc) <;> (try (exfalso; first | contradiction | omega; done))))
    | (refine LS_h (H_buildSliceR Rec.cells [⟨true, 0, 6⟩] iI iI iI rfl rfl rfl rfl rfl iI rfl rfl rfl) rfl ?_; intro v0)
    | (refine LS_h (H_appendO X rfl rfl iI hX1 iI rfl iI iI recC_one (by first | omega | (simp [be_length] <;> omega)) rfl) rfl ?_; intro va))
  obtain ⟨L, hL⟩ : ∃ L : List Rec, L = [⟨true, 0, 6⟩] ++ l := ⟨_, rfl⟩
  rw [← hL]
  have hLl : L.length ≤ 201 := by rw [hL]; simp; omega
  have hL0 : 0 < L.length := by rw [hL]; simp
  have hLm : mostF L = maxOwn L := by rw [hL]; exact mostF_max l
  clear hL
  refine WS_loop (fun k τ => ∃ (j : Nat) (vb : Value), j + k = L.length ∧ τ = ⟨[(9, .int .i64 (j : Int)), (8, u32 (mostF (L.take j))), (7, vb), (0, va), (0 + 1, v2), (0 + 1 + 1, u64 wait)], [], rows 5 1 byteC vb (recBytes (L.take j)) * (rows 28 3 Rec.cells va L * (X * G))⟩) ?_ ?_
  · exact ⟨L.length, _, ⟨0, _, by omega, rfl⟩, ⟨rfl, rfl, rfl, rfl, rfl, rfl, trivial⟩, rfl, by simp only [List.take_zero]; ((try simp only [star_assoc, emp_star, star_emp]); (repeat' (first | exact Ent.last | refine Ent.take ?_ | refine Ent.nilT ?_ | refine Ent.takeR (by first | rfl | assumption | (simp; done)) ?_ | exact Ent.refl _)))⟩
  · rintro k τ ⟨j, vb, hjk, rfl⟩
    rcases Nat.lt_or_ge j L.length with hlt | hge
    · obtain ⟨⟨zo, za, zs⟩, hz⟩ : ∃ z, L[j]? = some z := ⟨_, List.getElem?_eq_getElem hlt⟩
      have htk : mostF (L.take (j + 1)) = if zo = true ∧ mostF (L.take j) < zs then zs else mostF (L.take j) := by rw [List.take_add_one, hz, Option.toList_some, mostF_snoc]
      have htb := recBytes_take_succ L j _ hz
      have hbl : (recBytes (L.take j)).length ≤ 3000 := by rw [recBytes_length, List.length_take]; omega
      have hw := mwrite_spec w0 ⟨zo, za, zs⟩
      have hrl := Rec.bytes_length ⟨zo, za, zs⟩
      simp only [Rec.cells] at hw
      generalize mostF (L.take j) = m at *
      generalize recBytes (L.take j) = B at *
      generalize Rec.bytes ⟨zo, za, zs⟩ = C at *
      cases zo
      · repeat' (first
          | (refine WS_seqK ?_; intro K hK)
          | (refine hK _ ?_; clear hK K)
          | (with_reducible (first | refine thenS_n ?_ | refine thenS_e ?_ | refine blockS_n ?_ | refine blockS_e ?_ | refine blockS_o rfl ?_ | refine thenS_r ?_ | refine blockS_r ?_ | refine use_K (by assumption) ?_))
          | refine WS_region ?_
          | refine LS_nil ?_
          | (show LS _ _ _ _ _ (⟨_, _, _, _, _, some _⟩ :: _) _; first | refine LS_wantT rfl rfl iI rfl ?_ | refine LS_wantF rfl rfl iI rfl ?_ | refine LS_wantU rfl rfl rfl ?_ | ((first | refine LS_wantS rfl rfl rfl ?_ ?_ | refine LS_wantN rfl ?_ ?_) <;> intro hc <;> (try simp only [decide_eq_true_eq, decide_eq_false_iff_not, Bool.not_eq_eq_eq_not, Bool.not_true, Bool.not_false, Bool.and_eq_true, Bool.or_eq_true, bne_iff_ne, beq_iff_eq, ne_eq, Decidable.not_not] at hc) <;> (try (exfalso; first | contradiction | omega; done))))
          | ((refine' LQ ?h rfl ?_); case h => intro F'; first | exact Q_move rfl | exact Q_assign rfl | exact Q_fieldAddr rfl iI rfl | exact Q_load rfl iI iI rfl | exact Q_bin_t rfl rfl iI (by first | assumption | omega | decide) | exact Q_bin_f rfl rfl iI (by first | assumption | omega | decide) | exact Q_bin_nt rfl rfl iI (by first | assumption | omega | decide) | exact Q_bin_nf rfl rfl iI (by first | assumption | omega | decide) | exact Q_addI rfl rfl (by omega) | exact Q_subI rfl rfl (by omega) | exact Q_extract rfl rfl | exact Q_pick_t rfl iI rfl | exact Q_pick_f rfl iI rfl | exact Q_pick rfl rfl rfl | exact Q_un rfl iI | exact Q_loadA rfl iI iI rfl | exact Q_build iI iI rfl rfl | exact Q_buildA iI iI iI rfl rfl | exact Q_len rfl iI | exact Q_lenS rfl iI | exact Q_index rfl rfl iI iI iI iI (by first | assumption | omega | (simp [be_length] <;> omega)) | exact Q_fieldR rfl iI iI rfl (by first | assumption | omega | (simp [be_length] <;> omega)) | exact Q_loadR rfl iI iI iI (by assumption) rfl | exact Q_loadR rfl iI iI iI rfl rfl | exact Q_loadRA rfl iI iI iI (by assumption) | exact Q_lenR rfl iI iI | exact Q_lenM rfl iI iI | exact Q_conv32_8 rfl iI iI iI | exact Q_conv64 rfl iI iI iI | exact Q_conv32 rfl iI iI iI | exact Q_convS rfl iI rfl iI iI iI | exact Q_convSame rfl iI iI (by omega) | exact Q_convI8 rfl iI iI | exact Q_conv328 rfl iI iI | exact Q_conv8 rfl iI iI | exact Q_bytesS rfl iI iI rfl iI iI iI | exact Q_addS rfl rfl (by first | omega | (simp [be_length] <;> omega)) | exact Q_indexV rfl rfl iI iI iI (by first | assumption | omega) | exact Q_quoI rfl rfl (by omega) | exact Q_remI rfl rfl (by omega) | exact Q_negI rfl (by omega) | exact Q_mulI rfl rfl (by omega))
          | ((first | refine LS_binS rfl rfl iI rfl ?_ ?_ | refine LS_binN rfl rfl iI rfl ?_ ?_) <;> intro hc)
          | ((refine' LQ ?h rfl ?_); case h => intro F'; first | exact Q_bin rfl rfl iI)
          | ((refine' LS_h ?h rfl ?_); (case h => first | exact H_alloc iI | exact H_buildB iI iI iI rfl rfl rfl rfl rfl iI rfl rfl | exact H_buildSlice iI iI iI rfl rfl rfl rfl rfl | exact H_buildSlice0 iI iI | exact H_appendD rfl rfl iI iI rfl iI iI byteC_one (by first | omega | (simp [be_length] <;> omega)) rfl | exact H_appendB rfl rfl iI iI iI rfl rfl iI (by first | omega | (simp [be_length] <;> omega)) rfl | exact H_appendS rfl rfl iI rfl iI iI (by first | omega | (simp [be_length] <;> omega)) rfl | exact H_convS rfl iI rfl iI iI iI); intro g)
          | ((refine' LS_h0 ?h ?_); (case h => first | exact H_storeO rfl rfl iI iI iI rfl | exact H_storeAO rfl rfl iI iI iI rfl | exact H_store8 rfl rfl iI iI rfl iI (by first | assumption | omega | (simp [be_length] <;> omega)) | exact H_storeRA _ rfl rfl rfl iI iI iI rfl rfl (by first | assumption | omega | (simp [be_length] <;> omega)) | exact H_storeR _ rfl rfl iI iI iI rfl (by assumption) rfl | exact H_store rfl rfl iI (by first | rfl | assumption) iI rfl | exact H_storeA rfl rfl iI iI (by first | rfl | (simp only [List.all_cons, List.all_nil, *]; rfl)) rfl); intro g)
          | (first | refine WS_block ?_ | refine WS_skip ?_ | refine WS_ret ?_ | refine WS_exit ?_ | refine WS_label ?_)
          | (show WS _ _ _ (.cond _ _ _) _ _; first | refine WS_condT rfl iI ?_ | refine WS_condF rfl iI ?_ | refine WS_condH_t rfl (by assumption) ?_ | refine WS_condH_f rfl (by assumption) ?_ | (refine WS_cond rfl ?_ ?_ <;> intro hc <;> (try simp only [decide_eq_true_eq, decide_eq_false_iff_not, Bool.not_eq_eq_eq_not, Bool.not_true, Bool.not_false, Bool.and_eq_true, Bool.or_eq_true, bne_iff_ne, beq_iff_eq, ne_eq, Decidable.not_not] at hc) <;> (try (exfalso; first | contradiction | omega; done))))
          | (refine LS_h (H_callX iI rfl hw iI) rfl ?_; intro vw))
        rw [if_neg (by simp)] at htk
        exact ⟨k - 1, _, by omega, ⟨j + 1, g, by omega, rfl⟩, ⟨rfl, by rw [htk]; rfl, rfl, rfl, rfl, rfl, trivial⟩, rfl, by rw [htb]; ((try simp only [star_assoc, emp_star, star_emp]); (repeat' (first | exact Ent.last | refine Ent.take ?_ | refine Ent.nilT ?_ | refine Ent.takeR (by first | rfl | assumption | (simp; done)) ?_ | exact Ent.refl _)))⟩
      · by_cases hm : m < zs
        · repeat' (first
            | (refine WS_seqK ?_; intro K hK)
            | (refine hK _ ?_; clear hK K)
            | (with_reducible (first | refine thenS_n ?_ | refine thenS_e ?_ | refine blockS_n ?_ | refine blockS_e ?_ | refine blockS_o rfl ?_ | refine thenS_r ?_ | refine blockS_r ?_ | refine use_K (by assumption) ?_))
            | refine WS_region ?_
            | refine LS_nil ?_
            | (show LS _ _ _ _ _ (⟨_, _, _, _, _, some _⟩ :: _) _; first | refine LS_wantT rfl rfl iI rfl ?_ | refine LS_wantF rfl rfl iI rfl ?_ | refine LS_wantU rfl rfl rfl ?_ | ((first | refine LS_wantS rfl rfl rfl ?_ ?_ | refine LS_wantN rfl ?_ ?_) <;> intro hc <;> (try simp only [decide_eq_true_eq, decide_eq_false_iff_not, Bool.not_eq_eq_eq_not, Bool.not_true, Bool.not_false, Bool.and_eq_true, Bool.or_eq_true, bne_iff_ne, beq_iff_eq, ne_eq, Decidable.not_not] at hc) <;> (try (exfalso; first | contradiction | omega; done))))
            | ((refine' LQ ?h rfl ?_); case h => intro F'; first | exact Q_move rfl | exact Q_assign rfl | exact Q_fieldAddr rfl iI rfl | exact Q_load rfl iI iI rfl | exact Q_bin_t rfl rfl iI (by first | assumption | omega | decide) | exact Q_bin_f rfl rfl iI (by first | assumption | omega | decide) | exact Q_bin_nt rfl rfl iI (by first | assumption | omega | decide) | exact Q_bin_nf rfl rfl iI (by first | assumption | omega | decide) | exact Q_addI rfl rfl (by omega) | exact Q_subI rfl rfl (by omega) | exact Q_extract rfl rfl | exact Q_pick_t rfl iI rfl | exact Q_pick_f rfl iI rfl | exact Q_pick rfl rfl rfl | exact Q_un rfl iI | exact Q_loadA rfl iI iI rfl | exact Q_build iI iI rfl rfl | exact Q_buildA iI iI iI rfl rfl | exact Q_len rfl iI | exact Q_lenS rfl iI | exact Q_index rfl rfl iI iI iI iI (by first | assumption | omega | (simp [be_length] <;> omega)) | exact Q_fieldR rfl iI iI rfl (by first | assumption | omega | (simp [be_length] <;> omega)) | exact Q_loadR rfl iI iI iI (by assumption) rfl | exact Q_loadR rfl iI iI iI rfl rfl | exact Q_loadRA rfl iI iI iI (by assumption) | exact Q_lenR rfl iI iI | exact Q_lenM rfl iI iI | exact Q_conv32_8 rfl iI iI iI | exact Q_conv64 rfl iI iI iI | exact Q_conv32 rfl iI iI iI | exact Q_convS rfl iI rfl iI iI iI | exact Q_convSame rfl iI iI (by omega) | exact Q_convI8 rfl iI iI | exact Q_conv328 rfl iI iI | exact Q_conv8 rfl iI iI | exact Q_bytesS rfl iI iI rfl iI iI iI | exact Q_addS rfl rfl (by first | omega | (simp [be_length] <;> omega)) | exact Q_indexV rfl rfl iI iI iI (by first | assumption | omega) | exact Q_quoI rfl rfl (by omega) | exact Q_remI rfl rfl (by omega) | exact Q_negI rfl (by omega) | exact Q_mulI rfl rfl (by omega))
            | ((first | refine LS_binS rfl rfl iI rfl ?_ ?_ | refine LS_binN rfl rfl iI rfl ?_ ?_) <;> intro hc)
            | ((refine' LQ ?h rfl ?_); case h => intro F'; first | exact Q_bin rfl rfl iI)
            | ((refine' LS_h ?h rfl ?_); (case h => first | exact H_alloc iI | exact H_buildB iI iI iI rfl rfl rfl rfl rfl iI rfl rfl | exact H_buildSlice iI iI iI rfl rfl rfl rfl rfl | exact H_buildSlice0 iI iI | exact H_appendD rfl rfl iI iI rfl iI iI byteC_one (by first | omega | (simp [be_length] <;> omega)) rfl | exact H_appendB rfl rfl iI iI iI rfl rfl iI (by first | omega | (simp [be_length] <;> omega)) rfl | exact H_appendS rfl rfl iI rfl iI iI (by first | omega | (simp [be_length] <;> omega)) rfl | exact H_convS rfl iI rfl iI iI iI); intro g)
            | ((refine' LS_h0 ?h ?_); (case h => first | exact H_storeO rfl rfl iI iI iI rfl | exact H_storeAO rfl rfl iI iI iI rfl | exact H_store8 rfl rfl iI iI rfl iI (by first | assumption | omega | (simp [be_length] <;> omega)) | exact H_storeRA _ rfl rfl rfl iI iI iI rfl rfl (by first | assumption | omega | (simp [be_length] <;> omega)) | exact H_storeR _ rfl rfl iI iI iI rfl (by assumption) rfl | exact H_store rfl rfl iI (by first | rfl | assumption) iI rfl | exact H_storeA rfl rfl iI iI (by first | rfl | (simp only [List.all_cons, List.all_nil, *]; rfl)) rfl); intro g)
            | (first | refine WS_block ?_ | refine WS_skip ?_ | refine WS_ret ?_ | refine WS_exit ?_ | refine WS_label ?_)
            | (show WS _ _ _ (.cond _ _ _) _ _; first | refine WS_condT rfl iI ?_ | refine WS_condF rfl iI ?_ | refine WS_condH_t rfl (by assumption) ?_ | refine WS_condH_f rfl (by assumption) ?_ | (refine WS_cond rfl ?_ ?_ <;> intro hc <;> (try simp only [decide_eq_true_eq, decide_eq_false_iff_not, Bool.not_eq_eq_eq_not, Bool.not_true, Bool.not_false, Bool.and_eq_true, Bool.or_eq_true, bne_iff_ne, beq_iff_eq, ne_eq, Decidable.not_not] at hc) <;> (try (exfalso; first | contradiction | omega; done))))
            | (refine LS_h (H_callX iI rfl hw iI) rfl ?_; intro vw))
          rw [if_pos ⟨rfl, hm⟩] at htk
          exact ⟨k - 1, _, by omega, ⟨j + 1, g, by omega, rfl⟩, ⟨rfl, by rw [htk]; rfl, rfl, rfl, rfl, rfl, trivial⟩, rfl, by rw [htb]; ((try simp only [star_assoc, emp_star, star_emp]); (repeat' (first | exact Ent.last | refine Ent.take ?_ | refine Ent.nilT ?_ | refine Ent.takeR (by first | rfl | assumption | (simp; done)) ?_ | exact Ent.refl _)))⟩
        · repeat' (first
            | (refine WS_seqK ?_; intro K hK)
            | (refine hK _ ?_; clear hK K)
            | (with_reducible (first | refine thenS_n ?_ | refine thenS_e ?_ | refine blockS_n ?_ | refine blockS_e ?_ | refine blockS_o rfl ?_ | refine thenS_r ?_ | refine blockS_r ?_ | refine use_K (by assumption) ?_))
            | refine WS_region ?_
            | refine LS_nil ?_
            | (show LS _ _ _ _ _ (⟨_, _, _, _, _, some _⟩ :: _) _; first | refine LS_wantT rfl rfl iI rfl ?_ | refine LS_wantF rfl rfl iI rfl ?_ | refine LS_wantU rfl rfl rfl ?_ | ((first | refine LS_wantS rfl rfl rfl ?_ ?_ | refine LS_wantN rfl ?_ ?_) <;> intro hc <;> (try simp only [decide_eq_true_eq, decide_eq_false_iff_not, Bool.not_eq_eq_eq_not, Bool.not_true, Bool.not_false, Bool.and_eq_true, Bool.or_eq_true, bne_iff_ne, beq_iff_eq, ne_eq, Decidable.not_not] at hc) <;> (try (exfalso; first | contradiction | omega; done))))
            | ((refine' LQ ?h rfl ?_); case h => intro F'; first | exact Q_move rfl | exact Q_assign rfl | exact Q_fieldAddr rfl iI rfl | exact Q_load rfl iI iI rfl | exact Q_bin_t rfl rfl iI (by first | assumption | omega | decide) | exact Q_bin_f rfl rfl iI (by first | assumption | omega | decide) | exact Q_bin_nt rfl rfl iI (by first | assumption | omega | decide) | exact Q_bin_nf rfl rfl iI (by first | assumption | omega | decide) | exact Q_addI rfl rfl (by omega) | exact Q_subI rfl rfl (by omega) | exact Q_extract rfl rfl | exact Q_pick_t rfl iI rfl | exact Q_pick_f rfl iI rfl | exact Q_pick rfl rfl rfl | exact Q_un rfl iI | exact Q_loadA rfl iI iI rfl | exact Q_build iI iI rfl rfl | exact Q_buildA iI iI iI rfl rfl | exact Q_len rfl iI | exact Q_lenS rfl iI | exact Q_index rfl rfl iI iI iI iI (by first | assumption | omega | (simp [be_length] <;> omega)) | exact Q_fieldR rfl iI iI rfl (by first | assumption | omega | (simp [be_length] <;> omega)) | exact Q_loadR rfl iI iI iI (by assumption) rfl | exact Q_loadR rfl iI iI iI rfl rfl | exact Q_loadRA rfl iI iI iI (by assumption) | exact Q_lenR rfl iI iI | exact Q_lenM rfl iI iI | exact Q_conv32_8 rfl iI iI iI | exact Q_conv64 rfl iI iI iI | exact Q_conv32 rfl iI iI iI | exact Q_convS rfl iI rfl iI iI iI | exact Q_convSame rfl iI iI (by omega) | exact Q_convI8 rfl iI iI | exact Q_conv328 rfl iI iI | exact Q_conv8 rfl iI iI | exact Q_bytesS rfl iI iI rfl iI iI iI | exact Q_addS rfl rfl (by first | omega | (simp [be_length] <;> omega)) | exact Q_indexV rfl rfl iI iI iI (by first | assumption | omega) | exact Q_quoI rfl rfl (by omega) | exact Q_remI rfl rfl (by omega) | exact Q_negI rfl (by omega) | exact Q_mulI rfl rfl (by omega))
            | ((first | refine LS_binS rfl rfl iI rfl ?_ ?_ | refine LS_binN rfl rfl iI rfl ?_ ?_) <;> intro hc)
            | ((refine' LQ ?h rfl ?_); case h => intro F'; first | exact Q_bin rfl rfl iI)
            | ((refine' LS_h ?h rfl ?_); (case h => first | exact H_alloc iI | exact H_buildB iI iI iI rfl rfl rfl rfl rfl iI rfl rfl | exact H_buildSlice iI iI iI rfl rfl rfl rfl rfl | exact H_buildSlice0 iI iI | exact H_appendD rfl rfl iI iI rfl iI iI byteC_one (by first | omega | (simp [be_length] <;> omega)) rfl | exact H_appendB rfl rfl iI iI iI rfl rfl iI (by first | omega | (simp [be_length] <;> omega)) rfl | exact H_appendS rfl rfl iI rfl iI iI (by first | omega | (simp [be_length] <;> omega)) rfl | exact H_convS rfl iI rfl iI iI iI); intro g)
            | ((refine' LS_h0 ?h ?_); (case h => first | exact H_storeO rfl rfl iI iI iI rfl | exact H_storeAO rfl rfl iI iI iI rfl | exact H_store8 rfl rfl iI iI rfl iI (by first | assumption | omega | (simp [be_length] <;> omega)) | exact H_storeRA _ rfl rfl rfl iI iI iI rfl rfl (by first | assumption | omega | (simp [be_length] <;> omega)) | exact H_storeR _ rfl rfl iI iI iI rfl (by assumption) rfl | exact H_store rfl rfl iI (by first | rfl | assumption) iI rfl | exact H_storeA rfl rfl iI iI (by first | rfl | (simp only [List.all_cons, List.all_nil, *]; rfl)) rfl); intro g)
            | (first | refine WS_block ?_ | refine WS_skip ?_ | refine WS_ret ?_ | refine WS_exit ?_ | refine WS_label ?_)
            | (show WS _ _ _ (.cond _ _ _) _ _; first | refine WS_condT rfl iI ?_ | refine WS_condF rfl iI ?_ | refine WS_condH_t rfl (by assumption) ?_ | refine WS_condH_f rfl (by assumption) ?_ | (refine WS_cond rfl ?_ ?_ <;> intro hc <;> (try simp only [decide_eq_true_eq, decide_eq_false_iff_not, Bool.not_eq_eq_eq_not, Bool.not_true, Bool.not_false, Bool.and_eq_true, Bool.or_eq_true, bne_iff_ne, beq_iff_eq, ne_eq, Decidable.not_not] at hc) <;> (try (exfalso; first | contradiction | omega; done))))
            | (refine LS_h (H_callX iI rfl hw iI) rfl ?_; intro vw))
          rw [if_neg (fun h => hm h.2)] at htk
          exact ⟨k - 1, _, by omega, ⟨j + 1, g, by omega, rfl⟩, ⟨rfl, by rw [htk]; rfl, rfl, rfl, rfl, rfl, trivial⟩, rfl, by rw [htb]; ((try simp only [star_assoc, emp_star, star_emp]); (repeat' (first | exact Ent.last | refine Ent.take ?_ | refine Ent.nilT ?_ | refine Ent.takeR (by first | rfl | assumption | (simp; done)) ?_ | exact Ent.refl _)))⟩
    · obtain rfl : j = L.length := by omega
      rw [List.take_of_length_le (Nat.le_refl _)]
      have hbl := recBytes_length L
      have hb0 : 0 < (recBytes L).length := by omega
      have hq := Nd.new_quiet (recBytes L) hb0
      have hsq : (Nd.new 1 (recBytes L) 100).seq = growS (mostF L) := by rw [Nd.new_seq _ hb0, torn_whole, maxOwn_norm, hLm]
      have hof := Nd.newO_frames (recBytes L)
      have hor : (Nd.newO 1 (recBytes L) 100).replace = true := by unfold Nd.newO; simp [hb0]
      have p1 := mnew_spec w0 1 (by decide) (recBytes L) (by omega) 100 vb (rows 5 1 byteC vb (recBytes L))
      have p2 := fun gm => mseq_spec w0 gm (Nd.new 1 (recBytes L) 100)
      rw [hsq] at p2
      generalize Nd.new 1 (recBytes L) 100 = s0 at *
      generalize Nd.newO 1 (recBytes L) 100 = o at *
      generalize mostF L = m at *
      simp only [outA, outR, hof, hor] at p1
      have hgm : ¬ growS m ≤ m ∨ ¬ m < 4294967295 := by
        by_cases h : m < 4294967295
        · exact .inl (growS_more m h)
        · exact .inr h
      generalize growS m = q at *
      have hgm2 : ¬ q ≤ m ∨ (q ≤ m ∧ ¬ m < 4294967295) := by
        rcases hgm with h | h
        · exact .inl h
        · refine .inr ⟨?_, h⟩
          have h1 := UInt32.toNat_lt q
          rw [UInt32.lt_iff_toNat_lt] at h
          rw [UInt32.le_iff_toNat_le]
          have h2 : ¬ m.toNat < 4294967295 := h
          omega
      clear hgm hLm hsq
      rcases hgm2 with hgm | ⟨hgm, hgm2⟩
      all_goals
        repeat' (first
          | (refine WS_seqK ?_; intro K hK)
          | (refine hK _ ?_; clear hK K)
          | (with_reducible (first | refine thenS_n ?_ | refine thenS_e ?_ | refine blockS_n ?_ | refine blockS_e ?_ | refine blockS_o rfl ?_ | refine thenS_r ?_ | refine blockS_r ?_ | refine use_K (by assumption) ?_))
          | refine WS_region ?_
          | refine LS_nil ?_
          | (show LS _ _ _ _ _ (⟨_, _, _, _, _, some _⟩ :: _) _; first | refine LS_wantT rfl rfl iI rfl ?_ | refine LS_wantF rfl rfl iI rfl ?_ | refine LS_wantU rfl rfl rfl ?_ | ((first | refine LS_wantS rfl rfl rfl ?_ ?_ | refine LS_wantN rfl ?_ ?_) <;> intro hc <;> (try simp only [decide_eq_true_eq, decide_eq_false_iff_not, Bool.not_eq_eq_eq_not, Bool.not_true, Bool.not_false, Bool.and_eq_true, Bool.or_eq_true, bne_iff_ne, beq_iff_eq, ne_eq, Decidable.not_not] at hc) <;> (try (exfalso; first | contradiction | omega; done))))
          | ((refine' LQ ?h rfl ?_); case h => intro F'; first | exact Q_move rfl | exact Q_assign rfl | exact Q_fieldAddr rfl iI rfl | exact Q_load rfl iI iI rfl | exact Q_bin_t rfl rfl iI (by first | assumption | omega | decide) | exact Q_bin_f rfl rfl iI (by first | assumption | omega | decide) | exact Q_bin_nt rfl rfl iI (by first | assumption | omega | decide) | exact Q_bin_nf rfl rfl iI (by first | assumption | omega | decide) | exact Q_addI rfl rfl (by omega) | exact Q_subI rfl rfl (by omega) | exact Q_extract rfl rfl | exact Q_pick_t rfl iI rfl | exact Q_pick_f rfl iI rfl | exact Q_pick rfl rfl rfl | exact Q_un rfl iI | exact Q_loadA rfl iI iI rfl | exact Q_build iI iI rfl rfl | exact Q_buildA iI iI iI rfl rfl | exact Q_len rfl iI | exact Q_lenS rfl iI | exact Q_index rfl rfl iI iI iI iI (by first | assumption | omega | (simp [be_length] <;> omega)) | exact Q_fieldR rfl iI iI rfl (by first | assumption | omega | (simp [be_length] <;> omega)) | exact Q_loadR rfl iI iI iI (by assumption) rfl | exact Q_loadR rfl iI iI iI rfl rfl | exact Q_loadRA rfl iI iI iI (by assumption) | exact Q_lenR rfl iI iI | exact Q_lenM rfl iI iI | exact Q_conv32_8 rfl iI iI iI | exact Q_conv64 rfl iI iI iI | exact Q_conv32 rfl iI iI iI | exact Q_convS rfl iI rfl iI iI iI | exact Q_convSame rfl iI iI (by omega) | exact Q_convI8 rfl iI iI | exact Q_conv328 rfl iI iI | exact Q_conv8 rfl iI iI | exact Q_bytesS rfl iI iI rfl iI iI iI | exact Q_addS rfl rfl (by first | omega | (simp [be_length] <;> omega)) | exact Q_indexV rfl rfl iI iI iI (by first | assumption | omega) | exact Q_quoI rfl rfl (by omega) | exact Q_remI rfl rfl (by omega) | exact Q_negI rfl (by omega) | exact Q_mulI rfl rfl (by omega))
          | ((first | refine LS_binS rfl rfl iI rfl ?_ ?_ | refine LS_binN rfl rfl iI rfl ?_ ?_) <;> intro hc)
          | ((refine' LQ ?h rfl ?_); case h => intro F'; first | exact Q_bin rfl rfl iI)
          | ((refine' LS_h ?h rfl ?_); (case h => first | exact H_alloc iI | exact H_buildB iI iI iI rfl rfl rfl rfl rfl iI rfl rfl | exact H_buildSlice iI iI iI rfl rfl rfl rfl rfl | exact H_buildSlice0 iI iI | exact H_appendD rfl rfl iI iI rfl iI iI byteC_one (by first | omega | (simp [be_length] <;> omega)) rfl | exact H_appendB rfl rfl iI iI iI rfl rfl iI (by first | omega | (simp [be_length] <;> omega)) rfl | exact H_appendS rfl rfl iI rfl iI iI (by first | omega | (simp [be_length] <;> omega)) rfl | exact H_convS rfl iI rfl iI iI iI); intro g)
          | ((refine' LS_h0 ?h ?_); (case h => first | exact H_storeO rfl rfl iI iI iI rfl | exact H_storeAO rfl rfl iI iI iI rfl | exact H_store8 rfl rfl iI iI rfl iI (by first | assumption | omega | (simp [be_length] <;> omega)) | exact H_storeRA _ rfl rfl rfl iI iI iI rfl rfl (by first | assumption | omega | (simp [be_length] <;> omega)) | exact H_storeR _ rfl rfl iI iI iI rfl (by assumption) rfl | exact H_store rfl rfl iI (by first | rfl | assumption) iI rfl | exact H_storeA rfl rfl iI iI (by first | rfl | (simp only [List.all_cons, List.all_nil, *]; rfl)) rfl); intro g)
          | (first | refine WS_block ?_ | refine WS_skip ?_ | refine WS_ret ?_ | refine WS_exit ?_ | refine WS_label ?_)
          | (show WS _ _ _ (.cond _ _ _) _ _; first | refine WS_condT rfl iI ?_ | refine WS_condF rfl iI ?_ | refine WS_condH_t rfl (by assumption) ?_ | refine WS_condH_f rfl (by assumption) ?_ | (refine WS_cond rfl ?_ ?_ <;> intro hc <;> (try simp only [decide_eq_true_eq, decide_eq_false_iff_not, Bool.not_eq_eq_eq_not, Bool.not_true, Bool.not_false, Bool.and_eq_true, Bool.or_eq_true, bne_iff_ne, beq_iff_eq, ne_eq, Decidable.not_not] at hc) <;> (try (exfalso; first | contradiction | omega; done))))
          | (refine LS_h (H_callX iI rfl p1 iI) rfl ?_; intro x; obtain ⟨gm, vf, vc, vd⟩ := x; dsimp only)
          | (refine LS_h (H_callX iI rfl (p2 gm) iI) rfl ?_; intro u2))
        clear p1 p2
        refine WS_loop (fun k τ => ∃ (j : Nat) (s : Nd), s.Quiet ∧ j + k = fs.length ∧ τ = ⟨[(14, .int .i64 (j : Int)), (10, ptr gm 0), (0 + 1, v2), (0 + 1 + 1, u64 wait)], [], mnodI gm s * (X * G)⟩) ?_ ?_
        · exact ⟨fs.length, _, ⟨0, s0, hq, by omega, rfl⟩, ⟨rfl, rfl, rfl, rfl, trivial⟩, rfl, by ((try simp only [star_assoc, emp_star, star_emp]); (repeat' (first | exact Ent.last | refine Ent.take ?_ | refine Ent.nilT ?_ | refine Ent.takeR (by first | rfl | assumption | (simp; done)) ?_ | exact Ent.refl _)))⟩
        · clear hof hor hq
          rintro k τ ⟨j, s, hs, hjk, rfl⟩
          rcases Nat.lt_or_ge j fs.length with hlt | hge
          · obtain ⟨f, hz⟩ : ∃ z, fs[j]? = some z := ⟨_, List.getElem?_eq_getElem hlt⟩
            obtain ⟨k1, k2, k3, k4⟩ := hs.hear (100 + wait % 2000) (now_mod wait) f
            by_cases hf : 65536 < f.length
            · repeat' (first
                | (refine WS_seqK ?_; intro K hK)
                | (refine hK _ ?_; clear hK K)
                | (with_reducible (first | refine thenS_n ?_ | refine thenS_e ?_ | refine blockS_n ?_ | refine blockS_e ?_ | refine blockS_o rfl ?_ | refine thenS_r ?_ | refine blockS_r ?_ | refine use_K (by assumption) ?_))
                | refine WS_region ?_
                | refine LS_nil ?_
                | (show LS _ _ _ _ _ (⟨_, _, _, _, _, some _⟩ :: _) _; first | refine LS_wantT rfl rfl iI rfl ?_ | refine LS_wantF rfl rfl iI rfl ?_ | refine LS_wantU rfl rfl rfl ?_ | ((first | refine LS_wantS rfl rfl rfl ?_ ?_ | refine LS_wantN rfl ?_ ?_) <;> intro hc <;> (try simp only [decide_eq_true_eq, decide_eq_false_iff_not, Bool.not_eq_eq_eq_not, Bool.not_true, Bool.not_false, Bool.and_eq_true, Bool.or_eq_true, bne_iff_ne, beq_iff_eq, ne_eq, Decidable.not_not] at hc) <;> (try (exfalso; first | contradiction | omega; done))))
                | ((refine' LQ ?h rfl ?_); case h => intro F'; first | exact Q_move rfl | exact Q_assign rfl | exact Q_fieldAddr rfl iI rfl | exact Q_load rfl iI iI rfl | exact Q_bin_t rfl rfl iI (by first | assumption | omega | decide) | exact Q_bin_f rfl rfl iI (by first | assumption | omega | decide) | exact Q_bin_nt rfl rfl iI (by first | assumption | omega | decide) | exact Q_bin_nf rfl rfl iI (by first | assumption | omega | decide) | exact Q_addI rfl rfl (by omega) | exact Q_subI rfl rfl (by omega) | exact Q_extract rfl rfl | exact Q_pick_t rfl iI rfl | exact Q_pick_f rfl iI rfl | exact Q_pick rfl rfl rfl | exact Q_un rfl iI | exact Q_loadA rfl iI iI rfl | exact Q_build iI iI rfl rfl | exact Q_buildA iI iI iI rfl rfl | exact Q_len rfl iI | exact Q_lenS rfl iI | exact Q_index rfl rfl iI iI iI iI (by first | assumption | omega | (simp [be_length] <;> omega)) | exact Q_fieldR rfl iI iI rfl (by first | assumption | omega | (simp [be_length] <;> omega)) | exact Q_loadR rfl iI iI iI (by assumption) rfl | exact Q_loadR rfl iI iI iI rfl rfl | exact Q_loadRA rfl iI iI iI (by assumption) | exact Q_lenR rfl iI iI | exact Q_lenM rfl iI iI | exact Q_conv32_8 rfl iI iI iI | exact Q_conv64 rfl iI iI iI | exact Q_conv32 rfl iI iI iI | exact Q_convS rfl iI rfl iI iI iI | exact Q_convSame rfl iI iI (by omega) | exact Q_convI8 rfl iI iI | exact Q_conv328 rfl iI iI | exact Q_conv8 rfl iI iI | exact Q_bytesS rfl iI iI rfl iI iI iI | exact Q_addS rfl rfl (by first | omega | (simp [be_length] <;> omega)) | exact Q_indexV rfl rfl iI iI iI (by first | assumption | omega) | exact Q_quoI rfl rfl (by omega) | exact Q_remI rfl rfl (by omega) | exact Q_negI rfl (by omega) | exact Q_mulI rfl rfl (by omega))
                | ((first | refine LS_binS rfl rfl iI rfl ?_ ?_ | refine LS_binN rfl rfl iI rfl ?_ ?_) <;> intro hc)
                | ((refine' LQ ?h rfl ?_); case h => intro F'; first | exact Q_bin rfl rfl iI)
                | ((refine' LS_h ?h rfl ?_); (case h => first | exact H_alloc iI | exact H_buildB iI iI iI rfl rfl rfl rfl rfl iI rfl rfl | exact H_buildSlice iI iI iI rfl rfl rfl rfl rfl | exact H_buildSlice0 iI iI | exact H_appendD rfl rfl iI iI rfl iI iI byteC_one (by first | omega | (simp [be_length] <;> omega)) rfl | exact H_appendB rfl rfl iI iI iI rfl rfl iI (by first | omega | (simp [be_length] <;> omega)) rfl | exact H_appendS rfl rfl iI rfl iI iI (by first | omega | (simp [be_length] <;> omega)) rfl | exact H_convS rfl iI rfl iI iI iI); intro g)
                | ((refine' LS_h0 ?h ?_); (case h => first | exact H_storeO rfl rfl iI iI iI rfl | exact H_storeAO rfl rfl iI iI iI rfl | exact H_store8 rfl rfl iI iI rfl iI (by first | assumption | omega | (simp [be_length] <;> omega)) | exact H_storeRA _ rfl rfl rfl iI iI iI rfl rfl (by first | assumption | omega | (simp [be_length] <;> omega)) | exact H_storeR _ rfl rfl iI iI iI rfl (by assumption) rfl | exact H_store rfl rfl iI (by first | rfl | assumption) iI rfl | exact H_storeA rfl rfl iI iI (by first | rfl | (simp only [List.all_cons, List.all_nil, *]; rfl)) rfl); intro g)
                | (first | refine WS_block ?_ | refine WS_skip ?_ | refine WS_ret ?_ | refine WS_exit ?_ | refine WS_label ?_)
                | (show WS _ _ _ (.cond _ _ _) _ _; first | refine WS_condT rfl iI ?_ | refine WS_condF rfl iI ?_ | refine WS_condH_t rfl (by assumption) ?_ | refine WS_condH_f rfl (by assumption) ?_ | (refine WS_cond rfl ?_ ?_ <;> intro hc <;> (try simp only [decide_eq_true_eq, decide_eq_false_iff_not, Bool.not_eq_eq_eq_not, Bool.not_true, Bool.not_false, Bool.and_eq_true, Bool.or_eq_true, bne_iff_ne, beq_iff_eq, ne_eq, Decidable.not_not] at hc) <;> (try (exfalso; first | contradiction | omega; done)))))
              exact ⟨k - 1, _, by omega, ⟨j + 1, s, hs, by omega, rfl⟩, ⟨rfl, rfl, rfl, rfl, trivial⟩, rfl, by ((try simp only [star_assoc, emp_star, star_emp]); (repeat' (first | exact Ent.last | refine Ent.take ?_ | refine Ent.nilT ?_ | refine Ent.takeR (by first | rfl | assumption | (simp; done)) ?_ | exact Ent.refl _)))⟩
            · have p3 := fun vb => mrcvQ_spec w0 gm s (100 + wait % 2000) 2 f hs.ok (by have := hs.recs; omega) k2 (by omega) vb (rows 5 1 byteC vb f)
              have hfr : ∀ fr ∈ ((s.begin (100 + wait % 2000)).rcvQ (100 + wait % 2000) 2 f).done.out.frames, fr.1 = 2 ∧ fr.2.length ≤ 100000 ∧ ∃ p, Pk.dec fr.2 = some p ∧ p.kind = 3 := by
                intro fr hm
                rcases k4 with k4 | ⟨d, q', k4⟩
                · rw [k4] at hm; cases hm
                · rw [k4] at hm
                  simp only [List.mem_singleton] at hm
                  subst hm
                  exact ⟨rfl, Pk.out_le' (Pk.lose [(d, q')]), _, lose_dec _ _, rfl⟩
              have hF1 : ((s.begin (100 + wait % 2000)).rcvQ (100 + wait % 2000) 2 f).done.out.frames.length ≤ 1 := by
                rcases k4 with k4 | ⟨d, q', k4⟩
                · rw [k4]; simp
                · rw [k4]; simp
              clear k4
              simp only [outA, outR, k3] at p3
              generalize ((s.begin (100 + wait % 2000)).rcvQ (100 + wait % 2000) 2 f).done = s2 at *
              generalize s2.out.frames = F at *
              repeat' (first
                | (refine WS_seqK ?_; intro K hK)
                | (refine hK _ ?_; clear hK K)
                | (with_reducible (first | refine thenS_n ?_ | refine thenS_e ?_ | refine blockS_n ?_ | refine blockS_e ?_ | refine blockS_o rfl ?_ | refine thenS_r ?_ | refine blockS_r ?_ | refine use_K (by assumption) ?_))
                | refine WS_region ?_
                | refine LS_nil ?_
                | (show LS _ _ _ _ _ (⟨_, _, _, _, _, some _⟩ :: _) _; first | refine LS_wantT rfl rfl iI rfl ?_ | refine LS_wantF rfl rfl iI rfl ?_ | refine LS_wantU rfl rfl rfl ?_ | ((first | refine LS_wantS rfl rfl rfl ?_ ?_ | refine LS_wantN rfl ?_ ?_) <;> intro hc <;> (try simp only [decide_eq_true_eq, decide_eq_false_iff_not, Bool.not_eq_eq_eq_not, Bool.not_true, Bool.not_false, Bool.and_eq_true, Bool.or_eq_true, bne_iff_ne, beq_iff_eq, ne_eq, Decidable.not_not] at hc) <;> (try (exfalso; first | contradiction | omega; done))))
                | ((refine' LQ ?h rfl ?_); case h => intro F'; first | exact Q_move rfl | exact Q_assign rfl | exact Q_fieldAddr rfl iI rfl | exact Q_load rfl iI iI rfl | exact Q_bin_t rfl rfl iI (by first | assumption | omega | decide) | exact Q_bin_f rfl rfl iI (by first | assumption | omega | decide) | exact Q_bin_nt rfl rfl iI (by first | assumption | omega | decide) | exact Q_bin_nf rfl rfl iI (by first | assumption | omega | decide) | exact Q_addI rfl rfl (by omega) | exact Q_subI rfl rfl (by omega) | exact Q_extract rfl rfl | exact Q_pick_t rfl iI rfl | exact Q_pick_f rfl iI rfl | exact Q_pick rfl rfl rfl | exact Q_un rfl iI | exact Q_loadA rfl iI iI rfl | exact Q_build iI iI rfl rfl | exact Q_buildA iI iI iI rfl rfl | exact Q_len rfl iI | exact Q_lenS rfl iI | exact Q_index rfl rfl iI iI iI iI (by first | assumption | omega | (simp [be_length] <;> omega)) | exact Q_fieldR rfl iI iI rfl (by first | assumption | omega | (simp [be_length] <;> omega)) | exact Q_loadR rfl iI iI iI (by assumption) rfl | exact Q_loadR rfl iI iI iI rfl rfl | exact Q_loadRA rfl iI iI iI (by assumption) | exact Q_lenR rfl iI iI | exact Q_lenM rfl iI iI | exact Q_conv32_8 rfl iI iI iI | exact Q_conv64 rfl iI iI iI | exact Q_conv32 rfl iI iI iI | exact Q_convS rfl iI rfl iI iI iI | exact Q_convSame rfl iI iI (by omega) | exact Q_convI8 rfl iI iI | exact Q_conv328 rfl iI iI | exact Q_conv8 rfl iI iI | exact Q_bytesS rfl iI iI rfl iI iI iI | exact Q_addS rfl rfl (by first | omega | (simp [be_length] <;> omega)) | exact Q_indexV rfl rfl iI iI iI (by first | assumption | omega) | exact Q_quoI rfl rfl (by omega) | exact Q_remI rfl rfl (by omega) | exact Q_negI rfl (by omega) | exact Q_mulI rfl rfl (by omega))
                | ((first | refine LS_binS rfl rfl iI rfl ?_ ?_ | refine LS_binN rfl rfl iI rfl ?_ ?_) <;> intro hc)
                | ((refine' LQ ?h rfl ?_); case h => intro F'; first | exact Q_bin rfl rfl iI)
                | ((refine' LS_h ?h rfl ?_); (case h => first | exact H_buildB iI iI iI rfl rfl rfl rfl rfl iI rfl rfl | exact H_buildSlice iI iI iI rfl rfl rfl rfl rfl | exact H_buildSlice0 iI iI | exact H_appendD rfl rfl iI iI rfl iI iI byteC_one (by first | omega | (simp [be_length] <;> omega)) rfl | exact H_appendB rfl rfl iI iI iI rfl rfl iI (by first | omega | (simp [be_length] <;> omega)) rfl | exact H_appendS rfl rfl iI rfl iI iI (by first | omega | (simp [be_length] <;> omega)) rfl | exact H_convS rfl iI rfl iI iI iI); intro g)
                | ((refine' LS_h0 ?h ?_); (case h => first | exact H_storeO rfl rfl iI iI iI rfl | exact H_storeAO rfl rfl iI iI iI rfl | exact H_store8 rfl rfl iI iI rfl iI (by first | assumption | omega | (simp [be_length] <;> omega)) | exact H_storeRA _ rfl rfl rfl iI iI iI rfl rfl (by first | assumption | omega | (simp [be_length] <;> omega)) | exact H_storeR _ rfl rfl iI iI iI rfl (by assumption) rfl | exact H_store rfl rfl iI (by first | rfl | assumption) iI rfl | exact H_storeA rfl rfl iI iI (by first | rfl | (simp only [List.all_cons, List.all_nil, *]; rfl)) rfl); intro g)
                | (first | refine WS_block ?_ | refine WS_skip ?_ | refine WS_ret ?_ | refine WS_exit ?_ | refine WS_label ?_)
                | (show WS _ _ _ (.cond _ _ _) _ _; first | refine WS_condT rfl iI ?_ | refine WS_condF rfl iI ?_ | refine WS_condH_t rfl (by assumption) ?_ | refine WS_condH_f rfl (by assumption) ?_ | (refine WS_cond rfl ?_ ?_ <;> intro hc <;> (try simp only [decide_eq_true_eq, decide_eq_false_iff_not, Bool.not_eq_eq_eq_not, Bool.not_true, Bool.not_false, Bool.and_eq_true, Bool.or_eq_true, bne_iff_ne, beq_iff_eq, ne_eq, Decidable.not_not] at hc) <;> (try (exfalso; first | contradiction | omega; done))))
                | (refine LS_h (H_alloc iI) rfl ?_; intro gp)
                | (refine LS_h (H_convB rfl iI iI iI (by first | omega | (simp [be_length] <;> omega))) rfl ?_; intro vs)
                | (refine LS_h (H_callX iI rfl (p3 vs) iI) rfl ?_; intro x; obtain ⟨wf, wc, wd⟩ := x; dsimp only))
              clear p3
              refine WS_loop (fun k3 τ => ∃ (i : Nat), i + k3 = F.length ∧ τ = ⟨[(16, .int .i64 (i : Int)), (15, ptr gp 0), (14, .int .i64 (j : Int)), (10, ptr gm 0), (0 + 1, v2), (0 + 1 + 1, u64 wait)], [], cel gp 35 [strV s2.out.journal, .bool s2.out.replace, wf, wc, wd] * (rows 48 2 txtC wf F * (rows 70 2 txtC wc [] * (mnodI gm s2 * (X * G))))⟩) ?_ ?_
              · exact ⟨F.length, _, ⟨0, by omega, rfl⟩, ⟨rfl, rfl, rfl, rfl, rfl, rfl, trivial⟩, rfl, by ((try simp only [star_assoc, emp_star, star_emp]); (repeat' (first | exact Ent.last | refine Ent.take ?_ | refine Ent.nilT ?_ | refine Ent.takeR (by first | rfl | assumption | (simp; done)) ?_ | exact Ent.refl _)))⟩
              · rintro k3 τ ⟨i, hik, rfl⟩
                rcases Nat.lt_or_ge i F.length with hlt3 | hge3
                · obtain ⟨⟨ft, fb⟩, hz3⟩ : ∃ z, F[i]? = some z := ⟨_, List.getElem?_eq_getElem hlt3⟩
                  obtain ⟨e1, e2, p, e3, e4⟩ := hfr _ (List.mem_of_getElem? hz3)
                  simp only at e1 e2 e3
                  subst e1
                  have h22 : (((2 : UInt32), fb).1 = 2) := rfl
                  have h23 : ¬ (((2 : UInt32), fb).1 ≠ 2) := fun h => h rfl
                  have p4 := fun v => mdecode_spec w0 fb e2 v (rows 5 1 byteC v fb)
                  simp only [mdecV, decH, e3, Option.getD_some, Option.isSome_some, if_true, Pk.val, Pk.cells, e4] at p4
                  repeat' (first
                    | (refine WS_seqK ?_; intro K hK)
                    | (refine hK _ ?_; clear hK K)
                    | (with_reducible (first | refine thenS_n ?_ | refine thenS_e ?_ | refine blockS_n ?_ | refine blockS_e ?_ | refine blockS_o rfl ?_ | refine thenS_r ?_ | refine blockS_r ?_ | refine use_K (by assumption) ?_))
                    | refine WS_region ?_
                    | refine LS_nil ?_
                    | (show LS _ _ _ _ _ (⟨_, _, _, _, _, some _⟩ :: _) _; first | refine LS_wantT rfl rfl iI rfl ?_ | refine LS_wantF rfl rfl iI rfl ?_ | refine LS_wantU rfl rfl rfl ?_ | ((first | refine LS_wantS rfl rfl rfl ?_ ?_ | refine LS_wantN rfl ?_ ?_) <;> intro hc <;> (try simp only [decide_eq_true_eq, decide_eq_false_iff_not, Bool.not_eq_eq_eq_not, Bool.not_true, Bool.not_false, Bool.and_eq_true, Bool.or_eq_true, bne_iff_ne, beq_iff_eq, ne_eq, Decidable.not_not] at hc) <;> (try (exfalso; first | contradiction | omega; done))))
                    | ((refine' LQ ?h rfl ?_); case h => intro F'; first | exact Q_move rfl | exact Q_assign rfl | exact Q_fieldAddr rfl iI rfl | exact Q_load rfl iI iI rfl | exact Q_bin_t rfl rfl iI (by first | assumption | omega | decide) | exact Q_bin_f rfl rfl iI (by first | assumption | omega | decide) | exact Q_bin_nt rfl rfl iI (by first | assumption | omega | decide) | exact Q_bin_nf rfl rfl iI (by first | assumption | omega | decide) | exact Q_addI rfl rfl (by omega) | exact Q_subI rfl rfl (by omega) | exact Q_extract rfl rfl | exact Q_pick_t rfl iI rfl | exact Q_pick_f rfl iI rfl | exact Q_pick rfl rfl rfl | exact Q_un rfl iI | exact Q_loadA rfl iI iI rfl | exact Q_build iI iI rfl rfl | exact Q_buildA iI iI iI rfl rfl | exact Q_len rfl iI | exact Q_lenS rfl iI | exact Q_index rfl rfl iI iI iI iI (by first | assumption | omega | (simp [be_length] <;> omega)) | exact Q_fieldR rfl iI iI rfl (by first | assumption | omega | (simp [be_length] <;> omega)) | exact Q_loadR rfl iI iI iI (by assumption) rfl | exact Q_loadR rfl iI iI iI rfl rfl | exact Q_loadRA rfl iI iI iI (by assumption) | exact Q_lenR rfl iI iI | exact Q_lenM rfl iI iI | exact Q_conv32_8 rfl iI iI iI | exact Q_conv64 rfl iI iI iI | exact Q_conv32 rfl iI iI iI | exact Q_convS rfl iI rfl iI iI iI | exact Q_convSame rfl iI iI (by omega) | exact Q_convI8 rfl iI iI | exact Q_conv328 rfl iI iI | exact Q_conv8 rfl iI iI | exact Q_bytesS rfl iI iI rfl iI iI iI | exact Q_addS rfl rfl (by first | omega | (simp [be_length] <;> omega)) | exact Q_indexV rfl rfl iI iI iI (by first | assumption | omega) | exact Q_quoI rfl rfl (by omega) | exact Q_remI rfl rfl (by omega) | exact Q_negI rfl (by omega) | exact Q_mulI rfl rfl (by omega))
                    | ((first | refine LS_binS rfl rfl iI rfl ?_ ?_ | refine LS_binN rfl rfl iI rfl ?_ ?_) <;> intro hc)
                    | ((refine' LQ ?h rfl ?_); case h => intro F'; first | exact Q_bin rfl rfl iI)
                    | ((refine' LS_h ?h rfl ?_); (case h => first | exact H_alloc iI | exact H_buildB iI iI iI rfl rfl rfl rfl rfl iI rfl rfl | exact H_buildSlice iI iI iI rfl rfl rfl rfl rfl | exact H_buildSlice0 iI iI | exact H_appendD rfl rfl iI iI rfl iI iI byteC_one (by first | omega | (simp [be_length] <;> omega)) rfl | exact H_appendB rfl rfl iI iI iI rfl rfl iI (by first | omega | (simp [be_length] <;> omega)) rfl | exact H_appendS rfl rfl iI rfl iI iI (by first | omega | (simp [be_length] <;> omega)) rfl | exact H_convS rfl iI rfl iI iI iI); intro g)
                    | ((refine' LS_h0 ?h ?_); (case h => first | exact H_storeO rfl rfl iI iI iI rfl | exact H_storeAO rfl rfl iI iI iI rfl | exact H_store8 rfl rfl iI iI rfl iI (by first | assumption | omega | (simp [be_length] <;> omega)) | exact H_storeRA _ rfl rfl rfl iI iI iI rfl rfl (by first | assumption | omega | (simp [be_length] <;> omega)) | exact H_storeR _ rfl rfl iI iI iI rfl (by assumption) rfl | exact H_store rfl rfl iI (by first | rfl | assumption) iI rfl | exact H_storeA rfl rfl iI iI (by first | rfl | (simp only [List.all_cons, List.all_nil, *]; rfl)) rfl); intro g)
                    | (first | refine WS_block ?_ | refine WS_skip ?_ | refine WS_ret ?_ | refine WS_exit ?_ | refine WS_label ?_)
                    | (show WS _ _ _ (.cond _ _ _) _ _; first | refine WS_condT rfl iI ?_ | refine WS_condF rfl iI ?_ | refine WS_condH_t rfl (by assumption) ?_ | refine WS_condH_f rfl (by assumption) ?_ | (refine WS_cond rfl ?_ ?_ <;> intro hc <;> (try simp only [decide_eq_true_eq, decide_eq_false_iff_not, Bool.not_eq_eq_eq_not, Bool.not_true, Bool.not_false, Bool.and_eq_true, Bool.or_eq_true, bne_iff_ne, beq_iff_eq, ne_eq, Decidable.not_not] at hc) <;> (try (exfalso; first | contradiction | omega; done))))
                    | (refine LS_h (H_convB rfl iI iI iI (by first | omega | (simp [be_length] <;> omega))) rfl ?_; intro vs)
                    | (refine LS_h (H_callX iI rfl (p4 vs) iI) rfl ?_; intro vl))
                  exact ⟨k3 - 1, _, by omega, ⟨i + 1, by omega, rfl⟩, ⟨rfl, rfl, rfl, rfl, rfl, rfl, trivial⟩, rfl, by ((try simp only [star_assoc, emp_star, star_emp]); (repeat' (first | exact Ent.last | refine Ent.take ?_ | refine Ent.nilT ?_ | refine Ent.takeR (by first | rfl | assumption | (simp; done)) ?_ | exact Ent.refl _)))⟩
                · obtain rfl : i = F.length := by omega
                  repeat' (first
                    | (refine WS_seqK ?_; intro K hK)
                    | (refine hK _ ?_; clear hK K)
                    | (with_reducible (first | refine thenS_n ?_ | refine thenS_e ?_ | refine blockS_n ?_ | refine blockS_e ?_ | refine blockS_o rfl ?_ | refine thenS_r ?_ | refine blockS_r ?_ | refine use_K (by assumption) ?_))
                    | refine WS_region ?_
                    | refine LS_nil ?_
                    | (show LS _ _ _ _ _ (⟨_, _, _, _, _, some _⟩ :: _) _; first | refine LS_wantT rfl rfl iI rfl ?_ | refine LS_wantF rfl rfl iI rfl ?_ | refine LS_wantU rfl rfl rfl ?_ | ((first | refine LS_wantS rfl rfl rfl ?_ ?_ | refine LS_wantN rfl ?_ ?_) <;> intro hc <;> (try simp only [decide_eq_true_eq, decide_eq_false_iff_not, Bool.not_eq_eq_eq_not, Bool.not_true, Bool.not_false, Bool.and_eq_true, Bool.or_eq_true, bne_iff_ne, beq_iff_eq, ne_eq, Decidable.not_not] at hc) <;> (try (exfalso; first | contradiction | omega; done))))
                    | ((refine' LQ ?h rfl ?_); case h => intro F'; first | exact Q_move rfl | exact Q_assign rfl | exact Q_fieldAddr rfl iI rfl | exact Q_load rfl iI iI rfl | exact Q_bin_t rfl rfl iI (by first | assumption | omega | decide) | exact Q_bin_f rfl rfl iI (by first | assumption | omega | decide) | exact Q_bin_nt rfl rfl iI (by first | assumption | omega | decide) | exact Q_bin_nf rfl rfl iI (by first | assumption | omega | decide) | exact Q_addI rfl rfl (by omega) | exact Q_subI rfl rfl (by omega) | exact Q_extract rfl rfl | exact Q_pick_t rfl iI rfl | exact Q_pick_f rfl iI rfl | exact Q_pick rfl rfl rfl | exact Q_un rfl iI | exact Q_loadA rfl iI iI rfl | exact Q_build iI iI rfl rfl | exact Q_buildA iI iI iI rfl rfl | exact Q_len rfl iI | exact Q_lenS rfl iI | exact Q_index rfl rfl iI iI iI iI (by first | assumption | omega | (simp [be_length] <;> omega)) | exact Q_fieldR rfl iI iI rfl (by first | assumption | omega | (simp [be_length] <;> omega)) | exact Q_loadR rfl iI iI iI (by assumption) rfl | exact Q_loadR rfl iI iI iI rfl rfl | exact Q_loadRA rfl iI iI iI (by assumption) | exact Q_lenR rfl iI iI | exact Q_lenM rfl iI iI | exact Q_conv32_8 rfl iI iI iI | exact Q_conv64 rfl iI iI iI | exact Q_conv32 rfl iI iI iI | exact Q_convS rfl iI rfl iI iI iI | exact Q_convSame rfl iI iI (by omega) | exact Q_convI8 rfl iI iI | exact Q_conv328 rfl iI iI | exact Q_conv8 rfl iI iI | exact Q_bytesS rfl iI iI rfl iI iI iI | exact Q_addS rfl rfl (by first | omega | (simp [be_length] <;> omega)) | exact Q_indexV rfl rfl iI iI iI (by first | assumption | omega) | exact Q_quoI rfl rfl (by omega) | exact Q_remI rfl rfl (by omega) | exact Q_negI rfl (by omega) | exact Q_mulI rfl rfl (by omega))
                    | ((first | refine LS_binS rfl rfl iI rfl ?_ ?_ | refine LS_binN rfl rfl iI rfl ?_ ?_) <;> intro hc)
                    | ((refine' LQ ?h rfl ?_); case h => intro F'; first | exact Q_bin rfl rfl iI)
                    | ((refine' LS_h ?h rfl ?_); (case h => first | exact H_alloc iI | exact H_buildB iI iI iI rfl rfl rfl rfl rfl iI rfl rfl | exact H_buildSlice iI iI iI rfl rfl rfl rfl rfl | exact H_buildSlice0 iI iI | exact H_appendD rfl rfl iI iI rfl iI iI byteC_one (by first | omega | (simp [be_length] <;> omega)) rfl | exact H_appendB rfl rfl iI iI iI rfl rfl iI (by first | omega | (simp [be_length] <;> omega)) rfl | exact H_appendS rfl rfl iI rfl iI iI (by first | omega | (simp [be_length] <;> omega)) rfl | exact H_convS rfl iI rfl iI iI iI); intro g)
                    | ((refine' LS_h0 ?h ?_); (case h => first | exact H_storeO rfl rfl iI iI iI rfl | exact H_storeAO rfl rfl iI iI iI rfl | exact H_store8 rfl rfl iI iI rfl iI (by first | assumption | omega | (simp [be_length] <;> omega)) | exact H_storeRA _ rfl rfl rfl iI iI iI rfl rfl (by first | assumption | omega | (simp [be_length] <;> omega)) | exact H_storeR _ rfl rfl iI iI iI rfl (by assumption) rfl | exact H_store rfl rfl iI (by first | rfl | assumption) iI rfl | exact H_storeA rfl rfl iI iI (by first | rfl | (simp only [List.all_cons, List.all_nil, *]; rfl)) rfl); intro g)
                    | (first | refine WS_block ?_ | refine WS_skip ?_ | refine WS_ret ?_ | refine WS_exit ?_ | refine WS_label ?_)
                    | (show WS _ _ _ (.cond _ _ _) _ _; first | refine WS_condT rfl iI ?_ | refine WS_condF rfl iI ?_ | refine WS_condH_t rfl (by assumption) ?_ | refine WS_condH_f rfl (by assumption) ?_ | (refine WS_cond rfl ?_ ?_ <;> intro hc <;> (try simp only [decide_eq_true_eq, decide_eq_false_iff_not, Bool.not_eq_eq_eq_not, Bool.not_true, Bool.not_false, Bool.and_eq_true, Bool.or_eq_true, bne_iff_ne, beq_iff_eq, ne_eq, Decidable.not_not] at hc) <;> (try (exfalso; first | contradiction | omega; done)))))
                  exact ⟨k - 1, _, by omega, ⟨j + 1, s2, k1, by omega, rfl⟩, ⟨rfl, rfl, rfl, rfl, trivial⟩, rfl, by ((try simp only [star_assoc, emp_star, star_emp]); (repeat' (first | exact Ent.last | refine Ent.take ?_ | refine Ent.nilT ?_ | refine Ent.takeR (by first | rfl | assumption | (simp; done)) ?_ | exact Ent.refl _)))⟩
          · obtain rfl : j = fs.length := by omega
            have p5 := mroutes_spec w0 gm s hs.ok
            repeat' (first
              | (refine WS_seqK ?_; intro K hK)
              | (refine hK _ ?_; clear hK K)
              | (with_reducible (first | refine thenS_n ?_ | refine thenS_e ?_ | refine blockS_n ?_ | refine blockS_e ?_ | refine blockS_o rfl ?_ | refine thenS_r ?_ | refine blockS_r ?_ | refine use_K (by assumption) ?_))
              | refine WS_region ?_
              | refine LS_nil ?_
              | (show LS _ _ _ _ _ (⟨_, _, _, _, _, some _⟩ :: _) _; first | refine LS_wantT rfl rfl iI rfl ?_ | refine LS_wantF rfl rfl iI rfl ?_ | refine LS_wantU rfl rfl rfl ?_ | ((first | refine LS_wantS rfl rfl rfl ?_ ?_ | refine LS_wantN rfl ?_ ?_) <;> intro hc <;> (try simp only [decide_eq_true_eq, decide_eq_false_iff_not, Bool.not_eq_eq_eq_not, Bool.not_true, Bool.not_false, Bool.and_eq_true, Bool.or_eq_true, bne_iff_ne, beq_iff_eq, ne_eq, Decidable.not_not] at hc) <;> (try (exfalso; first | contradiction | omega; done))))
              | ((refine' LQ ?h rfl ?_); case h => intro F'; first | exact Q_move rfl | exact Q_assign rfl | exact Q_fieldAddr rfl iI rfl | exact Q_load rfl iI iI rfl | exact Q_bin_t rfl rfl iI (by first | assumption | omega | decide) | exact Q_bin_f rfl rfl iI (by first | assumption | omega | decide) | exact Q_bin_nt rfl rfl iI (by first | assumption | omega | decide) | exact Q_bin_nf rfl rfl iI (by first | assumption | omega | decide) | exact Q_addI rfl rfl (by omega) | exact Q_subI rfl rfl (by omega) | exact Q_extract rfl rfl | exact Q_pick_t rfl iI rfl | exact Q_pick_f rfl iI rfl | exact Q_pick rfl rfl rfl | exact Q_un rfl iI | exact Q_loadA rfl iI iI rfl | exact Q_build iI iI rfl rfl | exact Q_buildA iI iI iI rfl rfl | exact Q_len rfl iI | exact Q_lenS rfl iI | exact Q_index rfl rfl iI iI iI iI (by first | assumption | omega | (simp [be_length] <;> omega)) | exact Q_fieldR rfl iI iI rfl (by first | assumption | omega | (simp [be_length] <;> omega)) | exact Q_loadR rfl iI iI iI (by assumption) rfl | exact Q_loadR rfl iI iI iI rfl rfl | exact Q_loadRA rfl iI iI iI (by assumption) | exact Q_lenR rfl iI iI | exact Q_lenM rfl iI iI | exact Q_conv32_8 rfl iI iI iI | exact Q_conv64 rfl iI iI iI | exact Q_conv32 rfl iI iI iI | exact Q_convS rfl iI rfl iI iI iI | exact Q_convSame rfl iI iI (by omega) | exact Q_convI8 rfl iI iI | exact Q_conv328 rfl iI iI | exact Q_conv8 rfl iI iI | exact Q_bytesS rfl iI iI rfl iI iI iI | exact Q_addS rfl rfl (by first | omega | (simp [be_length] <;> omega)) | exact Q_indexV rfl rfl iI iI iI (by first | assumption | omega) | exact Q_quoI rfl rfl (by omega) | exact Q_remI rfl rfl (by omega) | exact Q_negI rfl (by omega) | exact Q_mulI rfl rfl (by omega))
              | ((first | refine LS_binS rfl rfl iI rfl ?_ ?_ | refine LS_binN rfl rfl iI rfl ?_ ?_) <;> intro hc)
              | ((refine' LQ ?h rfl ?_); case h => intro F'; first | exact Q_bin rfl rfl iI)
              | ((refine' LS_h ?h rfl ?_); (case h => first | exact H_alloc iI | exact H_buildB iI iI iI rfl rfl rfl rfl rfl iI rfl rfl | exact H_buildSlice iI iI iI rfl rfl rfl rfl rfl | exact H_buildSlice0 iI iI | exact H_appendD rfl rfl iI iI rfl iI iI byteC_one (by first | omega | (simp [be_length] <;> omega)) rfl | exact H_appendB rfl rfl iI iI iI rfl rfl iI (by first | omega | (simp [be_length] <;> omega)) rfl | exact H_appendS rfl rfl iI rfl iI iI (by first | omega | (simp [be_length] <;> omega)) rfl | exact H_convS rfl iI rfl iI iI iI); intro g)
              | ((refine' LS_h0 ?h ?_); (case h => first | exact H_storeO rfl rfl iI iI iI rfl | exact H_storeAO rfl rfl iI iI iI rfl | exact H_store8 rfl rfl iI iI rfl iI (by first | assumption | omega | (simp [be_length] <;> omega)) | exact H_storeRA _ rfl rfl rfl iI iI iI rfl rfl (by first | assumption | omega | (simp [be_length] <;> omega)) | exact H_storeR _ rfl rfl iI iI iI rfl (by assumption) rfl | exact H_store rfl rfl iI (by first | rfl | assumption) iI rfl | exact H_storeA rfl rfl iI iI (by first | rfl | (simp only [List.all_cons, List.all_nil, *]; rfl)) rfl); intro g)
              | (first | refine WS_block ?_ | refine WS_skip ?_ | refine WS_ret ?_ | refine WS_exit ?_ | refine WS_label ?_)
              | (show WS _ _ _ (.cond _ _ _) _ _; first | refine WS_condT rfl iI ?_ | refine WS_condF rfl iI ?_ | refine WS_condH_t rfl (by assumption) ?_ | refine WS_condH_f rfl (by assumption) ?_ | (refine WS_cond rfl ?_ ?_ <;> intro hc <;> (try simp only [decide_eq_true_eq, decide_eq_false_iff_not, Bool.not_eq_eq_eq_not, Bool.not_true, Bool.not_false, Bool.and_eq_true, Bool.or_eq_true, bne_iff_ne, beq_iff_eq, ne_eq, Decidable.not_not] at hc) <;> (try (exfalso; first | contradiction | omega; done))))
              | (refine LS_h (H_callX iI rfl p5 iI) rfl ?_; rintro ⟨vr, ps⟩; refine LS_pureI iI fun hp => ?_; dsimp only))
            clear p5
            have hpl : ps.length ≤ 8 := by have hp' : ps.map (·.1) = listT s.ls := hp; have h1 := congrArg List.length hp'; rw [List.length_map] at h1; rw [h1]; exact Nat.le_trans (listT_length _) hs.ok.short
            refine WS_loop (fun k4 τ => ∃ (i : Nat), i + k4 = ps.length ∧ τ = ⟨[(20, .int .i64 (i : Int)), (19, vr)], [], rows 53 7 routeS vr ps * (X * G)⟩) ?_ ?_
            · exact ⟨ps.length, _, ⟨0, by omega, rfl⟩, ⟨rfl, rfl, trivial⟩, rfl, by ((try simp only [star_assoc, emp_star, star_emp]); (repeat' (first | exact Ent.last | refine Ent.take ?_ | refine Ent.nilT ?_ | refine Ent.takeR (by first | rfl | assumption | (simp; done)) ?_ | exact Ent.refl _)))⟩
            · rintro k4 τ ⟨i, hik, rfl⟩
              rcases Nat.lt_or_ge i ps.length with hlt4 | hge4
              · obtain ⟨⟨l', p'⟩, hz4⟩ : ∃ z, ps[i]? = some z := ⟨_, List.getElem?_eq_getElem hlt4⟩
                have hv : l'.valid = false := by
                  refine hs.inv l' (listT_mem (ls := s.ls) ?_)
                  have hp' : ps.map (·.1) = listT s.ls := hp
                  rw [← hp']
                  exact List.mem_map.2 ⟨(l', p'), List.mem_of_getElem? hz4, rfl⟩
                obtain ⟨ld, lq, lh, ln, lv, le, lb⟩ := l'
                simp only at hv
                subst hv
                repeat' (first
                  | (refine WS_seqK ?_; intro K hK)
                  | (refine hK _ ?_; clear hK K)
                  | (with_reducible (first | refine thenS_n ?_ | refine thenS_e ?_ | refine blockS_n ?_ | refine blockS_e ?_ | refine blockS_o rfl ?_ | refine thenS_r ?_ | refine blockS_r ?_ | refine use_K (by assumption) ?_))
                  | refine WS_region ?_
                  | refine LS_nil ?_
                  | (show LS _ _ _ _ _ (⟨_, _, _, _, _, some _⟩ :: _) _; first | refine LS_wantT rfl rfl iI rfl ?_ | refine LS_wantF rfl rfl iI rfl ?_ | refine LS_wantU rfl rfl rfl ?_ | ((first | refine LS_wantS rfl rfl rfl ?_ ?_ | refine LS_wantN rfl ?_ ?_) <;> intro hc <;> (try simp only [decide_eq_true_eq, decide_eq_false_iff_not, Bool.not_eq_eq_eq_not, Bool.not_true, Bool.not_false, Bool.and_eq_true, Bool.or_eq_true, bne_iff_ne, beq_iff_eq, ne_eq, Decidable.not_not] at hc) <;> (try (exfalso; first | contradiction | omega; done))))
                  | ((refine' LQ ?h rfl ?_); case h => intro F'; first | exact Q_move rfl | exact Q_assign rfl | exact Q_fieldAddr rfl iI rfl | exact Q_load rfl iI iI rfl | exact Q_bin_t rfl rfl iI (by first | assumption | omega | decide) | exact Q_bin_f rfl rfl iI (by first | assumption | omega | decide) | exact Q_bin_nt rfl rfl iI (by first | assumption | omega | decide) | exact Q_bin_nf rfl rfl iI (by first | assumption | omega | decide) | exact Q_addI rfl rfl (by omega) | exact Q_subI rfl rfl (by omega) | exact Q_extract rfl rfl | exact Q_pick_t rfl iI rfl | exact Q_pick_f rfl iI rfl | exact Q_pick rfl rfl rfl | exact Q_un rfl iI | exact Q_loadA rfl iI iI rfl | exact Q_build iI iI rfl rfl | exact Q_buildA iI iI iI rfl rfl | exact Q_len rfl iI | exact Q_lenS rfl iI | exact Q_index rfl rfl iI iI iI iI (by first | assumption | omega | (simp [be_length] <;> omega)) | exact Q_fieldR rfl iI iI rfl (by first | assumption | omega | (simp [be_length] <;> omega)) | exact Q_loadR rfl iI iI iI (by assumption) rfl | exact Q_loadR rfl iI iI iI rfl rfl | exact Q_loadRA rfl iI iI iI (by assumption) | exact Q_lenR rfl iI iI | exact Q_lenM rfl iI iI | exact Q_conv32_8 rfl iI iI iI | exact Q_conv64 rfl iI iI iI | exact Q_conv32 rfl iI iI iI | exact Q_convS rfl iI rfl iI iI iI | exact Q_convSame rfl iI iI (by omega) | exact Q_convI8 rfl iI iI | exact Q_conv328 rfl iI iI | exact Q_conv8 rfl iI iI | exact Q_bytesS rfl iI iI rfl iI iI iI | exact Q_addS rfl rfl (by first | omega | (simp [be_length] <;> omega)) | exact Q_indexV rfl rfl iI iI iI (by first | assumption | omega) | exact Q_quoI rfl rfl (by omega) | exact Q_remI rfl rfl (by omega) | exact Q_negI rfl (by omega) | exact Q_mulI rfl rfl (by omega))
                  | ((first | refine LS_binS rfl rfl iI rfl ?_ ?_ | refine LS_binN rfl rfl iI rfl ?_ ?_) <;> intro hc)
                  | ((refine' LQ ?h rfl ?_); case h => intro F'; first | exact Q_bin rfl rfl iI)
                  | ((refine' LS_h ?h rfl ?_); (case h => first | exact H_alloc iI | exact H_buildB iI iI iI rfl rfl rfl rfl rfl iI rfl rfl | exact H_buildSlice iI iI iI rfl rfl rfl rfl rfl | exact H_buildSlice0 iI iI | exact H_appendD rfl rfl iI iI rfl iI iI byteC_one (by first | omega | (simp [be_length] <;> omega)) rfl | exact H_appendB rfl rfl iI iI iI rfl rfl iI (by first | omega | (simp [be_length] <;> omega)) rfl | exact H_appendS rfl rfl iI rfl iI iI (by first | omega | (simp [be_length] <;> omega)) rfl | exact H_convS rfl iI rfl iI iI iI); intro g)
                  | ((refine' LS_h0 ?h ?_); (case h => first | exact H_storeO rfl rfl iI iI iI rfl | exact H_storeAO rfl rfl iI iI iI rfl | exact H_store8 rfl rfl iI iI rfl iI (by first | assumption | omega | (simp [be_length] <;> omega)) | exact H_storeRA _ rfl rfl rfl iI iI iI rfl rfl (by first | assumption | omega | (simp [be_length] <;> omega)) | exact H_storeR _ rfl rfl iI iI iI rfl (by assumption) rfl | exact H_store rfl rfl iI (by first | rfl | assumption) iI rfl | exact H_storeA rfl rfl iI iI (by first | rfl | (simp only [List.all_cons, List.all_nil, *]; rfl)) rfl); intro g)
                  | (first | refine WS_block ?_ | refine WS_skip ?_ | refine WS_ret ?_ | refine WS_exit ?_ | refine WS_label ?_)
                  | (show WS _ _ _ (.cond _ _ _) _ _; first | refine WS_condT rfl iI ?_ | refine WS_condF rfl iI ?_ | refine WS_condH_t rfl (by assumption) ?_ | refine WS_condH_f rfl (by assumption) ?_ | (refine WS_cond rfl ?_ ?_ <;> intro hc <;> (try simp only [decide_eq_true_eq, decide_eq_false_iff_not, Bool.not_eq_eq_eq_not, Bool.not_true, Bool.not_false, Bool.and_eq_true, Bool.or_eq_true, bne_iff_ne, beq_iff_eq, ne_eq, Decidable.not_not] at hc) <;> (try (exfalso; first | contradiction | omega; done)))))
                exact ⟨k4 - 1, _, by omega, ⟨i + 1, by omega, rfl⟩, ⟨rfl, rfl, trivial⟩, rfl, by ((try simp only [star_assoc, emp_star, star_emp]); (repeat' (first | exact Ent.last | refine Ent.take ?_ | refine Ent.nilT ?_ | refine Ent.takeR (by first | rfl | assumption | (simp; done)) ?_ | exact Ent.refl _)))⟩
              · obtain rfl : i = ps.length := by omega
                repeat' (first
                  | (refine WS_seqK ?_; intro K hK)
                  | (refine hK _ ?_; clear hK K)
                  | (with_reducible (first | refine thenS_n ?_ | refine thenS_e ?_ | refine blockS_n ?_ | refine blockS_e ?_ | refine blockS_o rfl ?_ | refine thenS_r ?_ | refine blockS_r ?_ | refine use_K (by assumption) ?_))
                  | refine WS_region ?_
                  | refine LS_nil ?_
                  | (show LS _ _ _ _ _ (⟨_, _, _, _, _, some _⟩ :: _) _; first | refine LS_wantT rfl rfl iI rfl ?_ | refine LS_wantF rfl rfl iI rfl ?_ | refine LS_wantU rfl rfl rfl ?_ | ((first | refine LS_wantS rfl rfl rfl ?_ ?_ | refine LS_wantN rfl ?_ ?_) <;> intro hc <;> (try simp only [decide_eq_true_eq, decide_eq_false_iff_not, Bool.not_eq_eq_eq_not, Bool.not_true, Bool.not_false, Bool.and_eq_true, Bool.or_eq_true, bne_iff_ne, beq_iff_eq, ne_eq, Decidable.not_not] at hc) <;> (try (exfalso; first | contradiction | omega; done))))
                  | ((refine' LQ ?h rfl ?_); case h => intro F'; first | exact Q_move rfl | exact Q_assign rfl | exact Q_fieldAddr rfl iI rfl | exact Q_load rfl iI iI rfl | exact Q_bin_t rfl rfl iI (by first | assumption | omega | decide) | exact Q_bin_f rfl rfl iI (by first | assumption | omega | decide) | exact Q_bin_nt rfl rfl iI (by first | assumption | omega | decide) | exact Q_bin_nf rfl rfl iI (by first | assumption | omega | decide) | exact Q_addI rfl rfl (by omega) | exact Q_subI rfl rfl (by omega) | exact Q_extract rfl rfl | exact Q_pick_t rfl iI rfl | exact Q_pick_f rfl iI rfl | exact Q_pick rfl rfl rfl | exact Q_un rfl iI | exact Q_loadA rfl iI iI rfl | exact Q_build iI iI rfl rfl | exact Q_buildA iI iI iI rfl rfl | exact Q_len rfl iI | exact Q_lenS rfl iI | exact Q_index rfl rfl iI iI iI iI (by first | assumption | omega | (simp [be_length] <;> omega)) | exact Q_fieldR rfl iI iI rfl (by first | assumption | omega | (simp [be_length] <;> omega)) | exact Q_loadR rfl iI iI iI (by assumption) rfl | exact Q_loadR rfl iI iI iI rfl rfl | exact Q_loadRA rfl iI iI iI (by assumption) | exact Q_lenR rfl iI iI | exact Q_lenM rfl iI iI | exact Q_conv32_8 rfl iI iI iI | exact Q_conv64 rfl iI iI iI | exact Q_conv32 rfl iI iI iI | exact Q_convS rfl iI rfl iI iI iI | exact Q_convSame rfl iI iI (by omega) | exact Q_convI8 rfl iI iI | exact Q_conv328 rfl iI iI | exact Q_conv8 rfl iI iI | exact Q_bytesS rfl iI iI rfl iI iI iI | exact Q_addS rfl rfl (by first | omega | (simp [be_length] <;> omega)) | exact Q_indexV rfl rfl iI iI iI (by first | assumption | omega) | exact Q_quoI rfl rfl (by omega) | exact Q_remI rfl rfl (by omega) | exact Q_negI rfl (by omega) | exact Q_mulI rfl rfl (by omega))
                  | ((first | refine LS_binS rfl rfl iI rfl ?_ ?_ | refine LS_binN rfl rfl iI rfl ?_ ?_) <;> intro hc)
                  | ((refine' LQ ?h rfl ?_); case h => intro F'; first | exact Q_bin rfl rfl iI)
                  | ((refine' LS_h ?h rfl ?_); (case h => first | exact H_alloc iI | exact H_buildB iI iI iI rfl rfl rfl rfl rfl iI rfl rfl | exact H_buildSlice iI iI iI rfl rfl rfl rfl rfl | exact H_buildSlice0 iI iI | exact H_appendD rfl rfl iI iI rfl iI iI byteC_one (by first | omega | (simp [be_length] <;> omega)) rfl | exact H_appendB rfl rfl iI iI iI rfl rfl iI (by first | omega | (simp [be_length] <;> omega)) rfl | exact H_appendS rfl rfl iI rfl iI iI (by first | omega | (simp [be_length] <;> omega)) rfl | exact H_convS rfl iI rfl iI iI iI); intro g)
                  | ((refine' LS_h0 ?h ?_); (case h => first | exact H_storeO rfl rfl iI iI iI rfl | exact H_storeAO rfl rfl iI iI iI rfl | exact H_store8 rfl rfl iI iI rfl iI (by first | assumption | omega | (simp [be_length] <;> omega)) | exact H_storeRA _ rfl rfl rfl iI iI iI rfl rfl (by first | assumption | omega | (simp [be_length] <;> omega)) | exact H_storeR _ rfl rfl iI iI iI rfl (by assumption) rfl | exact H_store rfl rfl iI (by first | rfl | assumption) iI rfl | exact H_storeA rfl rfl iI iI (by first | rfl | (simp only [List.all_cons, List.all_nil, *]; rfl)) rfl); intro g)
                  | (first | refine WS_block ?_ | refine WS_skip ?_ | refine WS_ret ?_ | refine WS_exit ?_ | refine WS_label ?_)
                  | (show WS _ _ _ (.cond _ _ _) _ _; first | refine WS_condT rfl iI ?_ | refine WS_condF rfl iI ?_ | refine WS_condH_t rfl (by assumption) ?_ | refine WS_condH_f rfl (by assumption) ?_ | (refine WS_cond rfl ?_ ?_ <;> intro hc <;> (try simp only [decide_eq_true_eq, decide_eq_false_iff_not, Bool.not_eq_eq_eq_not, Bool.not_true, Bool.not_false, Bool.and_eq_true, Bool.or_eq_true, bne_iff_ne, beq_iff_eq, ne_eq, Decidable.not_not] at hc) <;> (try (exfalso; first | contradiction | omega; done)))))
                exact ret_tmp (.inl rfl) rfl rfl ⟨(), rfl, by ((try simp only [star_assoc, emp_star, star_emp]); (repeat' (first | exact Ent.last | refine Ent.take ?_ | refine Ent.nilT ?_ | refine Ent.takeR (by first | rfl | assumption | (simp; done)) ?_ | exact Ent.refl _)))⟩
end Go.Proofs.YtapoehkdnglahabGreat

/- Proved: 'mesh/meshkeep.Quietly' returns true, whatever the input, and leaves it alone; there are no conditions. -/
namespace Go.Proofs.YtapoehkdnglahabGreat.quietly
open Go.ChangeShapes Go.WideShapes Go.ChangeAt Go.RowKit Go.Proofs.YtapoehkdnglahabGreat
set_option linter.unusedVariables false

theorem own : ownKnob Tryz.prog.godebug = none := by kernel_rfl
set_option maxRecDepth 100000 in
theorem lifted (os : Os) (started : os.Started) (H : Type) (enc : TypeId × Value → H) :
    ReturnsInHanded {} Tryz.checked os 3 .any (Rows.quietlySpec.pre6 enc Tryz.prog Tryz.f3 Rows.quietlyRow.domain false) (Rows.quietlySpec.post enc Tryz.prog Tryz.f3 false true false false) := by
  refine returnsInHanded_of_change (C := Tryz.checked) own started (by kernel_rfl) Tryz.func3
    (ChangeSpec.witness6 (enc := enc) (C := Tryz.checked) false ⟨#[], #[.slice none 0 0, .slice none 0 0, .int .u64 0], []⟩ 8 (by kernel_rfl) (by kernel_rfl) (by kernel_rfl) (by kernel_rfl)) ?_
  intro W base args ds gs before hval0 hW hcnd _
  have hval : ∀ (j : Nat) t v, Tryz.f3.params[j]? = some t → args[j]? = some v → Value.okWide Tryz.prog W .any base t v := hval0
  have hW' := hW
  obtain ⟨p, q, hA0, hV, rfl, hfz, hnd⟩ := hW
  have hA : DataW.TrodAll enc Tryz.prog W 0 (fun _ => true) true Tryz.f3.params.toList args.toList ds p := hA0
  rw [Tryz.params3] at hA hval
  clear hA0 hval0
  obtain ⟨v0, r0, d0, e0, p0, q0, hargs, rfl, rfl, h0, hA⟩ := trodAll_cons hA
  obtain ⟨v1, r1, d1, e1, p1, q1, rfl, rfl, rfl, h1, hA⟩ := trodAll_cons hA
  obtain ⟨v2, r2, d2, e2, p2, q2, rfl, rfl, rfl, h2, hA⟩ := trodAll_cons hA
  obtain ⟨rfl, rfl, rfl⟩ := trodAll_nil hA
  obtain rfl : args = #[v0, v1, v2] := by cases args; simp_all
  obtain ⟨rfl, rfl⟩ := trodVars_none hV
  simp only [List.append_nil] at hW'
  have hlt0 : ∀ x ∈ p0, x.block < W.heap.size := fun x hx => by simpa using hW'.lt x (by simp [hx])
  have hb0 : ∀ (W' : World), Below W.heap.size W W' → DataW.Trod enc Tryz.prog W' 0 (fun b => decide (b < W.heap.size)) true 22 v0 d0 p0 := fun W' hn => Below.trod laid (by kernel_rfl) (of_decide_eq_true (by kernel_rfl)) h0 hn hlt0
  have hlt1 : ∀ x ∈ p1, x.block < W.heap.size := fun x hx => by simpa using hW'.lt x (by simp [hx])
  have hb1 : ∀ (W' : World), Below W.heap.size W W' → DataW.Trod enc Tryz.prog W' 0 (fun b => decide (b < W.heap.size)) true 23 v1 d1 p1 := fun W' hn => Below.trod laid (by kernel_rfl) (of_decide_eq_true (by kernel_rfl)) h1 hn hlt1
  have hlt2 : ∀ x ∈ p2, x.block < W.heap.size := fun x hx => by simpa using hW'.lt x (by simp [hx])
  have hb2 : ∀ (W' : World), Below W.heap.size W W' → DataW.Trod enc Tryz.prog W' 0 (fun b => decide (b < W.heap.size)) true 24 v2 d2 p2 := fun W' hn => Below.trod laid (by kernel_rfl) (of_decide_eq_true (by kernel_rfl)) h2 hn hlt2
  have main : Calls Tryz.prog 3 #[v0, v1, v2] W fun e w' => e = .returned (.bool true) ∧ Below W.heap.size W w' := by
    obtain ⟨A, n0, c0, rfl⟩ := okWide_slice Tryz.underlying22 (hval 0 22 v0 rfl rfl)
    obtain ⟨l, hR, _⟩ := arg_slice (f := Rec.cells) (size := 3) (fun _ => rfl) (by decide) Tryz.underlying22 (by kernel_rfl) dec_record h0
    have hR' := hR.rdr
    obtain ⟨A1, n1, c1, rfl⟩ := okWide_slice Tryz.underlying23 (hval 1 23 v1 rfl rfl)
    obtain ⟨fs, hF, _⟩ := arg_slice (f := strCc) (size := 1) (fun _ => rfl) (by decide) Tryz.underlying23 (by kernel_rfl) (dec_str Tryz.underlying9) h1
    have hF' := hF.rdr
    obtain ⟨nw, rfl⟩ := okWide_int Tryz.underlying24 (hval 2 24 v2 rfl rfl)
    obtain ⟨x, hx, _⟩ := dec_arg (dec_u64 Tryz.underlying24) h2
    obtain rfl : nw = (x.toNat : Int) := by simpa [Value.cells, u64C, u64] using hx
    by_cases hb : 200 < l.length ∨ 4096 < fs.length
    · exact (quietly_big W l fs x _ _ (old W) hb).law
    · exact (quietly_walk W l fs (by omega) (by omega) x _ _ (old W)).law
  refine main.mono fun e W' ⟨he, hb⟩ => ?_
  subst he
  refine ⟨_, rfl, _, _, _, [], p0 ++ (p1 ++ (p2)), [], hW', ?_, ?_, rfl, hb.frame _, fun h => by cases h⟩
  · exact trodAll_mk1 (shut_bool Tryz.underlying4 _)
  · exact trodAll_cons_mk (hb0 _ hb) (trodAll_cons_mk (hb1 _ hb) (trodAll_mk1 (hb2 _ hb)))

theorem over : Rows.quietlyRow.holds Tryz.pinned (OpenSpec.ofChange Rows.quietlySpec) :=
  OpenClaim.holds_of_wide 3 Tryz.f3 rfl rfl rfl rfl rfl rfl rfl ⟨rfl, rfl, rfl, rfl, rfl⟩ rfl rfl rfl rfl rfl (by kernel_rfl) Tryz.func3 (by kernel_rfl)
    (of_decide_eq_true (by kernel_rfl)) (by unfold Func.isWrapper; first | (rw [if_pos (by decide +kernel)]; kernel_rfl) | (rw [if_neg (by decide +kernel)]; exact ⟨rfl, rfl⟩))
    (fun os started H enc _ => lifted os started H enc)

theorem proved : Rows.QuietlySaid := over
end Go.Proofs.YtapoehkdnglahabGreat.quietly

