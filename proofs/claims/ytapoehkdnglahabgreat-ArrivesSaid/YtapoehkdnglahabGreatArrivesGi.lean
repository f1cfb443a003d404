/- A part of what Arrives needs. -/
import Derived.Test.YtapoehkdnglahabGreatArrivesGh
set_option maxHeartbeats 16000000
set_option linter.unusedVariables false
set_option linter.unusedSimpArgs false
set_option linter.unusedSectionVars false
namespace Go.Proofs.YtapoehkdnglahabGreat
section
open Go.RowKit
set_option maxRecDepth 100000
noncomputable def par0 (f : Func) : Nat := f.params.toList.headD 0
noncomputable def muL : Go.Conc.Locks.MuLink := { lock := 62, unlock := 63, ilock := 113, iunlock := 114, lockSlow := 164, unlockSlow := 167, disable := 160, enable := 162, acquire := 163, relMerge := 165, cas32 := 161, add32 := 166, tMutex := 155, tIMutex := 153, tPMutex := par0 Tryz.f62, tPIMutex := par0 Tryz.f113, tPI32 := 261, tUP := 263, tNoCopy := 151, tU32 := 26 }
theorem muLib : Go.Conc.Locks.MuLib Tryz.prog muL := {
 f_lock := Tryz.func62.trans (congrArg some (by kernel_rfl)),
 f_unlock := Tryz.func63.trans (congrArg some (by kernel_rfl)),
 f_ilock := Tryz.func113.trans (congrArg some (by kernel_rfl)),
 f_iunlock := Tryz.func114.trans (congrArg some (by kernel_rfl)),
 f_disable := Tryz.func160.trans (congrArg some (by kernel_rfl)),
 f_enable := Tryz.func162.trans (congrArg some (by kernel_rfl)),
 f_acquire := Tryz.func163.trans (congrArg some (by kernel_rfl)),
 f_relMerge := Tryz.func165.trans (congrArg some (by kernel_rfl)),
 f_cas32 := Tryz.func161.trans (congrArg some (by kernel_rfl)),
 f_add32 := Tryz.func166.trans (congrArg some (by kernel_rfl)),
 underlying_tIMutex := by kernel_rfl,
 runUnderlying_tIMutex := fun w => by kernel_rfl,
 sizeOf_tIMutex := fun w => by kernel_rfl,
 isAgg_tIMutex := fun w => by kernel_rfl,
 zeroValue_tIMutex := fun w => by kernel_rfl,
 underlying_tMutex := by kernel_rfl,
 runUnderlying_tMutex := fun w => by kernel_rfl,
 sizeOf_tMutex := fun w => by kernel_rfl,
 isAgg_tMutex := fun w => by kernel_rfl,
 zeroValue_tMutex := fun w => by kernel_rfl,
 underlying_tPMutex := by kernel_rfl,
 runUnderlying_tPMutex := fun w => by kernel_rfl,
 sizeOf_tPMutex := fun w => by kernel_rfl,
 isAgg_tPMutex := fun w => by kernel_rfl,
 zeroValue_tPMutex := fun w => by kernel_rfl,
 underlying_tPIMutex := by kernel_rfl,
 runUnderlying_tPIMutex := fun w => by kernel_rfl,
 sizeOf_tPIMutex := fun w => by kernel_rfl,
 isAgg_tPIMutex := fun w => by kernel_rfl,
 zeroValue_tPIMutex := fun w => by kernel_rfl,
 underlying_tPI32 := by kernel_rfl,
 runUnderlying_tPI32 := fun w => by kernel_rfl,
 sizeOf_tPI32 := fun w => by kernel_rfl,
 isAgg_tPI32 := fun w => by kernel_rfl,
 zeroValue_tPI32 := fun w => by kernel_rfl,
 underlying_tUP := by kernel_rfl,
 runUnderlying_tUP := fun w => by kernel_rfl,
 sizeOf_tUP := fun w => by kernel_rfl,
 isAgg_tUP := fun w => by kernel_rfl,
 zeroValue_tUP := fun w => by kernel_rfl,
 underlying_tNoCopy := by kernel_rfl,
 runUnderlying_tNoCopy := fun w => by kernel_rfl,
 sizeOf_tNoCopy := fun w => by kernel_rfl,
 isAgg_tNoCopy := fun w => by kernel_rfl,
 zeroValue_tNoCopy := fun w => by kernel_rfl,
 underlying_t21 := by kernel_rfl,
 runUnderlying_t21 := fun w => by kernel_rfl,
 sizeOf_t21 := fun w => by kernel_rfl,
 isAgg_t21 := fun w => by kernel_rfl,
 zeroValue_t21 := fun w => by kernel_rfl,
 room_tIMutex := by kernel_rfl }
variable (w0 : World)
theorem lock_spec (g : Nat) (t : TypeId) (cs : List Value) : Spec Tryz.prog w0 62 [ptr g 0] (cel g t (.int .i32 0 :: cs)) (fun _ : Unit => .tuple #[]) (fun _ => cel g t (.int .i32 1 :: cs)) := by
 intro G w hs
 have hc : w.cell? ⟨g, 0, none⟩ = some (.int .i32 0) := by have := Sat.cell hs 0; simpa using this
 have hz : w.frozen? ⟨g, 0, none⟩ = false := Sat.frozen hs 0
 refine (Go.MuLone.lock_free (L := muL) muLib ⟨g, 0, none⟩ w hc hz).mono ?_
 rintro e w' ⟨rfl, rfl⟩
 refine ⟨(), rfl, ?_⟩
 have := Sat.set hs 0 (.int .i32 1)
 exact this.cast (by simp [cel])
theorem iunlock_spec (g : Nat) (t : TypeId) (cs : List Value) : Spec Tryz.prog w0 114 [ptr g 0] (cel g t (.int .i32 1 :: cs)) (fun _ : Unit => .tuple #[]) (fun _ => cel g t (.int .i32 0 :: cs)) := by
 intro G w hs
 have hc : w.cell? ⟨g, 0, none⟩ = some (.int .i32 1) := by have := Sat.cell hs 0; simpa using this
 have hz : w.frozen? ⟨g, 0, none⟩ = false := Sat.frozen hs 0
 refine (Go.MuLone.iunlock_held (L := muL) muLib ⟨g, 0, none⟩ w hc hz).mono ?_
 rintro e w' ⟨rfl, rfl⟩
 refine ⟨(), rfl, ?_⟩
 have := Sat.set hs 0 (.int .i32 0)
 exact this.cast (by simp [cel])
attribute [local irreducible] WS LS OpQ OpT OpH OpTQ Spec SpecQ cel
theorem unlock_D {u : FrameMode} {K : FrameMode → HProp → Prop} {g : Nat} {t : TypeId} {cs cs' : List Value} {H F : HProp} (hl : LimbB H g t cs' F) (hc : cs' = .int .i32 1 :: cs) (hk : K u (cel g t (.int .i32 0 :: cs) * F)) : DSpec Tryz.prog w0 63 [ptr g 0] u H K := by
  rw [hl.eq, hc]
  have p1 := iunlock_spec w0 g t cs
  refine DSpec.enter Tryz.func63 rfl Tryz.ntmps63 rfl ?_
  simp only [argE]
  repeat' (first | refine stZ ?_ | refine sqZ ?_ | (refine LS_h (H_callX iI rfl p1 iI) rfl ?_; intro g))
  exact ret_none (.inr rfl) rfl hk
end

section
open Go.RowKit
theorem TabOk.set {ls : List Ln} (h : TabOk ls) {i : Nat} {l x : Ln} (hl : ls[i]? = some l) (hd : x.dest = l.dest) (h1 : 0 ≤ x.hops ∧ x.hops ≤ 1000) (h2 : x.before.length ≤ 4) : TabOk (ls.set i x) := by
 obtain ⟨hlt, he⟩ := List.getElem?_eq_some_iff.1 hl
 have e : dests (ls.set i x) = dests ls := by
  unfold dests
  rw [List.map_set, hd, ← he]
  apply List.ext_getElem?
  intro k
  rw [List.getElem?_set]
  split
  ·rename_i hk; subst hk; simp [hlt]
  ·rfl
 refine ⟨by rw [e]; exact h.nodup, by simp; exact h.short, fun y hy => ?_, fun y hy => ?_⟩
 ·rcases List.mem_or_eq_of_mem_set hy with hy | rfl
  ·exact h.hops y hy
  ·exact h1
 ·rcases List.mem_or_eq_of_mem_set hy with hy | rfl
  ·exact h.before y hy
  ·exact h2
theorem TabOk.mod {ls : List Ln} (h : TabOk ls) (d : UInt32) (f : Ln → Ln) (hd : ∀ l ∈ ls, (f l).dest = l.dest) (h1 : ∀ l ∈ ls, 0 ≤ (f l).hops ∧ (f l).hops ≤ 1000) (h2 : ∀ l ∈ ls, (f l).before.length ≤ 4) : TabOk (lmod ls d f) := by
 cases hf : lfind ls d with
 | none => rw [lmod, hf]; exact h
 | some i =>
  obtain ⟨l, hl, _⟩ := lfind_some hf
  rw [lmod_some hf hl]
  have hm := List.mem_of_getElem? hl
  exact h.set hl (hd l hm) (h1 l hm) (h2 l hm)
theorem TabOk.map {ls : List Ln} (h : TabOk ls) (f : Ln → Ln) (hd : ∀ l ∈ ls, (f l).dest = l.dest) (h1 : ∀ l ∈ ls, 0 ≤ (f l).hops ∧ (f l).hops ≤ 1000) (h2 : ∀ l ∈ ls, (f l).before.length ≤ 4) : TabOk (ls.map f) := by
 have e : dests (ls.map f) = dests ls := by
  unfold dests
  rw [List.map_map]
  exact List.map_congr_left hd
 refine ⟨by rw [e]; exact h.nodup, by simp; exact h.short, fun y hy => ?_, fun y hy => ?_⟩
 all_goals
  obtain ⟨l, hl, rfl⟩ := List.mem_map.1 hy
  first | exact h1 l hl | exact h2 l hl
theorem TabOk.exp {ls : List Ln} (h : TabOk ls) (now : UInt64) : TabOk (expT now ls) := by
 refine h.map _ (fun l hl => ?_) (fun l hl => ?_) (fun l hl => ?_)
 all_goals
  have h1 := h.hops l hl
  have h2 := h.before l hl
  unfold Ln.exp
  split <;> simp_all [Ln.ended]
theorem TabOk.brk {ls : List Ln} (h : TabOk ls) (nb : UInt32) : TabOk (brkT nb ls) := by
 refine h.map _ (fun l hl => ?_) (fun l hl => ?_) (fun l hl => ?_)
 all_goals
  have h1 := h.hops l hl
  have h2 := h.before l hl
  unfold Ln.brk
  split <;> simp_all [Ln.ended]
theorem TabOk.use {ls : List Ln} (h : TabOk ls) (d : UInt32) (e : UInt64) : TabOk (useT ls d e) := by
 refine h.mod _ _ (fun l hl => ?_) (fun l hl => ?_) (fun l hl => ?_)
 all_goals
  have h1 := h.hops l hl
  have h2 := h.before l hl
  split <;> simp_all
theorem TabOk.bump {ls : List Ln} (h : TabOk ls) (d : UInt32) : TabOk (bumpT ls d) := by
 refine h.mod _ _ (fun l hl => ?_) (fun l hl => ?_) (fun l hl => ?_)
 all_goals
  have h1 := h.hops l hl
  have h2 := h.before l hl
  simp_all
theorem TabOk.lose {ls : List Ln} (h : TabOk ls) (src d s : UInt32) : TabOk (loseT ls src d s) := by
 refine h.mod _ _ (fun l hl => ?_) (fun l hl => ?_) (fun l hl => ?_)
 all_goals
  have h1 := h.hops l hl
  have h2 := h.before l hl
  split <;> simp_all [Ln.ended]
theorem setB_length (bs : List UInt32) (n : UInt32) : (setB bs n).length ≤ bs.length + 1 := by
 unfold setB mset
 split <;> simp
theorem TabOk.bef {ls : List Ln} (h : TabOk ls) (d nb : UInt32) : TabOk (befT ls d nb) := by
 refine h.mod _ _ (fun l hl => ?_) (fun l hl => ?_) (fun l hl => ?_)
 all_goals
  have h1 := h.hops l hl
  have h2 := h.before l hl
  have h3 := setB_length l.before nb
  split <;> simp_all
 omega
theorem lfind_notin {d : UInt32} {ls : List Ln} (h : lfind ls d = none) : d ∉ dests ls := by
 intro hm
 obtain ⟨l, hl, e⟩ := List.mem_map.1 hm
 exact lfind_none.1 h l hl e
theorem TabOk.put {ls : List Ln} (h : TabOk ls) (x : Ln) (hs : lfind ls x.dest = none → ls.length < 8) (h1 : 0 ≤ x.hops ∧ x.hops ≤ 1000) (h2 : x.before.length ≤ 4) : TabOk (putT ls x) := by
 unfold putT
 cases hf : lfind ls x.dest with
 | some i =>
  obtain ⟨l, hl, hd⟩ := lfind_some hf
  exact h.set hl hd.symm h1 h2
 | none =>
  have hn := lfind_notin hf
  have hlt := hs hf
  refine ⟨?_, by simp; omega, fun y hy => ?_, fun y hy => ?_⟩
  ·have e : dests (ls ++ [x]) = dests ls ++ [x.dest] := by simp [dests]
   rw [e]
   exact List.nodup_append.2 ⟨h.nodup, by simp, fun a ha b hb => by simp at hb; subst hb; exact fun e => hn (e ▸ ha)⟩
  all_goals
   rcases List.mem_append.1 hy with hy | hy
   ·first | exact h.hops y hy | exact h.before y hy
   ·simp at hy; subst hy; first | exact h1 | exact h2
theorem TabOk.upd {ls : List Ln} (h : TabOk ls) (self : UInt32) (x : Ln) (h1 : 0 ≤ x.hops ∧ x.hops ≤ 1000) : TabOk (updT self ls x).2 := by
 unfold updT
 split
 ·exact h
 ·cases hg : lget ls x.dest with
  | some l =>
   dsimp only
   split
   ·exact h
   ·refine h.put _ (fun hf => ?_) h1 (by simp)
    simp only at hf
    rw [lget_none hf] at hg
    cases hg
  | none =>
   dsimp only
   split
   ·exact h
   ·exact h.put _ (fun _ => by omega) h1 (by simp)
theorem TabOk.nil : TabOk [] := ⟨by simp [dests], by simp, by simp, by simp⟩
theorem TabOk.new (self : UInt32) (c : List Rec) : TabOk (newT self c) := by
 induction c using snocInd with
 | nil => exact TabOk.nil
 | snoc c r ih =>
  rw [newT_snoc]
  unfold newStep
  split
  ·rename_i hc
   exact ih.put _ (fun _ => hc.2.2) (by simp [Rec.ln]) (by simp [Rec.ln])
  ·exact ih
end

section
open Go.RowKit
section
variable {P : Program} {n : Frm} {w0 : World} {E : Env} {D : List Deferred} {H F : HProp} {ops : Array Oper} {l' : List Oper} {Q : Exit → St → Prop} {d : Option Tmp} {ty : TypeId} {pos : String} {after : Array Edge} {gu : Option (Tmp × Bool)}
theorem H_callVX {t : Tmp} {f : FuncId} {args caps : List Value} {α : Type} {X : HProp} {res : α → Value} {post : α → HProp} {xs : List Operand} {ts : Array TypeId} (hf : IsFun P f) (ht : E.get t = some (.func (.func f) #[] caps.toArray)) (hargs : E.evs xs = some args) (spec : Spec P w0 f (args ++ caps) X res post) (hl : Own H X F) :
  OpH P n w0 ⟨d, .call ⟨.value (.tmp t), xs.toArray, ts⟩, ty, pos, after, gu⟩ E H res (fun x => post x * F) := OpH.mk' (T_callV hf ht hargs spec) hl.eq
end
def nodI (g : Nat) (s : Nd) : HProp := hex fun p : NH × OutD => cel g 159 (nodC 0 s p.1 p.2) * (rows 28 3 Rec.cells p.1.vr s.recs * (mp u32 u32 p.1.rh s.held * (tabQ p.1.tb s.self s.ls * restP g s p.1)))
theorem WS_nodI {P : Program} {n : Frm} {w0 : World} {E : Env} {D : List Deferred} {F : HProp} {c : Code} {Q : Exit → St → Prop} {g : Nat} {s : Nd} (h : ∀ (h : NH) (o : OutD), WS P n w0 c Q ⟨E, D, (cel g 159 (nodC 0 s h o) * (rows 28 3 Rec.cells h.vr s.recs * (mp u32 u32 h.rh s.held * (tabQ h.tb s.self s.ls * restP g s h)))) * F⟩) : WS P n w0 c Q ⟨E, D, nodI g s * F⟩ := by
 unfold nodI
 exact WS_hex fun p => h p.1 p.2
theorem ent_nodI {g : Nat} {s : Nd} {H F : HProp} (h : NH) (o : OutD) (e : Ent H ((cel g 159 (nodC 0 s h o) * (rows 28 3 Rec.cells h.vr s.recs * (mp u32 u32 h.rh s.held * (tabQ h.tb s.self s.ls * restP g s h)))) * F)) : Ent H (nodI g s * F) := Ent.hexI (p := fun p : NH × OutD => cel g 159 (nodC 0 s p.1 p.2) * (rows 28 3 Rec.cells p.1.vr s.recs * (mp u32 u32 p.1.rh s.held * (tabQ p.1.tb s.self s.ls * restP g s p.1)))) (h, o) e
def outA (o : OutD) (v : Value × Value × Value) : Value := .agg #[strV o.journal, .bool o.replace, v.1, v.2.1, v.2.2]
def outR (o : OutD) (v : Value × Value × Value) : HProp := rows 48 2 txtC v.1 o.frames * (rows 70 2 txtC v.2.1 o.came * rows 166 1 intC v.2.2 o.dropped)
theorem Nd.noteL_recs (s : Nd) (l : Ln) : (s.noteL l).recs.length ≤ s.recs.length + 1 := by
  unfold Nd.noteL
  (repeat' split) <;> simp [Nd.write]
theorem Nd.noteO_recs (s : Nd) : s.noteO.recs.length ≤ s.recs.length + 1 := by
 unfold Nd.noteO
 split <;> simp [Nd.write]
theorem Nd.noteLs_recs (L : List Ln) : ∀ s : Nd, (L.foldl Nd.noteL s).recs.length ≤ s.recs.length + L.length := by
 induction L with
 | nil => intro s; simp
 | cons l L ih => intro s; have h1 := ih (s.noteL l); have h2 := s.noteL_recs l; simp only [List.foldl_cons, List.length_cons]; omega
theorem Nd.note_recs (s : Nd) (ok : TabOk s.ls) : s.note.recs.length ≤ s.recs.length + 9 := by
 have h1 := Nd.noteLs_recs (listT s.ls) s.noteO
 have h2 := s.noteO_recs
 have h3 := listT_length s.ls
 have h4 := ok.short
 unfold Nd.note
 omega
attribute [local irreducible] WS LS OpQ OpT OpH OpTQ Spec SpecQ cel
variable (w0 : World)
set_option maxRecDepth 100000 in
theorem does_spec {β : Type} (gn : Nat) (s s2 : Nd) (now : UInt64) (hr : s.recs.length ≤ 400000) (ok : TabOk s.ls) (hr2 : s2.recs.length ≤ 9000) (hj2 : s2.out.journal.length ≤ 800000) (ok2 : TabOk s2.ls) (fc : FuncId) (caps : List Value) (X : HProp) (Y : β → HProp) [hf : IsFun Tryz.prog fc]
    (hcl : Spec Tryz.prog w0 fc caps (nodA gn (s.begin now) * X) (fun _ : β => .tuple #[]) (fun y => nodA gn s2 * Y y)) :
    Spec Tryz.prog w0 64 [ptr gn 0, u64 now, .func (.func fc) #[] caps.toArray] (nodI gn s * X) (fun x : (Value × Value × Value) × β => outA s2.done.out x.1) (fun x => nodI gn s2.done * (outR s2.done.out x.1 * Y x.2)) := by
  refine Spec.enterM Tryz.func64 rfl Tryz.ntmps64 rfl fun G => ?_
  rw [star_assoc]
  refine WS_nodI fun h o => ?_
  simp only [argE, nodC]
  have p1 := lock_spec w0 gn 159 (nodC 0 s h o).tail
  have p2 := expire_spec w0 h.tb s.self s.ls ok now
  simp only [nodC, List.tail_cons] at p1
  repeat' (first | (refine WS_seqK ?_; intro K hK) | (refine hK _ ?_; clear hK K) | refine stZ ?_ | refine sqZ ?_ | (refine s0Z ?_; intro g) | (refine LS_h (H_alloc iI) rfl ?_; intro go) | (refine LS_h (H_callX iI rfl p1 iI) rfl ?_; intro u1) | (refine LS_h (H_callX iI rfl p2 iI) rfl ?_; intro u2) | refine LS_defer rfl rfl rfl ?_)
  simp only [Env.putO]
  obtain ⟨h1, hh1⟩ : ∃ h1 : NH, h1 = { h with vf := .slice none 0 0, vc := .slice none 0 0, vd := .slice none 0 0 } := ⟨_, rfl⟩
  obtain ⟨s1, hs1⟩ : ∃ s1 : Nd, s1 = { s with now := now, out := OutD.zero, ls := expT now s.ls } := ⟨_, rfl⟩
  have eb : s.begin now = s1.note := by rw [hs1]; rfl
  have p3 := note_spec w0 1 gn s1 h1 (by rw [hs1]; unfold Nd.Room; simp only [OutD.zero, List.length_nil]; omega) (by rw [hs1]; exact ok.exp now)
  have er : restP gn s h = restP gn s1 h1 := by rw [hs1, hh1]; rfl
  refine LS_ent (Ent.nil _ 48 2 txtC none) ?_
  refine LS_ent (Ent.nil _ 70 2 txtC none) ?_
  refine LS_ent (Ent.nil _ 166 1 intC none) ?_
  refine LS_ent (H' := nodP gn s1 h1 * (cel go 35 [strV [], .bool false, .slice none 0 0, .slice none 0 0, .slice none 0 0] * (X * G))) (by rw [er]; rw [hs1, hh1]; simp only [nodP, nodPm, nodC, outH, OutD.zero]; exact finE) ?_
  clear er
  repeat' (first | (refine WS_seqK ?_; intro K hK) | (refine hK _ ?_; clear hK K) | refine stZ ?_ | refine sqZ ?_ | (refine LS_h (H_callX iI rfl p3 iI) rfl ?_; intro v3))
  refine LS_ent (Ent.nod (g := gn) (s := s1.note) (F := X * (cel go 35 [strV [], .bool false, .slice none 0 0, .slice none 0 0, .slice none 0 0] * G)) { h1 with vr := v3 } (finE)) ?_
  rw [← eb]
  repeat' (first | (refine WS_seqK ?_; intro K hK) | (refine hK _ ?_; clear hK K) | refine stZ ?_ | refine sqZ ?_ | (refine LS_h (H_callVX hf rfl rfl hcl iI) rfl ?_; intro y))
  rw [star_assoc]
  refine LS_nod fun h2 => ?_
  have p4 := note_spec w0 1 gn s2 h2 ⟨by omega, by omega⟩ ok2
  have hn2 := Nd.note_recs s2 ok2
  have hcl := compR_length s2.note.recs
  simp only [nodP, nodPm, outH] at p4 ⊢
  simp only [nodC] at p4 ⊢
  by_cases hm : 24 < s2.note.recs.length
  · have p5 := fun v => wcompact_spec w0 s2.note.recs (by omega) v (rows 28 3 Rec.cells v s2.note.recs)
    have p6 := fun v => wrecords_spec w0 (compR s2.note.recs) (by omega) v (rows 28 3 Rec.cells v (compR s2.note.recs))
    have hd : s2.done = { s2.note with recs := compR s2.note.recs, out := { s2.note.out with journal := recsB (compR s2.note.recs), replace := true } } := by unfold Nd.done; rw [if_pos hm]
    repeat' (first | (refine WS_seqK ?_; intro K hK) | (refine hK _ ?_; clear hK K) | refine stZ ?_ | (refine s2Z ?_ ?_ <;> intro hc <;> (try simp only [cS] at hc) <;> (try (exfalso; first | contradiction | omega))) | refine sbZ ?_ | refine sqZ ?_ | ((refine' LQ ?zh rfl ?_); case zh => intro F'; exact Q_convS rfl iI rfl iI iI iI) | (refine s0Z ?_; intro g) | (refine LS_h (H_callX iI rfl p4 iI) rfl ?_; intro v4) | (refine LS_h (H_callX iI rfl (p5 _) iI) rfl ?_; intro vc) | (refine LS_h (H_callX iI rfl (p6 _) iI) rfl ?_; intro vb))
    refine out_r (lv_call (u := .returning) (caps := []) (args := [ptr gn 0]) (by simp) iI ?_)
    refine unlock_D w0 iI rfl ?_
    refine lv_ret1 rfl (RV_cell rfl iI iI rfl) ⟨((h2.vf, h2.vc, h2.vd), y), by rw [hd]; rfl, ?_⟩
    rw [hd]
    unfold outR
    rw [star_assoc (nodI _ _)]
    refine ent_nodI { h2 with vr := vc } { s2.note.out with journal := recsB (compR s2.note.recs), replace := true } ?_
    have er : restP gn { s2.note with recs := compR s2.note.recs, out := { s2.note.out with journal := recsB (compR s2.note.recs), replace := true } } { h2 with vr := vc } = restP gn s2.note { h2 with vr := v4 } := rfl
    dsimp only
    rw [er]
    simp only [nodC]
    exact finE
  · have hd : s2.done = s2.note := by unfold Nd.done; rw [if_neg hm]
    repeat' (first | (refine WS_seqK ?_; intro K hK) | (refine hK _ ?_; clear hK K) | refine stZ ?_ | (refine s2Z ?_ ?_ <;> intro hc <;> (try simp only [cS] at hc) <;> (try (exfalso; first | contradiction | omega))) | refine sbZ ?_ | refine sqZ ?_ | (refine s0Z ?_; intro g) | (refine LS_h (H_callX iI rfl p4 iI) rfl ?_; intro v4))
    refine out_r (lv_call (u := .returning) (caps := []) (args := [ptr gn 0]) (by simp) iI ?_)
    refine unlock_D w0 iI rfl ?_
    refine lv_ret1 rfl (RV_cell rfl iI iI rfl) ⟨((h2.vf, h2.vc, h2.vd), y), by rw [hd]; rfl, ?_⟩
    rw [hd]
    unfold outR
    rw [star_assoc (nodI _ _)]
    refine ent_nodI { h2 with vr := v4 } s2.note.out ?_
    simp only [nodC]
    exact finE
end

section
open Go.RowKit
def maxOwn (l : List Rec) : UInt32 := l.foldl (fun m r => if r.own then max m r.seq else m) 0
theorem maxOwn_snoc (l : List Rec) (r : Rec) : maxOwn (l ++ [r]) = if r.own then max (maxOwn l) r.seq else maxOwn l := by simp [maxOwn]
def Nd.blank (self : UInt32) : Nd := ⟨self, 1, [], [], 0, [], 0, [], [], [], [], [], 0, 0, 0, 0, [], 0, OutD.zero⟩
def Nd.booted (self : UInt32) (b : List UInt8) (now : UInt64) : Nd := if 0 < b.length then { Nd.blank self with seq := growS (maxOwn (readJ b)), ls := newT self (compR (readJ b)), silent := now + 2000 } else Nd.blank self
def Nd.new (self : UInt32) (b : List UInt8) (now : UInt64) : Nd := ((Nd.booted self b now).write ⟨true, 0, (Nd.booted self b now).seq⟩).note
def Nd.newO (self : UInt32) (b : List UInt8) (now : UInt64) : OutD := { (Nd.new self b now).out with replace := decide (0 < b.length) }
theorem Nd.booted_ok (self : UInt32) (b : List UInt8) (now : UInt64) : TabOk (Nd.booted self b now).ls := by
 unfold Nd.booted
 split
 ·exact TabOk.new _ _
 ·exact TabOk.nil
theorem mp_nil {κ ν κ' ν' : Type} (fk : κ → Value) (fv : ν → Value) (fk' : κ' → Value) (fv' : ν' → Value) (r : Nat) : mp fk fv r [] = mp fk' fv' r [] := rfl
theorem node0 {H F : HProp} (gn tb r0 r1 r2 r3 r4 : Nat) (cb : Nat × Nat) (self q : UInt32) (ls : List Ln) (si : UInt64)
  (e : Ent H (cel gn 159 [.int .i32 0, u32 0, u32 self, u32 q, ptr tb 0, .slice none 0 0, u32 0, .map (some r0), u64 si, .map (some r1), .slice none 0 0, .map (some r2), .map (some r3), .map (some r4), ptr cb.1 0, .int .i64 0, u32 0, u32 0, .slice none 0 0, u64 0, strV [], .bool false, .slice none 0 0, .slice none 0 0, .slice none 0 0] * (rows 28 3 Rec.cells (.slice none 0 0) [] * (mp u32 u32 r0 [] * (mp u32 u32 r1 [] * (mp u32 u32 r2 [] * (mp u32 u32 r3 [] * (mp u32 u32 r4 [] * (tabQ tb self ls * (heapQ cb.1 cb.2 0 [] * F)))))))))) :
  Ent H (nodPm 0 gn { Nd.blank self with seq := q, ls := ls, silent := si } ⟨tb, .slice none 0 0, r0, r1, .slice none 0 0, r2, r3, r4, cb.1, cb.2, .slice none 0 0, .slice none 0 0, .slice none 0 0, .slice none 0 0, [], []⟩ * F) := by
 have a : ∀ Z, Ent (mp u32 u32 r2 [] * Z) (waitQ r2 [] [] * Z) := fun Z => by
  unfold waitQ
  rw [star_assoc]; refine Ent.pureI rfl ?_; rw [mp_nil u32 u32 u32 slV' r2]; simp only [wmap, List.zipWith_nil_left, textsP, star_emp]; exact Ent.refl _
 have b : ∀ Z, Ent (heapQ cb.1 cb.2 0 [] * Z) (clockQ cb.1 cb.2 0 [] * Z) := fun Z => Ent.hexI (p := fun l : List Tm => pure' (TR l [] 0) * heapQ cb.1 cb.2 0 l) [] (by rw [star_assoc]; exact Ent.pureI TR.nil (Ent.refl _))
 refine (e.trans (Ent.tail _ (Ent.tail _ (Ent.tail _ (Ent.tail _ ((a _).trans (Ent.tail _ (Ent.tail _ (Ent.tail _ (Ent.tail _ (b _))))))))))).trans ?_
 rw [mp_nil u32 u32 rqV u64 r1, mp_nil u32 u32 u32 ptrV r3, mp_nil u32 u32 i64 ptrV r4]
 unfold nodPm nodC outH restP restC srsQ
 have ep : (pure' (([] : List Nat).length = ([] : List Sr).length)) = emp := pure'_true (φ := ([] : List Nat).length = ([] : List Sr).length) rfl
 simp only [Nd.blank, OutD.zero, srsP, qmap, imap, List.zipWith_nil_left, emp_star, ep]
 refine (Ent.nil _ 48 2 txtC none).trans ?_
 refine (Ent.nil _ 70 2 txtC none).trans ?_
 refine (Ent.nil _ 166 1 intC none).trans ?_
 refine (Ent.nil _ 269 2 rqC none).trans ?_
 refine (Ent.nil _ 24 1 wrd64C none).trans ?_
 have ez : (Value.int .u32 0 : Value) = u32 0 := rfl
 rw [ez]
 exact finE
attribute [local irreducible] WS LS OpQ OpT OpH OpTQ Spec SpecQ cel
variable (w0 : World)
set_option maxRecDepth 100000 in
theorem nnew_spec (self : UInt32) (b : List UInt8) (hb : b.length ≤ 1000000) (now : UInt64) (v : Value) (X : HProp) [hX : Rdr w0 X v UInt8 1 byteC b] :
    Spec Tryz.prog w0 32 [u32 self, v, u64 now] X (fun x : Nat × (Value × Value × Value) => .tuple #[ptr x.1 0, outA (Nd.newO self b now) x.2]) (fun x => nodI x.1 (Nd.new self b now) * (outR (Nd.newO self b now) x.2 * X)) := by
  have p1 := newT_spec w0 self [] (by simp) (.slice none 0 0) (rows 28 3 Rec.cells (.slice none 0 0) [])
  have e1 : newT self (compR []) = [] := by rw [show compR [] = [] from List.length_eq_zero_iff.1 (Nat.le_zero.1 (compR_length []))]; rfl
  rw [e1] at p1
  have p2 := hnew_spec w0
  have p3 := wread_spec w0 b hb v X
  refine Spec.enter Tryz.func32 rfl Tryz.ntmps32 rfl fun G => ?_
  simp only [argE]
  refine WS_ent (Ent.nil _ 28 3 Rec.cells none) ?_
  by_cases hb0 : 0 < b.length
  · repeat' (first | (refine WS_seqK ?_; intro K hK) | (refine hK _ ?_; clear hK K) | refine stZ ?_ | (refine s2Z ?_ ?_ <;> intro hc <;> (try simp only [cS] at hc) <;> (try (exfalso; first | contradiction | omega))) | refine sbZ ?_ | refine sqZ ?_ | (refine s0Z ?_; intro g) | (refine LS_h (H_alloc iI) rfl ?_; intro g0) | (refine LS_h (H_box rfl) rfl ?_; intro gn) | (refine LS_h (H_callX iI rfl p1 iI) rfl ?_; intro tb) | (refine LS_h (H_call0 iI rfl p2) rfl ?_; intro cb) | (refine LS_h (H_makeMap u32 u32 (d := some 18)) rfl ?_; intro r0) | (refine LS_h (H_makeMap u32 u32 (d := some 20)) rfl ?_; intro r1) | (refine LS_h (H_makeMap u32 u32 (d := some 21)) rfl ?_; intro r2) | (refine LS_h (H_makeMap u32 u32 (d := some 22)) rfl ?_; intro r3) | (refine LS_h (H_makeMap u32 u32 (d := some 23)) rfl ?_; intro r4) | (refine LS_h (H_callX iI rfl p3 iI) rfl ?_; intro vl))
    have hl := readJ_length b
    generalize hj : readJ b = l at *
    have p4 := newT_spec w0 self l (by omega) vl (rows 28 3 Rec.cells vl l)
    have p5 := grow_spec w0 (maxOwn l)
    obtain ⟨R, hR⟩ : ∃ R : HProp, R = X * (heapQ cb.1 cb.2 0 [] * (mp u32 u32 r4 [] * (mp u32 u32 r3 [] * (mp u32 u32 r2 [] * (mp u32 u32 r1 [] * (mp u32 u32 r0 [] * (tabQ tb self [] * (rows 28 3 Rec.cells (.slice none 0 0) [] * (cel g0 35 [strV [], .bool false, .slice none 0 0, .slice none 0 0, .slice none 0 0] * G))))))))) := ⟨_, rfl⟩
    refine WS_loop (fun k τ => ∃ j : Nat, j + k = l.length ∧ τ = ⟨[(41, .int .i64 (j : Int)), (40, .int .i64 (l.length : Int)), (39, vl), (10, vl), (9, .bool true), (8, ptr gn 0), (7, ptr g0 0), (0, u32 self), (0 + 1 + 1, u64 now)], [], cel gn 159 [.int .i32 0, u32 0, u32 self, u32 (maxOwn (l.take j)), ptr tb 0, .slice none 0 0, u32 0, .map (some r0), u64 0, .map (some r1), .slice none 0 0, .map (some r2), .map (some r3), .map (some r4), ptr cb.1 0, .int .i64 0, u32 0, u32 0, .slice none 0 0, u64 0, strV [], .bool false, .slice none 0 0, .slice none 0 0, .slice none 0 0] * (rows 28 3 Rec.cells vl l * R)⟩) ?_ ?_
    · exact ⟨l.length, _, ⟨0, by omega, rfl⟩, ⟨rfl, rfl, rfl, rfl, rfl, rfl, rfl, rfl, rfl, trivial⟩, rfl, by rw [hR]; have ez : (Value.int .u32 0 : Value) = u32 0 := rfl; simp only [List.take_zero, maxOwn, List.foldl_nil, ez]; exact finE⟩
    · rintro k τ ⟨j, hjk, rfl⟩
      rcases Nat.lt_or_ge j l.length with hlt | hge
      · obtain ⟨⟨zo, za, zs⟩, hz⟩ : ∃ z, l[j]? = some z := ⟨_, List.getElem?_eq_getElem hlt⟩
        have htk : maxOwn (l.take (j + 1)) = if zo then max (maxOwn (l.take j)) zs else maxOwn (l.take j) := by rw [List.take_add_one, hz, Option.toList_some, maxOwn_snoc]
        generalize maxOwn (l.take j) = m at *
        cases zo
        · repeat' (first | (refine WS_seqK ?_; intro K hK) | (refine hK _ ?_; clear hK K) | refine stZ ?_ | (refine s2Z ?_ ?_ <;> intro hc <;> (try simp only [cS] at hc) <;> (try (exfalso; first | contradiction | omega))) | refine sbZ ?_ | refine sqZ ?_ | (refine shZ ?_; intro g) | ((refine' LS_h0 ?zh ?_); (case zh => exact H_storeA rfl rfl iI iI (by first | rfl | (simp only [List.all_cons, List.all_nil, *]; rfl)) rfl); intro g))
          exact ⟨k - 1, _, by omega, ⟨j + 1, by omega, rfl⟩, ⟨rfl, rfl, rfl, rfl, rfl, rfl, rfl, rfl, rfl, trivial⟩, rfl, by rw [htk]; simp only [Bool.false_eq_true, if_false]; exact finE⟩
        · repeat' (first | (show WS _ _ _ (.region 10 _ true) _ _; first | refine WS_drawK (.range 11) 10 [4, 6, 7] (by decide +kernel) rfl ?_ | refine WS_drawN 8 13 (.range 11) 10 [4] (by decide +kernel) rfl rfl rfl iI iI ?_) | (refine WS_seqK ?_; intro K hK) | (refine hK _ ?_; clear hK K) | refine stZ ?_ | (refine s2Z ?_ ?_ <;> intro hc <;> (try simp only [cS] at hc) <;> (try (exfalso; first | contradiction | omega))) | refine sbZ ?_ | refine sqZ ?_ | (refine shZ ?_; intro g) | (refine s0Z ?_; intro g) | ((first | refine' LS_h0 ?zh ?_ | refine' DL_h0 ?zh rfl rfl ?_); (case zh => exact H_storeA rfl rfl iI iI (by first | rfl | (simp only [List.all_cons, List.all_nil, *]; rfl)) rfl); intro g))
          exact ⟨k - 1, _, by omega, ⟨j + 1, by omega, rfl⟩, ⟨rfl, rfl, rfl, rfl, rfl, rfl, rfl, rfl, rfl, trivial⟩, rfl, by rw [htk]; simp only [if_true]; exact finE⟩
      · obtain rfl : j = l.length := by omega
        rw [List.take_of_length_le (Nat.le_refl _)]
        repeat' (first | (refine WS_seqK ?_; intro K hK) | (refine hK _ ?_; clear hK K) | refine stZ ?_ | (refine s2Z ?_ ?_ <;> intro hc <;> (try simp only [cS] at hc) <;> (try (exfalso; first | contradiction | omega))) | refine sbZ ?_ | refine sqZ ?_ | ((refine' LQ ?zh rfl ?_); case zh => intro F'; exact Q_bin rfl rfl iI) | (refine s0Z ?_; intro g) | (refine LS_h (H_callX iI rfl p4 iI) rfl ?_; intro t2) | (refine LS_h (H_call0 iI rfl p5) rfl ?_; intro u5))
        have es : Nd.booted self b now = { Nd.blank self with seq := if maxOwn l + 1 = 0 then maxOwn l else maxOwn l + 1, ls := newT self (compR l), silent := now + 2000 } := by unfold Nd.booted; rw [if_pos hb0, hj]; rfl
        refine LS_ent (H' := nodPm 0 gn (Nd.booted self b now) ⟨t2, .slice none 0 0, r0, r1, .slice none 0 0, r2, r3, r4, cb.1, cb.2, .slice none 0 0, .slice none 0 0, .slice none 0 0, .slice none 0 0, [], []⟩ * (cel g0 35 [strV [], .bool false, .slice none 0 0, .slice none 0 0, .slice none 0 0] * (X * G))) (by rw [es]; refine node0 gn t2 r0 r1 r2 r3 r4 cb self (if maxOwn l + 1 = 0 then maxOwn l else maxOwn l + 1) (newT self (compR l)) (now + 2000) ?_; rw [hR]; simp only [emp_star]; exact finE) ?_
        generalize (⟨t2, .slice none 0 0, r0, r1, .slice none 0 0, r2, r3, r4, cb.1, cb.2, .slice none 0 0, .slice none 0 0, .slice none 0 0, .slice none 0 0, [], []⟩ : NH) = h0
        have hok := Nd.booted_ok self b now
        obtain ⟨s0, hs0⟩ : ∃ s0 : Nd, s0 = Nd.booted self b now := ⟨_, rfl⟩
        have en : Nd.new self b now = (s0.write ⟨true, 0, if maxOwn l + 1 = 0 then maxOwn l else maxOwn l + 1⟩).note := by unfold Nd.new; rw [hs0, es]
        rw [← hs0] at hok ⊢
        have hr0 : s0.recs = [] := by rw [hs0, es]; rfl
        have hj0 : s0.out.journal = [] := by rw [hs0, es]; rfl
        have q1 := nwrite_spec w0 0 gn s0 h0 ⟨true, 0, if maxOwn l + 1 = 0 then maxOwn l else maxOwn l + 1⟩ (by rw [hr0]; simp) (by rw [hj0]; simp)
        have q2 := fun vr => note_spec w0 0 gn (s0.write ⟨true, 0, if maxOwn l + 1 = 0 then maxOwn l else maxOwn l + 1⟩) { h0 with vr := vr } (Nd.Room.write (k := 10) ⟨by rw [hr0]; simp, by rw [hj0]; simp⟩ _) hok
        rw [← en] at q2
        obtain ⟨s9, hs9⟩ : ∃ s9 : Nd, s9 = Nd.new self b now := ⟨_, rfl⟩
        rw [← hs9] at q2
        simp only [nodPm, outH] at q1 q2 ⊢
        simp only [nodC] at q1 q2 ⊢
        repeat' (first | (refine WS_seqK ?_; intro K hK) | (refine hK _ ?_; clear hK K) | refine stZ ?_ | refine sqZ ?_ | (refine shZ ?_; intro g) | (refine s0Z ?_; intro g) | refine WS_drawS (by kernel_rfl) ?_ | (refine LS_h (H_callX iI rfl q1 iI) rfl ?_; intro v1; replace q2 := q2 v1) | (refine LS_h (H_callX iI rfl q2 iI) rfl ?_; intro v2))
        refine ret_2 (.inl rfl) rfl (RV_tmp rfl) (RV_cell rfl iI iI rfl) ⟨(gn, (h0.vf, h0.vc, h0.vd)), ?_, ?_⟩
        · unfold Nd.newO outA
          rw [← hs9]
          simp [hb0]
        · unfold Nd.newO outR
          rw [← hs9, star_assoc (nodI _ _)]
          refine ent_nodI { h0 with vr := v2, vf := .slice none 0 0, vc := .slice none 0 0, vd := .slice none 0 0 } OutD.zero ?_
          have er : restP gn s9 { h0 with vr := v2, vf := .slice none 0 0, vc := .slice none 0 0, vd := .slice none 0 0 } = restP gn s9 { h0 with vr := v2 } := rfl
          rw [er]
          simp only [nodC, OutD.zero]
          exact finE
  · repeat' (first | (refine WS_seqK ?_; intro K hK) | (refine hK _ ?_; clear hK K) | refine stZ ?_ | (refine s2Z ?_ ?_ <;> intro hc <;> (try simp only [cS] at hc) <;> (try (exfalso; first | contradiction | omega))) | refine sbZ ?_ | refine sqZ ?_ | (refine LS_h (H_alloc iI) rfl ?_; intro g0) | (refine LS_h (H_box rfl) rfl ?_; intro gn) | (refine LS_h (H_callX iI rfl p1 iI) rfl ?_; intro tb) | (refine LS_h (H_call0 iI rfl p2) rfl ?_; intro cb) | (refine LS_h (H_makeMap u32 u32 (d := some 18)) rfl ?_; intro r0) | (refine LS_h (H_makeMap u32 u32 (d := some 20)) rfl ?_; intro r1) | (refine LS_h (H_makeMap u32 u32 (d := some 21)) rfl ?_; intro r2) | (refine LS_h (H_makeMap u32 u32 (d := some 22)) rfl ?_; intro r3) | (refine LS_h (H_makeMap u32 u32 (d := some 23)) rfl ?_; intro r4))
    have es : Nd.booted self b now = { Nd.blank self with seq := 1, ls := [], silent := 0 } := by unfold Nd.booted; rw [if_neg hb0]; rfl
    refine LS_ent (H' := nodPm 0 gn (Nd.booted self b now) ⟨tb, .slice none 0 0, r0, r1, .slice none 0 0, r2, r3, r4, cb.1, cb.2, .slice none 0 0, .slice none 0 0, .slice none 0 0, .slice none 0 0, [], []⟩ * (cel g0 35 [strV [], .bool false, .slice none 0 0, .slice none 0 0, .slice none 0 0] * (X * G))) (by rw [es]; refine node0 gn tb r0 r1 r2 r3 r4 cb self (1) ([]) (0) ?_; have ez : (Value.int .u32 1 : Value) = u32 1 := rfl; rw [ez]; exact finE) ?_
    generalize (⟨tb, .slice none 0 0, r0, r1, .slice none 0 0, r2, r3, r4, cb.1, cb.2, .slice none 0 0, .slice none 0 0, .slice none 0 0, .slice none 0 0, [], []⟩ : NH) = h0
    have hok := Nd.booted_ok self b now
    obtain ⟨s0, hs0⟩ : ∃ s0 : Nd, s0 = Nd.booted self b now := ⟨_, rfl⟩
    have en : Nd.new self b now = (s0.write ⟨true, 0, 1⟩).note := by unfold Nd.new; rw [hs0, es]
    rw [← hs0] at hok ⊢
    have hr0 : s0.recs = [] := by rw [hs0, es]; rfl
    have hj0 : s0.out.journal = [] := by rw [hs0, es]; rfl
    have q1 := nwrite_spec w0 0 gn s0 h0 ⟨true, 0, 1⟩ (by rw [hr0]; simp) (by rw [hj0]; simp)
    have q2 := fun vr => note_spec w0 0 gn (s0.write ⟨true, 0, 1⟩) { h0 with vr := vr } (Nd.Room.write (k := 10) ⟨by rw [hr0]; simp, by rw [hj0]; simp⟩ _) hok
    rw [← en] at q2
    obtain ⟨s9, hs9⟩ : ∃ s9 : Nd, s9 = Nd.new self b now := ⟨_, rfl⟩
    rw [← hs9] at q2
    simp only [nodPm, outH] at q1 q2 ⊢
    simp only [nodC] at q1 q2 ⊢
    repeat' (first | (refine WS_seqK ?_; intro K hK) | (refine hK _ ?_; clear hK K) | refine stZ ?_ | refine sqZ ?_ | (refine shZ ?_; intro g) | (refine s0Z ?_; intro g) | refine WS_drawS (by kernel_rfl) ?_ | (refine LS_h (H_callX iI rfl q1 iI) rfl ?_; intro v1; replace q2 := q2 v1) | (refine LS_h (H_callX iI rfl q2 iI) rfl ?_; intro v2))
    refine ret_2 (.inl rfl) rfl (RV_tmp rfl) (RV_cell rfl iI iI rfl) ⟨(gn, (h0.vf, h0.vc, h0.vd)), ?_, ?_⟩
    · unfold Nd.newO outA
      rw [← hs9]
      simp [hb0]
    · unfold Nd.newO outR
      rw [← hs9, star_assoc (nodI _ _)]
      refine ent_nodI { h0 with vr := v2, vf := .slice none 0 0, vc := .slice none 0 0, vd := .slice none 0 0 } OutD.zero ?_
      have er : restP gn s9 { h0 with vr := v2, vf := .slice none 0 0, vc := .slice none 0 0, vd := .slice none 0 0 } = restP gn s9 { h0 with vr := v2 } := rfl
      rw [er]
      simp only [nodC, OutD.zero]
      exact finE
end

section
open Go.RowKit
theorem WS_at {P : Program} {n : Frm} {w0 : World} {c : Code} {Q : Exit → St → Prop} {σ : St} (h : ∀ w, Sat w0 w σ.H → WS P n w0 c Q σ) : WS P n w0 c Q σ := fun a w g => h w g.sat a w g
attribute [local irreducible] WS LS OpQ OpT OpH OpTQ Spec SpecQ SpecX DSpec cel AS
variable (w0 : World)
instance rdr_tail1 {w0 : World} {H : HProp} {v : Value} {α : Type} {size : Nat} {f : α → List Value} {b : α} {l : List α} [h : Rdr w0 H v α size f (b :: l)] : Rdr w0 H (sTail size v 1) α size f l := ⟨fun w hs => (h.at_ w hs).tail 1⟩
instance : IfaceT Tryz.prog 20 := ⟨by kernel_rfl⟩
section rules
variable {w0 : World} {n : Frm} {E : Env} {D : List Deferred} {H F : HProp} {ops : Array Oper} {ol : List Oper} {Q : Exit → St → Prop} {d : Nat} {xs : List Operand} {ts : Array TypeId} {ty : TypeId} {pos : String} {after : Array Edge} {g : Nat} {v : Value} {b : UInt8} {l : List UInt8}
theorem LS_one_t (hx : E.evs xs = some [ptr g 0]) (hl : LimbB H g 176 [v] F) (hX : Rdr w0 F v UInt8 1 byteC (b :: l)) (hd : Nat.blt d n.tmps = true) (h : LS Tryz.prog n w0 ops Q ol ⟨(d, .int .i64 (b.toNat : Int)) :: E, D, cel g 176 [sTail 1 v 1] * F⟩) : LS Tryz.prog n w0 ops Q (⟨some d, .call ⟨.value (.func 71), xs.toArray, ts⟩, ty, pos, after, none⟩ :: ol) ⟨E, D, H⟩ := by
 refine LS_h (H_callH iI hx (one_t w0 (b :: l) v g F (by simp)) (hl.eq.trans star_emp.symm)) hd fun u => ?_
 rw [star_emp]
 exact h
theorem LS_one_f (hx : E.evs xs = some [ptr g 0]) (hl : LimbB H g 176 [v] F) (hX : Rdr w0 F v UInt8 1 byteC []) (h : Q (.panic brk) ⟨E, D, cel g 176 [v] * F⟩) : LS Tryz.prog n w0 ops Q (⟨some d, .call ⟨.value (.func 71), xs.toArray, ts⟩, ty, pos, after, none⟩ :: ol) ⟨E, D, H⟩ := by
 refine LS_callX iI hx (one_f w0 [] v g F (by simp)) ⟨hl.eq.trans star_emp.symm⟩ ?_
 rw [star_emp]; exact h
theorem LS_four (hx : E.evs xs = some [ptr g 0]) (hl : LimbB H g 176 [v] F) (hX : Rdr w0 F v UInt8 1 byteC l) (hd : Nat.blt d n.tmps = true) (h1 : 4 ≤ l.length → LS Tryz.prog n w0 ops Q ol ⟨(d, u32 (numAt l 0)) :: E, D, cel g 176 [sTail 1 v 4] * F⟩) (h2 : l.length < 4 → Q (.panic brk) ⟨E, D, cel g 176 [v] * F⟩) : LS Tryz.prog n w0 ops Q (⟨some d, .call ⟨.value (.func 73), xs.toArray, ts⟩, ty, pos, after, none⟩ :: ol) ⟨E, D, H⟩ := by
 rcases Nat.lt_or_ge l.length 4 with hk | hk
 ·refine LS_callX iI hx (four_f w0 l v g F hk) ⟨hl.eq.trans star_emp.symm⟩ ?_
  rw [star_emp]; exact h2 hk
 ·refine LS_h (H_callH iI hx (four_t w0 l v g F hk) (hl.eq.trans star_emp.symm)) hd fun u => ?_
  rw [star_emp]
  exact h1 hk
theorem LS_take {k : Nat} {x : Int} (hx : E.evs xs = some [ptr g 0, .int .i64 x]) (hk : AsNat x k) (hl : LimbB H g 176 [v] F) (hX : Rdr w0 F v UInt8 1 byteC l) (hd : Nat.blt d n.tmps = true) (h1 : k ≤ l.length → LS Tryz.prog n w0 ops Q ol ⟨(d, sHead v k) :: E, D, cel g 176 [sTail 1 v k] * F⟩) (h2 : l.length < k → Q (.panic brk) ⟨E, D, cel g 176 [v] * F⟩) : LS Tryz.prog n w0 ops Q (⟨some d, .call ⟨.value (.func 74), xs.toArray, ts⟩, ty, pos, after, none⟩ :: ol) ⟨E, D, H⟩ := by
 rcases Nat.lt_or_ge l.length k with hk' | hk'
 ·refine LS_callX iI hx (take_f w0 l v g F k x hk.eq hk') ⟨hl.eq.trans star_emp.symm⟩ ?_
  rw [star_emp]; exact h2 hk'
 ·refine LS_h (H_callH iI hx (take_t w0 l v g F k x hk.eq hk') (hl.eq.trans star_emp.symm)) hd fun u => ?_
  rw [star_emp]
  exact h1 hk'
theorem LS_must {b : Bool} (hx : E.evs xs = some [.bool b]) (hd : Nat.blt d n.tmps = true) (h1 : b = true → LS Tryz.prog n w0 ops Q ol ⟨(d, .tuple #[]) :: E, D, H⟩) (h2 : b = false → Q (.panic brk) ⟨E, D, H⟩) : LS Tryz.prog n w0 ops Q (⟨some d, .call ⟨.value (.func 72), xs.toArray, ts⟩, ty, pos, after, none⟩ :: ol) ⟨E, D, H⟩ := by
 cases b with
 | false =>
  refine LS_callX iI hx (must_f w0) ⟨emp_star.symm⟩ ?_
  rw [emp_star]; exact h2 rfl
 | true =>
  refine LS_h (H_callH iI hx (must_t w0) emp_star.symm) hd fun u => ?_
  rw [emp_star]
  exact h1 rfl
theorem LS_deferV0 {t : Tmp} {f : FuncId} {caps args : List Value} (hn : n.round = none) (ht : E.get t = some (.func (.func f) #[] caps.toArray)) (hargs : E.evs xs = some args)
  (h : LS Tryz.prog n w0 ops Q ol ⟨E, ⟨.fn (.func f) caps.toArray, args.toArray⟩ :: D, H⟩) : LS Tryz.prog n w0 ops Q (⟨none, .defer ⟨.value (.tmp t), xs.toArray, ts⟩, ty, pos, after, none⟩ :: ol) ⟨E, D, H⟩ := LS_deferV (d := none) hn rfl ht hargs h
theorem WS_formR {α : Type} {size : Nat} {f : α → List Value} {l : List α} {c : Code} (v : Value) (hl : Rdr w0 H v α size f l) (h : ∀ A cap, v = .slice A l.length cap → WS Tryz.prog n w0 c Q ⟨E, D, H⟩) : WS Tryz.prog n w0 c Q ⟨E, D, H⟩ := WS_at fun w hs => by
 obtain ⟨A, cap, e, _⟩ := (hl.at_ w hs).form
 exact h A cap e
end rules
def Pk.zero : Pk := ⟨0, 0, 0, false, 0, 0, 0, 0, 0, 0, [], []⟩
section out
variable {w0 : World} {m : Frm} {E : Env} {H F Y : HProp} {R : Value → HProp → Prop} {p q : Nat} {cs bs : List Value}
theorem dspec_p {K : FrameMode → HProp → Prop} (hl : LimbB H p 44 cs F) (hl2 : LimbB F q 4 bs Y) (hcs : cs.length = 12) (hbs : bs.length = 1) (h : K (.panicking [{ v := .iface 232 (.agg #[]), recovered := true }]) (cel p 44 (Pk.zero.cells (.slice none 0 0)) * (cel q 4 [.bool false] * Y))) :
    DSpec Tryz.prog w0 70 [ptr p 0, ptr q 0] (.panicking brk) H K := by
  obtain ⟨c0, c1, c2, c3, c4, c5, c6, c7, c8, c9, c10, c11, rfl⟩ : ∃ c0 c1 c2 c3 c4 c5 c6 c7 c8 c9 c10 c11, cs = [c0, c1, c2, c3, c4, c5, c6, c7, c8, c9, c10, c11] := by
    match cs, hcs with
    | [c0, c1, c2, c3, c4, c5, c6, c7, c8, c9, c10, c11], _ => exact ⟨_, _, _, _, _, _, _, _, _, _, _, _, rfl⟩
  obtain ⟨b0, rfl⟩ : ∃ b0, bs = [b0] := by
    match bs, hbs with
    | [b0], _ => exact ⟨_, rfl⟩
  refine DSpec.enterR Tryz.func70 rfl Tryz.ntmps70 rfl rfl rfl (Q_bin (v := .iface 232 (.agg #[])) (u := .nilIface) (r := .bool true) rfl rfl iI) ?_
  simp only [argE, recV, brk]
  have e : H = cel p 44 [c0, c1, c2, c3, c4, c5, c6, c7, c8, c9, c10, c11] * (cel q 4 [b0] * Y) := by rw [hl.eq, hl2.eq]
  rw [e]
  repeat' (first | refine stZ ?_ | (refine s2Z ?_ ?_ <;> intro hc <;> (try simp only [cS] at hc) <;> (try (exfalso; first | contradiction | omega))) | refine sqZ ?_ | (refine s0Z ?_; intro g))
  refine ret_none (.inr rfl) rfl ?_
  have e2 : ∀ A B C : HProp, B * (A * C) = A * (B * C) := fun A B C => star_left_comm _ _ _
  simpa only [e2, Pk.zero, Pk.cells] using h
theorem dspec_r {K : FrameMode → HProp → Prop} (h : K .returning H) : DSpec Tryz.prog w0 70 [ptr p 0, ptr q 0] .returning H K := by
  refine DSpec.enterR Tryz.func70 rfl Tryz.ntmps70 rfl rfl rfl (Q_neqNilC rfl iI) ?_
  simp only [argE, recV]
  repeat' (first | refine stZ ?_ | (refine s2Z ?_ ?_ <;> intro hc <;> (try simp only [cS] at hc) <;> (try (exfalso; first | contradiction | omega))))
  exact ret_none (.inr rfl) rfl h
theorem out_brk (h2 : E.get 2 = some (ptr p 0)) (h3 : E.get 3 = some (ptr q 0)) (hl : LimbB H p 44 cs F) (hl2 : LimbB F q 4 bs Y) (hcs : cs.length = 12) (hbs : bs.length = 1)
  (hR : R (.tuple #[Pk.zero.val (.slice none 0 0), .bool false]) (cel p 44 (Pk.zero.cells (.slice none 0 0)) * (cel q 4 [.bool false] * Y))) :
  outS Tryz.prog m w0 Tryz.f35 R (.panic brk) ⟨E, [⟨.fn (.func 70) ([ptr p 0, ptr q 0] : List Value).toArray, ([] : List Value).toArray⟩], H⟩ :=
 out_p (lv_call (caps := [ptr p 0, ptr q 0]) (args := []) (by simp) iI (dspec_p hl hl2 hcs hbs (lv_ret2 rfl (RV_cell h2 iI iI rfl) (RV_cellS h3 iI iI rfl) hR)))
theorem out_ok {vs : List Value} (h2 : E.get 2 = some (ptr p 0)) (h3 : E.get 3 = some (ptr q 0)) (hl : LimbB H p 44 cs F) (hl2 : LimbB H q 4 [.bool true] Y) (hcs : takeL cs 0 12 = some vs)
  (hR : R (.tuple #[.agg vs.toArray, .bool true]) H) :
  outS Tryz.prog m w0 Tryz.f35 R .ret ⟨E, [⟨.fn (.func 70) ([ptr p 0, ptr q 0] : List Value).toArray, ([] : List Value).toArray⟩], H⟩ :=
 out_r (lv_call (caps := [ptr p 0, ptr q 0]) (args := []) (by simp) iI (dspec_r (lv_ret2 rfl (RV_cell h2 hl iI hcs) (RV_cellS h3 hl2 iI rfl) hR)))
end out
def decV (l : List UInt8) (v' : Value) : Value := .tuple #[((Pk.dec l).getD Pk.zero).val v', .bool (Pk.dec l).isSome]
abbrev decH (l : List UInt8) (v' : Value) (X : HProp) : HProp := rows 180 2 lostC v' ((Pk.dec l).getD Pk.zero).lost * X
theorem dec_short (l : List UInt8) (h : l.length < 5) : Pk.dec l = none := by
 match l, h with
 | [], _ => rfl
 | [_], _ => rfl
 | [_, _], _ => rfl
 | [_, _, _], _ => rfl
 | [_, _, _, _], _ => rfl
 | _ :: _ :: _ :: _ :: _ :: _, h => simp at h; omega
set_option maxRecDepth 100000 in
theorem wdecode_short (l : List UInt8) (hl : l.length < 5) (v : Value) (X : HProp) [hX : Rdr w0 X v UInt8 1 byteC l] : Spec Tryz.prog w0 35 [v] X (fun v' : Value => decV l v') (fun v' => decH l v' X) := by
  have hd := dec_short l hl
  simp only [decV, decH, hd]
  refine Spec.enterM Tryz.func35 rfl Tryz.ntmps35 rfl fun G => ?_
  simp only [argE]
  refine WS_formR v (iI : Rdr w0 (X * G) v UInt8 1 byteC l) fun A cap hv => ?_
  subst hv
  iterate 5
    rcases l with _ | ⟨a, l⟩
    · repeat' (first | (refine WS_seqK ?_; intro K hK) | (refine hK _ ?_; clear hK K) | refine stZ ?_ | (refine s2Z ?_ ?_ <;> intro hc <;> (try simp only [cS] at hc) <;> (try (exfalso; first | contradiction | omega))) | refine sbZ ?_ | refine sqZ ?_ | ((first | refine LS_binS rfl rfl iI rfl ?_ ?_ | refine LS_binN rfl rfl iI rfl ?_ ?_ | refine DL_binS rfl rfl iI rfl ?_ ?_) <;> intro hc) | (refine shZ ?_; intro g) | (refine s0Z ?_; intro g) | refine LS_deferV0 rfl rfl rfl ?_ | refine LS_one_f rfl iI iI ?_ | (refine LS_one_t rfl iI iI rfl ?_) | (refine LS_must rfl rfl ?_ ?_ <;> (intro hc; first | (cases hc; done) | skip)) | refine thenS_p ?_)
      all_goals
        refine out_brk rfl rfl iI iI rfl rfl ?_
        exact ⟨.slice none 0 0, rfl, finE⟩
  simp at hl; omega
end

section
open Go.RowKit
attribute [local irreducible] WS LS OpQ OpT OpH OpTQ Spec SpecQ SpecX DSpec cel AS sTail sHead
variable (w0 : World)
theorem numAt_dropK (l : List UInt8) (k i : Nat) : numAt (l.drop k) i = numAt l (k + i) := by
 simp [numAt, byteAt, Nat.add_assoc]
theorem toNat_eq8 {b : UInt8} {m : Nat} (h : b.toNat = m) (hm : m < 256) : b = UInt8.ofNat m := by
 apply UInt8.toNat_inj.1; rw [h]; simp; omega
set_option maxRecDepth 100000 in
theorem wdec_bad (t k f z n : UInt8) (l : List UInt8) (hl : l.length ≤ 100000) (hd : Pk.dec (t :: k :: f :: z :: n :: l) = none) (hb : z.toNat ≠ 0 ∨ (z.toNat = 0 ∧ t.toNat = 0) ∨ (z.toNat = 0 ∧ 0 < t.toNat ∧ f.toNat ≠ 0 ∧ f.toNat ≠ 8) ∨ (z.toNat = 0 ∧ 0 < t.toNat ∧ f.toNat = 8 ∧ k.toNat ≠ 1)) (v : Value) (X : HProp) [hX : Rdr w0 X v UInt8 1 byteC (t :: k :: f :: z :: n :: l)] : Spec Tryz.prog w0 35 [v] X (fun v' : Value => decV (t :: k :: f :: z :: n :: l) v') (fun v' => decH (t :: k :: f :: z :: n :: l) v' X) := by
  simp only [decV, decH, hd]
  refine Spec.enterM Tryz.func35 rfl Tryz.ntmps35 rfl fun G => ?_
  simp only [argE]
  refine WS_formR v (iI : Rdr w0 (X * G) v UInt8 1 byteC (t :: k :: f :: z :: n :: l)) fun A cap hv => ?_
  subst hv
  rcases hb with h1 | ⟨h1, h2⟩ | ⟨h1, h2, h3, h4⟩ | ⟨h1, h2, h3, h4⟩
  all_goals
    repeat' (first | (refine WS_seqK ?_; intro K hK) | (refine hK _ ?_; clear hK K) | refine stZ ?_ | (refine s2Z ?_ ?_ <;> intro hc <;> (try simp only [cS] at hc) <;> (try (exfalso; first | contradiction | omega))) | refine sbZ ?_ | refine sqZ ?_ | (refine shZ ?_; intro g) | (refine s0Z ?_; intro g) | refine LS_deferV0 rfl rfl rfl ?_ | (refine LS_one_t rfl iI iI rfl ?_) | (refine LS_must rfl rfl ?_ ?_ <;> (intro hc; first | (cases hc; done) | skip)) | with_reducible refine thenS_p ?_)
  all_goals
    refine out_brk rfl rfl iI iI rfl rfl ?_
    exact ⟨.slice none 0 0, rfl, finE⟩
set_option maxRecDepth 100000 in
theorem wdec_other (t k f z n : UInt8) (l : List UInt8) (hl : l.length ≤ 100000) (hd : Pk.dec (t :: k :: f :: z :: n :: l) = none) (hz : z.toNat = 0) (ht : 0 < t.toNat) (hf : f.toNat = 0) (h1 : k.toNat ≠ 1) (h2 : k.toNat ≠ 2) (h3 : k.toNat ≠ 3) (h9 : k.toNat ≠ 9) (v : Value) (X : HProp) [hX : Rdr w0 X v UInt8 1 byteC (t :: k :: f :: z :: n :: l)] : Spec Tryz.prog w0 35 [v] X (fun v' : Value => decV (t :: k :: f :: z :: n :: l) v') (fun v' => decH (t :: k :: f :: z :: n :: l) v' X) := by
  simp only [decV, decH, hd]
  refine Spec.enterM Tryz.func35 rfl Tryz.ntmps35 rfl fun G => ?_
  simp only [argE]
  refine WS_formR v (iI : Rdr w0 (X * G) v UInt8 1 byteC (t :: k :: f :: z :: n :: l)) fun A cap hv => ?_
  subst hv
  repeat' (first | (refine WS_seqK ?_; intro K hK) | (refine hK _ ?_; clear hK K) | refine stZ ?_ | (refine s2Z ?_ ?_ <;> intro hc <;> (try simp only [cS] at hc) <;> (try (exfalso; first | contradiction | omega))) | refine sbZ ?_ | refine sqZ ?_ | (refine shZ ?_; intro g) | (refine s0Z ?_; intro g) | refine LS_deferV0 rfl rfl rfl ?_ | (refine LS_one_t rfl iI iI rfl ?_) | (refine LS_must rfl rfl ?_ ?_ <;> (intro hc; first | (cases hc; done) | skip)) | with_reducible refine thenS_p ?_ | with_reducible refine blockS_p ?_)
  all_goals
    refine out_brk rfl rfl iI iI rfl rfl ?_
    exact ⟨.slice none 0 0, rfl, finE⟩
set_option maxRecDepth 100000 in
theorem wdec_2 (t k f z n : UInt8) (l : List UInt8) (hl : l.length ≤ 100000) (hz : z.toNat = 0) (ht : 0 < t.toNat) (hf : f.toNat = 0) (h2 : k.toNat = 2) (v : Value) (X : HProp) [hX : Rdr w0 X v UInt8 1 byteC (t :: k :: f :: z :: n :: l)] : Spec Tryz.prog w0 35 [v] X (fun v' : Value => decV (t :: k :: f :: z :: n :: l) v') (fun v' => decH (t :: k :: f :: z :: n :: l) v' X) := by
  have hde : Pk.dec (t :: k :: f :: z :: n :: l) = if l.length = 16 then some ⟨t.toNat, 2, n.toNat, false, 0, numAt l 0, numAt l 4, numAt l 8, 0, numAt l 12, [], []⟩ else none := by
    obtain rfl := toNat_eq8 h2 (by decide); obtain rfl := toNat_eq8 hz (by decide); obtain rfl := toNat_eq8 hf (by decide)
    have ht' : t ≠ 0 := fun e => by rw [e] at ht; simp at ht
    simp [Pk.dec, Pk.body, ht']
  refine Spec.enterM Tryz.func35 rfl Tryz.ntmps35 rfl fun G => ?_
  simp only [argE]
  refine WS_formR v (iI : Rdr w0 (X * G) v UInt8 1 byteC (t :: k :: f :: z :: n :: l)) fun A cap hv => ?_
  subst hv
  repeat' (first | (refine WS_seqK ?_; intro K hK) | (refine hK _ ?_; clear hK K) | refine stZ ?_ | (refine s2Z ?_ ?_ <;> intro hc <;> (try simp only [cS] at hc) <;> (try (exfalso; first | contradiction | omega))) | refine sbZ ?_ | refine sqZ ?_ | ((first | refine LS_binS rfl rfl iI rfl ?_ ?_ | refine LS_binN rfl rfl iI rfl ?_ ?_ | refine DL_binS rfl rfl iI rfl ?_ ?_) <;> intro hc) | (refine shZ ?_; intro g) | (refine s0Z ?_; intro g) | refine LS_deferV0 rfl rfl rfl ?_ | (refine LS_one_t rfl iI iI rfl ?_) | (refine LS_four rfl iI iI rfl ?_ ?_ <;> (intro hc; try simp only [List.length_drop] at hc)) | (refine LS_must rfl rfl ?_ ?_ <;> (intro hc; first | (cases hc; done) | skip)) | with_reducible refine thenS_p ?_ | with_reducible refine blockS_p ?_)
  all_goals
    first
    | (have hd : Pk.dec (t :: k :: f :: z :: n :: l) = none := by
        rw [hde, if_neg]
        first | ((try simp only [List.length_drop] at *); omega) | (intro hcon; simp_all [numAt_dropK]; done)
       refine out_brk rfl rfl iI iI rfl rfl ?_
       simp only [decV, decH, hd]
       exact ⟨.slice none 0 0, rfl, finE⟩)
    | (have hd := hde.trans (if_pos (by first | ((try simp only [List.length_drop] at *); omega) | (refine ⟨by (try simp only [List.length_drop] at *); omega, ?_⟩; simp_all [numAt_dropK]; done)))
       refine out_ok rfl rfl iI iI rfl ?_
       simp only [decV, decH, hd, Option.getD_some, Option.isSome_some]
       exact ⟨.slice none 0 0, by simp [Pk.val, Pk.cells, numAt_dropK, h2, *], finE⟩)
set_option maxRecDepth 100000 in
theorem wdec_1a (t k f z n : UInt8) (l : List UInt8) (hl : l.length ≤ 100000) (hz : z.toNat = 0) (ht : 0 < t.toNat) (hf : f.toNat = 0) (h2 : k.toNat = 1) (v : Value) (X : HProp) [hX : Rdr w0 X v UInt8 1 byteC (t :: k :: f :: z :: n :: l)] : Spec Tryz.prog w0 35 [v] X (fun v' : Value => decV (t :: k :: f :: z :: n :: l) v') (fun v' => decH (t :: k :: f :: z :: n :: l) v' X) := by
  have hde : Pk.dec (t :: k :: f :: z :: n :: l) = if l.length = 20 then some ⟨t.toNat, 1, n.toNat, false, numAt l 0, numAt l 4, numAt l 8, numAt l 12, numAt l 16, 0, [], []⟩ else none := by
    obtain rfl := toNat_eq8 h2 (by decide); obtain rfl := toNat_eq8 hz (by decide); obtain rfl := toNat_eq8 hf (by decide)
    have ht' : t ≠ 0 := fun e => by rw [e] at ht; simp at ht
    simp [Pk.dec, Pk.body, ht']
  refine Spec.enterM Tryz.func35 rfl Tryz.ntmps35 rfl fun G => ?_
  simp only [argE]
  refine WS_formR v (iI : Rdr w0 (X * G) v UInt8 1 byteC (t :: k :: f :: z :: n :: l)) fun A cap hv => ?_
  subst hv
  repeat' (first | (refine WS_seqK ?_; intro K hK) | (refine hK _ ?_; clear hK K) | refine stZ ?_ | (refine s2Z ?_ ?_ <;> intro hc <;> (try simp only [cS] at hc) <;> (try (exfalso; first | contradiction | omega))) | refine sbZ ?_ | refine sqZ ?_ | ((first | refine LS_binS rfl rfl iI rfl ?_ ?_ | refine LS_binN rfl rfl iI rfl ?_ ?_ | refine DL_binS rfl rfl iI rfl ?_ ?_) <;> intro hc) | (refine shZ ?_; intro g) | (refine s0Z ?_; intro g) | refine LS_deferV0 rfl rfl rfl ?_ | (refine LS_one_t rfl iI iI rfl ?_) | (refine LS_four rfl iI iI rfl ?_ ?_ <;> (intro hc; try simp only [List.length_drop] at hc)) | (refine LS_must rfl rfl ?_ ?_ <;> (intro hc; first | (cases hc; done) | skip)) | with_reducible refine thenS_p ?_ | with_reducible refine blockS_p ?_)
  all_goals
    first
    | (have hd : Pk.dec (t :: k :: f :: z :: n :: l) = none := by
        rw [hde, if_neg]
        first | ((try simp only [List.length_drop] at *); omega) | (intro hcon; simp_all [numAt_dropK]; done)
       refine out_brk rfl rfl iI iI rfl rfl ?_
       simp only [decV, decH, hd]
       exact ⟨.slice none 0 0, rfl, finE⟩)
    | (have hd := hde.trans (if_pos (by first | ((try simp only [List.length_drop] at *); omega) | (refine ⟨by (try simp only [List.length_drop] at *); omega, ?_⟩; simp_all [numAt_dropK]; done)))
       refine out_ok rfl rfl iI iI rfl ?_
       simp only [decV, decH, hd, Option.getD_some, Option.isSome_some]
       exact ⟨.slice none 0 0, by simp [Pk.val, Pk.cells, numAt_dropK, h2, *], finE⟩)
end

section
open Go.RowKit
attribute [local irreducible] WS LS OpQ OpT OpH OpTQ Spec SpecQ SpecX DSpec cel AS sTail sHead
variable (w0 : World)
set_option maxRecDepth 100000 in
theorem wdec_1b (t k f z n : UInt8) (l : List UInt8) (hl : l.length ≤ 100000) (hz : z.toNat = 0) (ht : 0 < t.toNat) (hf : f.toNat = 8) (h2 : k.toNat = 1) (v : Value) (X : HProp) [hX : Rdr w0 X v UInt8 1 byteC (t :: k :: f :: z :: n :: l)] : Spec Tryz.prog w0 35 [v] X (fun v' : Value => decV (t :: k :: f :: z :: n :: l) v') (fun v' => decH (t :: k :: f :: z :: n :: l) v' X) := by
  have hde : Pk.dec (t :: k :: f :: z :: n :: l) = if l.length = 20 ∧ numAt l 8 = 0 then some ⟨t.toNat, 1, n.toNat, true, numAt l 0, numAt l 4, numAt l 8, numAt l 12, numAt l 16, 0, [], []⟩ else none := by
    obtain rfl := toNat_eq8 h2 (by decide); obtain rfl := toNat_eq8 hz (by decide); obtain rfl := toNat_eq8 hf (by decide)
    have ht' : t ≠ 0 := fun e => by rw [e] at ht; simp at ht
    simp [Pk.dec, Pk.body, ht']
  refine Spec.enterM Tryz.func35 rfl Tryz.ntmps35 rfl fun G => ?_
  simp only [argE]
  refine WS_formR v (iI : Rdr w0 (X * G) v UInt8 1 byteC (t :: k :: f :: z :: n :: l)) fun A cap hv => ?_
  subst hv
  repeat' (first | (refine WS_seqK ?_; intro K hK) | (refine hK _ ?_; clear hK K) | refine stZ ?_ | (refine s2Z ?_ ?_ <;> intro hc <;> (try simp only [cS] at hc) <;> (try (exfalso; first | contradiction | omega))) | refine sbZ ?_ | refine sqZ ?_ | ((first | refine LS_binS rfl rfl iI rfl ?_ ?_ | refine LS_binN rfl rfl iI rfl ?_ ?_ | refine DL_binS rfl rfl iI rfl ?_ ?_) <;> intro hc) | (refine shZ ?_; intro g) | (refine s0Z ?_; intro g) | refine LS_deferV0 rfl rfl rfl ?_ | (refine LS_one_t rfl iI iI rfl ?_) | (refine LS_four rfl iI iI rfl ?_ ?_ <;> (intro hc; try simp only [List.length_drop] at hc)) | (refine LS_must rfl rfl ?_ ?_ <;> (intro hc; first | (cases hc; done) | skip)) | with_reducible refine thenS_p ?_ | with_reducible refine blockS_p ?_)
  all_goals
    first
    | (have hd : Pk.dec (t :: k :: f :: z :: n :: l) = none := by
        rw [hde, if_neg]
        first | ((try simp only [List.length_drop] at *); omega) | (intro hcon; simp_all [numAt_dropK]; done)
       refine out_brk rfl rfl iI iI rfl rfl ?_
       simp only [decV, decH, hd]
       exact ⟨.slice none 0 0, rfl, finE⟩)
    | (have hd := hde.trans (if_pos (by first | ((try simp only [List.length_drop] at *); omega) | (refine ⟨by (try simp only [List.length_drop] at *); omega, ?_⟩; simp_all [numAt_dropK]; done)))
       refine out_ok rfl rfl iI iI rfl ?_
       simp only [decV, decH, hd, Option.getD_some, Option.isSome_some]
       exact ⟨.slice none 0 0, by simp [Pk.val, Pk.cells, numAt_dropK, h2, *], finE⟩)
set_option maxRecDepth 100000 in
theorem wdec_9 (t k f z n : UInt8) (l : List UInt8) (hl : l.length ≤ 100000) (hz : z.toNat = 0) (ht : 0 < t.toNat) (hf : f.toNat = 0) (h2 : k.toNat = 9) (v : Value) (X : HProp) [hX : Rdr w0 X v UInt8 1 byteC (t :: k :: f :: z :: n :: l)] : Spec Tryz.prog w0 35 [v] X (fun v' : Value => decV (t :: k :: f :: z :: n :: l) v') (fun v' => decH (t :: k :: f :: z :: n :: l) v' X) := by
  have hde : Pk.dec (t :: k :: f :: z :: n :: l) = if n.toNat ≤ 16 ∧ l.length = 12 + n.toNat then some ⟨t.toNat, 9, 0, false, numAt l 0, numAt l 4, 0, numAt l 8, 0, 0, [], l.drop 12⟩ else none := by
    obtain rfl := toNat_eq8 h2 (by decide); obtain rfl := toNat_eq8 hz (by decide); obtain rfl := toNat_eq8 hf (by decide)
    have ht' : t ≠ 0 := fun e => by rw [e] at ht; simp at ht
    simp [Pk.dec, Pk.body, ht']
  refine Spec.enterM Tryz.func35 rfl Tryz.ntmps35 rfl fun G => ?_
  simp only [argE]
  refine WS_formR v (iI : Rdr w0 (X * G) v UInt8 1 byteC (t :: k :: f :: z :: n :: l)) fun A cap hv => ?_
  subst hv
  repeat' (first | (refine WS_seqK ?_; intro K hK) | (refine hK _ ?_; clear hK K) | refine stZ ?_ | (refine s2Z ?_ ?_ <;> intro hc <;> (try simp only [cS] at hc) <;> (try (exfalso; first | contradiction | omega))) | refine sbZ ?_ | refine sqZ ?_ | ((refine' LQ ?zh rfl ?_); case zh => intro F'; exact Q_convS rfl iI rfl iI iI iI) | ((first | refine LS_binS rfl rfl iI rfl ?_ ?_ | refine LS_binN rfl rfl iI rfl ?_ ?_ | refine DL_binS rfl rfl iI rfl ?_ ?_) <;> intro hc) | (refine shZ ?_; intro g) | (refine s0Z ?_; intro g) | refine LS_deferV0 rfl rfl rfl ?_ | (refine LS_one_t rfl iI iI rfl ?_) | (refine LS_four rfl iI iI rfl ?_ ?_ <;> (intro hc; try simp only [List.length_drop] at hc)) | (refine LS_take rfl iI iI iI rfl ?_ ?_ <;> (intro hc; try simp only [List.length_drop] at hc)) | (refine LS_must rfl rfl ?_ ?_ <;> (intro hc; first | (cases hc; done) | skip)) | with_reducible refine thenS_p ?_ | with_reducible refine blockS_p ?_)
  all_goals
    first
    | (have hd : Pk.dec (t :: k :: f :: z :: n :: l) = none := by
        rw [hde, if_neg]
        first | ((try simp only [List.length_drop] at *); omega) | (intro hcon; simp_all [numAt_dropK]; done)
       refine out_brk rfl rfl iI iI rfl rfl ?_
       simp only [decV, decH, hd]
       exact ⟨.slice none 0 0, rfl, finE⟩)
    | (have hd := hde.trans (if_pos (by first | ((try simp only [List.length_drop] at *); omega) | (refine ⟨by (try simp only [List.length_drop] at *); omega, ?_⟩; simp_all [numAt_dropK]; done)))
       have e12 : (l.drop 12).take n.toNat = l.drop 12 := List.take_of_length_le (by (try simp only [List.length_drop] at *); omega)
       refine out_ok rfl rfl iI iI rfl ?_
       simp only [decV, decH, hd, Option.getD_some, Option.isSome_some]
       exact ⟨.slice none 0 0, by simp [Pk.val, Pk.cells, numAt_dropK, h2, *], finE⟩)
end

section
open Go.RowKit
attribute [local irreducible] WS LS OpQ OpT OpH OpTQ Spec SpecQ SpecX DSpec cel AS sTail sHead
variable (w0 : World)
set_option maxRecDepth 100000 in
theorem wdec_3 (t k f z n : UInt8) (l : List UInt8) (hl : l.length ≤ 100000) (hz : z.toNat = 0) (ht : 0 < t.toNat) (hf : f.toNat = 0) (h2 : k.toNat = 3) (v : Value) (X : HProp) [hX : Rdr w0 X v UInt8 1 byteC (t :: k :: f :: z :: n :: l)] : Spec Tryz.prog w0 35 [v] X (fun v' : Value => decV (t :: k :: f :: z :: n :: l) v') (fun v' => decH (t :: k :: f :: z :: n :: l) v' X) := by
  have hde : Pk.dec (t :: k :: f :: z :: n :: l) = if 1 ≤ n.toNat ∧ n.toNat ≤ 8 ∧ l.length = 8 * n.toNat then some ⟨t.toNat, 3, 0, false, 0, 0, 0, 0, 0, 0, lostsAt l n.toNat, []⟩ else none := by
    obtain rfl := toNat_eq8 h2 (by decide); obtain rfl := toNat_eq8 hz (by decide); obtain rfl := toNat_eq8 hf (by decide)
    have ht' : t ≠ 0 := fun e => by rw [e] at ht; simp at ht
    simp [Pk.dec, Pk.body, ht']
  refine Spec.enterM Tryz.func35 rfl Tryz.ntmps35 rfl fun G => ?_
  simp only [argE]
  refine WS_formR v (iI : Rdr w0 (X * G) v UInt8 1 byteC (t :: k :: f :: z :: n :: l)) fun A cap hv => ?_
  subst hv
  repeat' (first | (refine WS_seqK ?_; intro K hK) | (refine hK _ ?_; clear hK K) | refine stZ ?_ | (refine s2Z ?_ ?_ <;> intro hc <;> (try simp only [cS] at hc) <;> (try (exfalso; first | contradiction | omega))) | refine sbZ ?_ | refine sqZ ?_ | ((first | refine LS_binS rfl rfl iI rfl ?_ ?_ | refine LS_binN rfl rfl iI rfl ?_ ?_ | refine DL_binS rfl rfl iI rfl ?_ ?_) <;> intro hc) | (refine shZ ?_; intro g) | (refine s0Z ?_; intro g) | refine LS_deferV0 rfl rfl rfl ?_ | (refine LS_one_t rfl iI iI rfl ?_) | (refine LS_must rfl rfl ?_ ?_ <;> (intro hc; first | (cases hc; done) | skip)) | with_reducible refine thenS_p ?_ | with_reducible refine blockS_p ?_)
  rotate_left
  · have hd : Pk.dec (t :: k :: f :: z :: n :: l) = none := by rw [hde, if_neg]; omega
    refine out_brk rfl rfl iI iI rfl rfl ?_
    simp only [decV, decH, hd]
    exact ⟨.slice none 0 0, rfl, finE⟩
  · have hd : Pk.dec (t :: k :: f :: z :: n :: l) = none := by rw [hde, if_neg]; omega
    refine out_brk rfl rfl iI iI rfl rfl ?_
    simp only [decV, decH, hd]
    exact ⟨.slice none 0 0, rfl, finE⟩
  rename_i p q gg u1 u2 hm1 hn1 hn8
  refine WS_loop (fun m τ => ∃ (i : Nat) (v' vl : Value), i + m = n.toNat ∧ 8 * i ≤ l.length ∧ Rdr w0 X v' UInt8 1 byteC (l.drop (8 * i)) ∧ τ = ⟨[(103, .int .i64 (i : Int)), (102, .int .i64 (n.toNat : Int)), (2, ptr p 0), (3, ptr q 0), (4, ptr gg 0)], [⟨.fn (.func 70) ([ptr p 0, ptr q 0] : List Value).toArray, ([] : List Value).toArray⟩], rows 180 2 lostC vl (lostsAt l i) * (cel gg 176 [v'] * (cel p 44 [.int .i64 (t.toNat : Int), .int .i64 (k.toNat : Int), .int .i64 0, .bool false, u32 0, u32 0, u32 0, u32 0, u32 0, u32 0, vl, strV []] * (cel q 4 [.bool false] * (X * G))))⟩) ?_ ?_
  · refine ⟨n.toNat, _, ⟨0, _, .slice none 0 0, by omega, by omega, (iI : Rdr w0 X (sTail 1 (sTail 1 (sTail 1 (sTail 1 (sTail 1 (.slice A (t :: k :: f :: z :: n :: l).length cap) 1) 1) 1) 1) 1) UInt8 1 byteC l), rfl⟩, ⟨rfl, rfl, rfl, rfl, rfl, trivial⟩, rfl, ?_⟩
    refine Ent.nilT ?_
    exact finE
  · rintro m τ ⟨i, v', vl, him, hi8, hR, rfl⟩
    have hdl : (l.drop (8 * i)).length = l.length - 8 * i := by simp
    have hdl4 : ((l.drop (8 * i)).drop 4).length = l.length - 8 * i - 4 := by simp; omega
    rcases Nat.lt_or_ge i n.toNat with hlt | hge
    · rcases Nat.lt_or_ge (l.length - 8 * i) 8 with h8 | h8
      · have hd : Pk.dec (t :: k :: f :: z :: n :: l) = none := by rw [hde, if_neg]; omega
        rcases Nat.lt_or_ge (l.length - 8 * i) 4 with h4 | h4
        · have hx := four_f w0 (l.drop (8 * i)) v' gg X (by omega)
          repeat' (first | (refine WS_seqK ?_; intro K hK) | (refine hK _ ?_; clear hK K) | refine stZ ?_ | (refine s2Z ?_ ?_ <;> intro hc <;> (try simp only [cS] at hc) <;> (try (exfalso; first | contradiction | omega))) | refine sbZ ?_)
          refine WS_drawAny (by kernel_rfl) ?_
          refine AS_step (r := [0, 2, 4]) (by kernel_rfl) rfl rfl ⟨?_, ?_, ?_, trivial⟩
          refine AO_q rfl (Q_fieldAddr rfl iI rfl) rfl ?_
          refine AS_step (r := [1, 2, 4]) (by kernel_rfl) rfl rfl ⟨?_, ?_, ?_, trivial⟩
          refine AO_q rfl (Q_load rfl iI iI rfl) rfl ?_
          refine AS_step (r := [2, 4]) (by kernel_rfl) rfl rfl ⟨?_, ?_, trivial⟩
          refine AO_q rfl (Q_move rfl) rfl ?_
          refine AS_step (r := [3, 4]) (by kernel_rfl) rfl rfl ⟨?_, ?_, trivial⟩
          refine AO_x rfl iI rfl hx iI ?_; rotate_left
          refine AO_q rfl (Q_move rfl) rfl ?_
          refine AS_step (r := [3]) (by kernel_rfl) rfl rfl ⟨?_, trivial⟩
          refine AO_x rfl iI rfl hx iI ?_; rotate_left
          refine AO_q rfl (Q_move rfl) rfl ?_
          refine AS_step (r := [2]) (by kernel_rfl) rfl rfl ⟨?_, trivial⟩
          refine AO_q rfl (Q_move rfl) rfl ?_
          refine AS_step (r := [3]) (by kernel_rfl) rfl rfl ⟨?_, trivial⟩
          refine AO_x rfl iI rfl hx iI ?_; rotate_left
          refine AO_q rfl (Q_move rfl) rfl ?_
          refine AS_step (r := [1, 3, 4]) (by kernel_rfl) rfl rfl ⟨?_, ?_, ?_, trivial⟩
          refine AO_q rfl (Q_load rfl iI iI rfl) rfl ?_
          refine AS_step (r := [3, 4]) (by kernel_rfl) rfl rfl ⟨?_, ?_, trivial⟩
          refine AO_x rfl iI rfl hx iI ?_; rotate_left
          refine AO_q rfl (Q_move rfl) rfl ?_
          refine AS_step (r := [3]) (by kernel_rfl) rfl rfl ⟨?_, trivial⟩
          refine AO_x rfl iI rfl hx iI ?_; rotate_left
          refine AO_x rfl iI rfl hx iI ?_; rotate_left
          refine AO_q rfl (Q_move rfl) rfl ?_
          refine AS_step (r := [1, 3]) (by kernel_rfl) rfl rfl ⟨?_, ?_, trivial⟩
          refine AO_q rfl (Q_load rfl iI iI rfl) rfl ?_
          refine AS_step (r := [3]) (by kernel_rfl) rfl rfl ⟨?_, trivial⟩
          refine AO_x rfl iI rfl hx iI ?_; rotate_left
          refine AO_x rfl iI rfl hx iI ?_; rotate_left
          refine AO_q rfl (Q_move rfl) rfl ?_
          refine AS_step (r := [1, 2]) (by kernel_rfl) rfl rfl ⟨?_, ?_, trivial⟩
          refine AO_q rfl (Q_load rfl iI iI rfl) rfl ?_
          refine AS_step (r := [2]) (by kernel_rfl) rfl rfl ⟨?_, trivial⟩
          refine AO_q rfl (Q_move rfl) rfl ?_
          refine AS_step (r := [3]) (by kernel_rfl) rfl rfl ⟨?_, trivial⟩
          refine AO_x rfl iI rfl hx iI ?_; rotate_left
          refine AO_q rfl (Q_move rfl) rfl ?_
          refine AS_step (r := [1, 3]) (by kernel_rfl) rfl rfl ⟨?_, ?_, trivial⟩
          refine AO_q rfl (Q_load rfl iI iI rfl) rfl ?_
          refine AS_step (r := [3]) (by kernel_rfl) rfl rfl ⟨?_, trivial⟩
          refine AO_x rfl iI rfl hx iI ?_; rotate_left
          refine AO_x rfl iI rfl hx iI ?_; rotate_left
          refine AO_q rfl (Q_move rfl) rfl ?_
          refine AS_step (r := [0, 3, 4]) (by kernel_rfl) rfl rfl ⟨?_, ?_, ?_, trivial⟩
          refine AO_q rfl (Q_fieldAddr rfl iI rfl) rfl ?_
          refine AS_step (r := [1, 3, 4]) (by kernel_rfl) rfl rfl ⟨?_, ?_, ?_, trivial⟩
          refine AO_q rfl (Q_load rfl iI iI rfl) rfl ?_
          refine AS_step (r := [3, 4]) (by kernel_rfl) rfl rfl ⟨?_, ?_, trivial⟩
          refine AO_x rfl iI rfl hx iI ?_; rotate_left
          refine AO_q rfl (Q_move rfl) rfl ?_
          refine AS_step (r := [3]) (by kernel_rfl) rfl rfl ⟨?_, trivial⟩
          refine AO_x rfl iI rfl hx iI ?_; rotate_left
          refine AO_x rfl iI rfl hx iI ?_; rotate_left
          refine AO_q rfl (Q_move rfl) rfl ?_
          refine AS_step (r := [1, 3]) (by kernel_rfl) rfl rfl ⟨?_, ?_, trivial⟩
          refine AO_q rfl (Q_load rfl iI iI rfl) rfl ?_
          refine AS_step (r := [3]) (by kernel_rfl) rfl rfl ⟨?_, trivial⟩
          refine AO_x rfl iI rfl hx iI ?_; rotate_left
          refine AO_x rfl iI rfl hx iI ?_; rotate_left
          refine AO_x rfl iI rfl hx iI ?_; rotate_left
          refine AO_q rfl (Q_move rfl) rfl ?_
          refine AS_step (r := [0, 3]) (by kernel_rfl) rfl rfl ⟨?_, ?_, trivial⟩
          refine AO_q rfl (Q_fieldAddr rfl iI rfl) rfl ?_
          refine AS_step (r := [1, 3]) (by kernel_rfl) rfl rfl ⟨?_, ?_, trivial⟩
          refine AO_q rfl (Q_load rfl iI iI rfl) rfl ?_
          refine AS_step (r := [3]) (by kernel_rfl) rfl rfl ⟨?_, trivial⟩
          refine AO_x rfl iI rfl hx iI ?_; rotate_left
          refine AO_x rfl iI rfl hx iI ?_; rotate_left
          refine AO_x rfl iI rfl hx iI ?_; rotate_left
          refine AO_q rfl (Q_move rfl) rfl ?_
          refine AS_step (r := [0, 2]) (by kernel_rfl) rfl rfl ⟨?_, ?_, trivial⟩
          refine AO_q rfl (Q_fieldAddr rfl iI rfl) rfl ?_
          refine AS_step (r := [1, 2]) (by kernel_rfl) rfl rfl ⟨?_, ?_, trivial⟩
          refine AO_q rfl (Q_load rfl iI iI rfl) rfl ?_
          refine AS_step (r := [2]) (by kernel_rfl) rfl rfl ⟨?_, trivial⟩
          refine AO_q rfl (Q_move rfl) rfl ?_
          refine AS_step (r := [3]) (by kernel_rfl) rfl rfl ⟨?_, trivial⟩
          refine AO_x rfl iI rfl hx iI ?_; rotate_left
          refine AO_q rfl (Q_move rfl) rfl ?_
          refine AS_step (r := [1, 3]) (by kernel_rfl) rfl rfl ⟨?_, ?_, trivial⟩
          refine AO_q rfl (Q_load rfl iI iI rfl) rfl ?_
          refine AS_step (r := [3]) (by kernel_rfl) rfl rfl ⟨?_, trivial⟩
          refine AO_x rfl iI rfl hx iI ?_; rotate_left
          refine AO_x rfl iI rfl hx iI ?_; rotate_left
          refine AO_q rfl (Q_move rfl) rfl ?_
          refine AS_step (r := [0, 3]) (by kernel_rfl) rfl rfl ⟨?_, ?_, trivial⟩
          refine AO_q rfl (Q_fieldAddr rfl iI rfl) rfl ?_
          refine AS_step (r := [1, 3]) (by kernel_rfl) rfl rfl ⟨?_, ?_, trivial⟩
          refine AO_q rfl (Q_load rfl iI iI rfl) rfl ?_
          refine AS_step (r := [3]) (by kernel_rfl) rfl rfl ⟨?_, trivial⟩
          refine AO_x rfl iI rfl hx iI ?_; rotate_left
          refine AO_x rfl iI rfl hx iI ?_; rotate_left
          refine AO_x rfl iI rfl hx iI ?_; rotate_left
          all_goals
            repeat' (first | with_reducible refine thenS_p ?_ | with_reducible refine blockS_p ?_)
            refine out_brk rfl rfl iI iI rfl rfl ?_
            simp only [decV, decH, hd]
            exact ⟨.slice none 0 0, rfl, finE⟩
        · have hf1 := four_t w0 (l.drop (8 * i)) v' gg X (by omega)
          have hx := four_f w0 ((l.drop (8 * i)).drop 4) (sTail 1 v' 4) gg X (by omega)
          repeat' (first | (refine WS_seqK ?_; intro K hK) | (refine hK _ ?_; clear hK K) | refine stZ ?_ | (refine s2Z ?_ ?_ <;> intro hc <;> (try simp only [cS] at hc) <;> (try (exfalso; first | contradiction | omega))) | refine sbZ ?_)
          refine WS_drawAny (by kernel_rfl) ?_
          refine AS_step (r := [0, 2, 4]) (by kernel_rfl) rfl rfl ⟨?_, ?_, ?_, trivial⟩
          refine AO_q rfl (Q_fieldAddr rfl iI rfl) rfl ?_
          refine AS_step (r := [1, 2, 4]) (by kernel_rfl) rfl rfl ⟨?_, ?_, ?_, trivial⟩
          refine AO_q rfl (Q_load rfl iI iI rfl) rfl ?_
          refine AS_step (r := [2, 4]) (by kernel_rfl) rfl rfl ⟨?_, ?_, trivial⟩
          refine AO_q rfl (Q_move rfl) rfl ?_
          refine AS_step (r := [3, 4]) (by kernel_rfl) rfl rfl ⟨?_, ?_, trivial⟩
          refine AO_h rfl (H_callX iI rfl hf1 iI) rfl fun u => ?_
          refine AS_step (r := [4]) (by kernel_rfl) rfl rfl ⟨?_, trivial⟩
          refine AO_q rfl (Q_move rfl) rfl ?_
          refine AS_step (r := [5]) (by kernel_rfl) rfl rfl ⟨?_, trivial⟩
          refine AO_x rfl iI rfl hx iI ?_; rotate_left
          refine AO_q rfl (Q_move rfl) rfl ?_
          refine AS_step (r := [3]) (by kernel_rfl) rfl rfl ⟨?_, trivial⟩
          refine AO_h rfl (H_callX iI rfl hf1 iI) rfl fun u => ?_
          refine AS_step (r := [5]) (by kernel_rfl) rfl rfl ⟨?_, trivial⟩
          refine AO_x rfl iI rfl hx iI ?_; rotate_left
          refine AO_q rfl (Q_move rfl) rfl ?_
          refine AS_step (r := [2]) (by kernel_rfl) rfl rfl ⟨?_, trivial⟩
          refine AO_q rfl (Q_move rfl) rfl ?_
          refine AS_step (r := [3]) (by kernel_rfl) rfl rfl ⟨?_, trivial⟩
          refine AO_h rfl (H_callX iI rfl hf1 iI) rfl fun u => ?_
          refine AS_step (r := [5]) (by kernel_rfl) rfl rfl ⟨?_, trivial⟩
          refine AO_x rfl iI rfl hx iI ?_; rotate_left
          refine AO_q rfl (Q_move rfl) rfl ?_
          refine AS_step (r := [1, 3, 4]) (by kernel_rfl) rfl rfl ⟨?_, ?_, ?_, trivial⟩
          refine AO_q rfl (Q_load rfl iI iI rfl) rfl ?_
          refine AS_step (r := [3, 4]) (by kernel_rfl) rfl rfl ⟨?_, ?_, trivial⟩
          refine AO_h rfl (H_callX iI rfl hf1 iI) rfl fun u => ?_
          refine AS_step (r := [4]) (by kernel_rfl) rfl rfl ⟨?_, trivial⟩
          refine AO_q rfl (Q_move rfl) rfl ?_
          refine AS_step (r := [5]) (by kernel_rfl) rfl rfl ⟨?_, trivial⟩
          refine AO_x rfl iI rfl hx iI ?_; rotate_left
          refine AO_q rfl (Q_move rfl) rfl ?_
          refine AS_step (r := [3]) (by kernel_rfl) rfl rfl ⟨?_, trivial⟩
          refine AO_h rfl (H_callX iI rfl hf1 iI) rfl fun u => ?_
          refine AS_step (r := [5]) (by kernel_rfl) rfl rfl ⟨?_, trivial⟩
          refine AO_x rfl iI rfl hx iI ?_; rotate_left
          refine AO_h rfl (H_callX iI rfl hf1 iI) rfl fun u => ?_
          refine AS_step (r := [1, 4]) (by kernel_rfl) rfl rfl ⟨?_, ?_, trivial⟩
          refine AO_q rfl (Q_load rfl iI iI rfl) rfl ?_
          refine AS_step (r := [4]) (by kernel_rfl) rfl rfl ⟨?_, trivial⟩
          refine AO_q rfl (Q_move rfl) rfl ?_
          refine AS_step (r := [5]) (by kernel_rfl) rfl rfl ⟨?_, trivial⟩
          refine AO_x rfl iI rfl hx iI ?_; rotate_left
          refine AO_q rfl (Q_move rfl) rfl ?_
          refine AS_step (r := [1, 5]) (by kernel_rfl) rfl rfl ⟨?_, ?_, trivial⟩
          refine AO_q rfl (Q_load rfl iI iI rfl) rfl ?_
          refine AS_step (r := [5]) (by kernel_rfl) rfl rfl ⟨?_, trivial⟩
          refine AO_x rfl iI rfl hx iI ?_; rotate_left
          refine AO_x rfl iI rfl hx iI ?_; rotate_left
          refine AO_q rfl (Q_move rfl) rfl ?_
          refine AS_step (r := [1, 3]) (by kernel_rfl) rfl rfl ⟨?_, ?_, trivial⟩
          refine AO_q rfl (Q_load rfl iI iI rfl) rfl ?_
          refine AS_step (r := [3]) (by kernel_rfl) rfl rfl ⟨?_, trivial⟩
          refine AO_h rfl (H_callX iI rfl hf1 iI) rfl fun u => ?_
          refine AS_step (r := [5]) (by kernel_rfl) rfl rfl ⟨?_, trivial⟩
          refine AO_x rfl iI rfl hx iI ?_; rotate_left
          refine AO_h rfl (H_callX iI rfl hf1 iI) rfl fun u => ?_
          refine AS_step (r := [1, 5]) (by kernel_rfl) rfl rfl ⟨?_, ?_, trivial⟩
          refine AO_q rfl (Q_load rfl iI iI rfl) rfl ?_
          refine AS_step (r := [5]) (by kernel_rfl) rfl rfl ⟨?_, trivial⟩
          refine AO_x rfl iI rfl hx iI ?_; rotate_left
          refine AO_x rfl iI rfl hx iI ?_; rotate_left
          refine AO_q rfl (Q_move rfl) rfl ?_
          refine AS_step (r := [1, 2]) (by kernel_rfl) rfl rfl ⟨?_, ?_, trivial⟩
          refine AO_q rfl (Q_load rfl iI iI rfl) rfl ?_
          refine AS_step (r := [2]) (by kernel_rfl) rfl rfl ⟨?_, trivial⟩
          refine AO_q rfl (Q_move rfl) rfl ?_
          refine AS_step (r := [3]) (by kernel_rfl) rfl rfl ⟨?_, trivial⟩
          refine AO_h rfl (H_callX iI rfl hf1 iI) rfl fun u => ?_
          refine AS_step (r := [5]) (by kernel_rfl) rfl rfl ⟨?_, trivial⟩
          refine AO_x rfl iI rfl hx iI ?_; rotate_left
          refine AO_q rfl (Q_move rfl) rfl ?_
          refine AS_step (r := [1, 3]) (by kernel_rfl) rfl rfl ⟨?_, ?_, trivial⟩
          refine AO_q rfl (Q_load rfl iI iI rfl) rfl ?_
          refine AS_step (r := [3]) (by kernel_rfl) rfl rfl ⟨?_, trivial⟩
          refine AO_h rfl (H_callX iI rfl hf1 iI) rfl fun u => ?_
          refine AS_step (r := [5]) (by kernel_rfl) rfl rfl ⟨?_, trivial⟩
          refine AO_x rfl iI rfl hx iI ?_; rotate_left
          refine AO_h rfl (H_callX iI rfl hf1 iI) rfl fun u => ?_
          refine AS_step (r := [1, 5]) (by kernel_rfl) rfl rfl ⟨?_, ?_, trivial⟩
          refine AO_q rfl (Q_load rfl iI iI rfl) rfl ?_
          refine AS_step (r := [5]) (by kernel_rfl) rfl rfl ⟨?_, trivial⟩
          refine AO_x rfl iI rfl hx iI ?_; rotate_left
          refine AO_x rfl iI rfl hx iI ?_; rotate_left
          refine AO_q rfl (Q_move rfl) rfl ?_
          refine AS_step (r := [0, 3, 4]) (by kernel_rfl) rfl rfl ⟨?_, ?_, ?_, trivial⟩
          refine AO_q rfl (Q_fieldAddr rfl iI rfl) rfl ?_
          refine AS_step (r := [1, 3, 4]) (by kernel_rfl) rfl rfl ⟨?_, ?_, ?_, trivial⟩
          refine AO_q rfl (Q_load rfl iI iI rfl) rfl ?_
          refine AS_step (r := [3, 4]) (by kernel_rfl) rfl rfl ⟨?_, ?_, trivial⟩
          refine AO_h rfl (H_callX iI rfl hf1 iI) rfl fun u => ?_
          refine AS_step (r := [4]) (by kernel_rfl) rfl rfl ⟨?_, trivial⟩
          refine AO_q rfl (Q_move rfl) rfl ?_
          refine AS_step (r := [5]) (by kernel_rfl) rfl rfl ⟨?_, trivial⟩
          refine AO_x rfl iI rfl hx iI ?_; rotate_left
          refine AO_q rfl (Q_move rfl) rfl ?_
          refine AS_step (r := [3]) (by kernel_rfl) rfl rfl ⟨?_, trivial⟩
          refine AO_h rfl (H_callX iI rfl hf1 iI) rfl fun u => ?_
          refine AS_step (r := [5]) (by kernel_rfl) rfl rfl ⟨?_, trivial⟩
          refine AO_x rfl iI rfl hx iI ?_; rotate_left
          refine AO_h rfl (H_callX iI rfl hf1 iI) rfl fun u => ?_
          refine AS_step (r := [1, 4]) (by kernel_rfl) rfl rfl ⟨?_, ?_, trivial⟩
          refine AO_q rfl (Q_load rfl iI iI rfl) rfl ?_
          refine AS_step (r := [4]) (by kernel_rfl) rfl rfl ⟨?_, trivial⟩
          refine AO_q rfl (Q_move rfl) rfl ?_
          refine AS_step (r := [5]) (by kernel_rfl) rfl rfl ⟨?_, trivial⟩
          refine AO_x rfl iI rfl hx iI ?_; rotate_left
          refine AO_q rfl (Q_move rfl) rfl ?_
          refine AS_step (r := [1, 5]) (by kernel_rfl) rfl rfl ⟨?_, ?_, trivial⟩
          refine AO_q rfl (Q_load rfl iI iI rfl) rfl ?_
          refine AS_step (r := [5]) (by kernel_rfl) rfl rfl ⟨?_, trivial⟩
          refine AO_x rfl iI rfl hx iI ?_; rotate_left
          refine AO_x rfl iI rfl hx iI ?_; rotate_left
          refine AO_q rfl (Q_move rfl) rfl ?_
          refine AS_step (r := [1, 3]) (by kernel_rfl) rfl rfl ⟨?_, ?_, trivial⟩
          refine AO_q rfl (Q_load rfl iI iI rfl) rfl ?_
          refine AS_step (r := [3]) (by kernel_rfl) rfl rfl ⟨?_, trivial⟩
          refine AO_h rfl (H_callX iI rfl hf1 iI) rfl fun u => ?_
          refine AS_step (r := [5]) (by kernel_rfl) rfl rfl ⟨?_, trivial⟩
          refine AO_x rfl iI rfl hx iI ?_; rotate_left
          refine AO_h rfl (H_callX iI rfl hf1 iI) rfl fun u => ?_
          refine AS_step (r := [1, 5]) (by kernel_rfl) rfl rfl ⟨?_, ?_, trivial⟩
          refine AO_q rfl (Q_load rfl iI iI rfl) rfl ?_
          refine AS_step (r := [5]) (by kernel_rfl) rfl rfl ⟨?_, trivial⟩
          refine AO_x rfl iI rfl hx iI ?_; rotate_left
          refine AO_x rfl iI rfl hx iI ?_; rotate_left
          refine AO_h rfl (H_callX iI rfl hf1 iI) rfl fun u => ?_
          refine AS_step (r := [0, 4]) (by kernel_rfl) rfl rfl ⟨?_, ?_, trivial⟩
          refine AO_q rfl (Q_fieldAddr rfl iI rfl) rfl ?_
          refine AS_step (r := [1, 4]) (by kernel_rfl) rfl rfl ⟨?_, ?_, trivial⟩
          refine AO_q rfl (Q_load rfl iI iI rfl) rfl ?_
          refine AS_step (r := [4]) (by kernel_rfl) rfl rfl ⟨?_, trivial⟩
          refine AO_q rfl (Q_move rfl) rfl ?_
          refine AS_step (r := [5]) (by kernel_rfl) rfl rfl ⟨?_, trivial⟩
          refine AO_x rfl iI rfl hx iI ?_; rotate_left
          refine AO_q rfl (Q_move rfl) rfl ?_
          refine AS_step (r := [1, 5]) (by kernel_rfl) rfl rfl ⟨?_, ?_, trivial⟩
          refine AO_q rfl (Q_load rfl iI iI rfl) rfl ?_
          refine AS_step (r := [5]) (by kernel_rfl) rfl rfl ⟨?_, trivial⟩
          refine AO_x rfl iI rfl hx iI ?_; rotate_left
          refine AO_x rfl iI rfl hx iI ?_; rotate_left
          refine AO_q rfl (Q_move rfl) rfl ?_
          refine AS_step (r := [0, 5]) (by kernel_rfl) rfl rfl ⟨?_, ?_, trivial⟩
          refine AO_q rfl (Q_fieldAddr rfl iI rfl) rfl ?_
          refine AS_step (r := [1, 5]) (by kernel_rfl) rfl rfl ⟨?_, ?_, trivial⟩
          refine AO_q rfl (Q_load rfl iI iI rfl) rfl ?_
          refine AS_step (r := [5]) (by kernel_rfl) rfl rfl ⟨?_, trivial⟩
          refine AO_x rfl iI rfl hx iI ?_; rotate_left
          refine AO_x rfl iI rfl hx iI ?_; rotate_left
          refine AO_x rfl iI rfl hx iI ?_; rotate_left
          refine AO_q rfl (Q_move rfl) rfl ?_
          refine AS_step (r := [0, 3]) (by kernel_rfl) rfl rfl ⟨?_, ?_, trivial⟩
          refine AO_q rfl (Q_fieldAddr rfl iI rfl) rfl ?_
          refine AS_step (r := [1, 3]) (by kernel_rfl) rfl rfl ⟨?_, ?_, trivial⟩
          refine AO_q rfl (Q_load rfl iI iI rfl) rfl ?_
          refine AS_step (r := [3]) (by kernel_rfl) rfl rfl ⟨?_, trivial⟩
          refine AO_h rfl (H_callX iI rfl hf1 iI) rfl fun u => ?_
          refine AS_step (r := [5]) (by kernel_rfl) rfl rfl ⟨?_, trivial⟩
          refine AO_x rfl iI rfl hx iI ?_; rotate_left
          refine AO_h rfl (H_callX iI rfl hf1 iI) rfl fun u => ?_
          refine AS_step (r := [1, 5]) (by kernel_rfl) rfl rfl ⟨?_, ?_, trivial⟩
          refine AO_q rfl (Q_load rfl iI iI rfl) rfl ?_
          refine AS_step (r := [5]) (by kernel_rfl) rfl rfl ⟨?_, trivial⟩
          refine AO_x rfl iI rfl hx iI ?_; rotate_left
          refine AO_x rfl iI rfl hx iI ?_; rotate_left
          refine AO_h rfl (H_callX iI rfl hf1 iI) rfl fun u => ?_
          refine AS_step (r := [0, 5]) (by kernel_rfl) rfl rfl ⟨?_, ?_, trivial⟩
          refine AO_q rfl (Q_fieldAddr rfl iI rfl) rfl ?_
          refine AS_step (r := [1, 5]) (by kernel_rfl) rfl rfl ⟨?_, ?_, trivial⟩
          refine AO_q rfl (Q_load rfl iI iI rfl) rfl ?_
          refine AS_step (r := [5]) (by kernel_rfl) rfl rfl ⟨?_, trivial⟩
          refine AO_x rfl iI rfl hx iI ?_; rotate_left
          refine AO_x rfl iI rfl hx iI ?_; rotate_left
          refine AO_x rfl iI rfl hx iI ?_; rotate_left
          refine AO_q rfl (Q_move rfl) rfl ?_
          refine AS_step (r := [0, 2]) (by kernel_rfl) rfl rfl ⟨?_, ?_, trivial⟩
          refine AO_q rfl (Q_fieldAddr rfl iI rfl) rfl ?_
          refine AS_step (r := [1, 2]) (by kernel_rfl) rfl rfl ⟨?_, ?_, trivial⟩
          refine AO_q rfl (Q_load rfl iI iI rfl) rfl ?_
          refine AS_step (r := [2]) (by kernel_rfl) rfl rfl ⟨?_, trivial⟩
          refine AO_q rfl (Q_move rfl) rfl ?_
          refine AS_step (r := [3]) (by kernel_rfl) rfl rfl ⟨?_, trivial⟩
          refine AO_h rfl (H_callX iI rfl hf1 iI) rfl fun u => ?_
          refine AS_step (r := [5]) (by kernel_rfl) rfl rfl ⟨?_, trivial⟩
          refine AO_x rfl iI rfl hx iI ?_; rotate_left
          refine AO_q rfl (Q_move rfl) rfl ?_
          refine AS_step (r := [1, 3]) (by kernel_rfl) rfl rfl ⟨?_, ?_, trivial⟩
          refine AO_q rfl (Q_load rfl iI iI rfl) rfl ?_
          refine AS_step (r := [3]) (by kernel_rfl) rfl rfl ⟨?_, trivial⟩
          refine AO_h rfl (H_callX iI rfl hf1 iI) rfl fun u => ?_
          refine AS_step (r := [5]) (by kernel_rfl) rfl rfl ⟨?_, trivial⟩
          refine AO_x rfl iI rfl hx iI ?_; rotate_left
          refine AO_h rfl (H_callX iI rfl hf1 iI) rfl fun u => ?_
          refine AS_step (r := [1, 5]) (by kernel_rfl) rfl rfl ⟨?_, ?_, trivial⟩
          refine AO_q rfl (Q_load rfl iI iI rfl) rfl ?_
          refine AS_step (r := [5]) (by kernel_rfl) rfl rfl ⟨?_, trivial⟩
          refine AO_x rfl iI rfl hx iI ?_; rotate_left
          refine AO_x rfl iI rfl hx iI ?_; rotate_left
          refine AO_q rfl (Q_move rfl) rfl ?_
          refine AS_step (r := [0, 3]) (by kernel_rfl) rfl rfl ⟨?_, ?_, trivial⟩
          refine AO_q rfl (Q_fieldAddr rfl iI rfl) rfl ?_
          refine AS_step (r := [1, 3]) (by kernel_rfl) rfl rfl ⟨?_, ?_, trivial⟩
          refine AO_q rfl (Q_load rfl iI iI rfl) rfl ?_
          refine AS_step (r := [3]) (by kernel_rfl) rfl rfl ⟨?_, trivial⟩
          refine AO_h rfl (H_callX iI rfl hf1 iI) rfl fun u => ?_
          refine AS_step (r := [5]) (by kernel_rfl) rfl rfl ⟨?_, trivial⟩
          refine AO_x rfl iI rfl hx iI ?_; rotate_left
          refine AO_h rfl (H_callX iI rfl hf1 iI) rfl fun u => ?_
          refine AS_step (r := [1, 5]) (by kernel_rfl) rfl rfl ⟨?_, ?_, trivial⟩
          refine AO_q rfl (Q_load rfl iI iI rfl) rfl ?_
          refine AS_step (r := [5]) (by kernel_rfl) rfl rfl ⟨?_, trivial⟩
          refine AO_x rfl iI rfl hx iI ?_; rotate_left
          refine AO_x rfl iI rfl hx iI ?_; rotate_left
          refine AO_h rfl (H_callX iI rfl hf1 iI) rfl fun u => ?_
          refine AS_step (r := [0, 5]) (by kernel_rfl) rfl rfl ⟨?_, ?_, trivial⟩
          refine AO_q rfl (Q_fieldAddr rfl iI rfl) rfl ?_
          refine AS_step (r := [1, 5]) (by kernel_rfl) rfl rfl ⟨?_, ?_, trivial⟩
          refine AO_q rfl (Q_load rfl iI iI rfl) rfl ?_
          refine AS_step (r := [5]) (by kernel_rfl) rfl rfl ⟨?_, trivial⟩
          refine AO_x rfl iI rfl hx iI ?_; rotate_left
          refine AO_x rfl iI rfl hx iI ?_; rotate_left
          refine AO_x rfl iI rfl hx iI ?_; rotate_left
          all_goals
            repeat' (first | with_reducible refine thenS_p ?_ | with_reducible refine blockS_p ?_)
            refine out_brk rfl rfl iI iI rfl rfl ?_
            simp only [decV, decH, hd]
            exact ⟨.slice none 0 0, rfl, finE⟩
      · have hf1 := four_t w0 (l.drop (8 * i)) v' gg X (by omega)
        have hf2 := four_t w0 ((l.drop (8 * i)).drop 4) (sTail 1 v' 4) gg X (by omega)
        have he : lostsAt l (i + 1) = lostsAt l i ++ [(numAt (l.drop (8 * i)) 0, numAt ((l.drop (8 * i)).drop 4) 0)] := by simp [lostsAt, numAt_dropK]
        have hR2 : Rdr w0 X (sTail 1 (sTail 1 v' 4) 4) UInt8 1 byteC (((l.drop (8 * i)).drop 4).drop 4) := iI
        rw [List.drop_drop, List.drop_drop, show 8 * i + (4 + 4) = 8 * (i + 1) by omega] at hR2
        have hll := lostsAt_length l i
        repeat' (first | (refine WS_seqK ?_; intro K hK) | (refine hK _ ?_; clear hK K) | refine stZ ?_ | (refine s2Z ?_ ?_ <;> intro hc <;> (try simp only [cS] at hc) <;> (try (exfalso; first | contradiction | omega))) | refine sbZ ?_ | refine sqZ ?_ | (refine s0Z ?_; intro g) | (show WS _ _ _ (.region 22 _ true) _ _; refine WS_drawM 2 [0, 1, 2, 4, 3, 5, 6, 7, 8, 9, 10] 10 [1] (by kernel_rfl) rfl rfl iI ?_) | (refine DL_h (H_callX iI rfl hf1 iI) rfl rfl rfl ?_; intro u) | (refine DL_h (H_callX iI rfl hf2 iI) rfl rfl rfl ?_; intro u) | (refine DL_h (H_buildSliceR lostC [(numAt (l.drop (8 * i)) 0, numAt ((l.drop (8 * i)).drop 4) 0)] iI iI iI rfl rfl rfl rfl rfl iI rfl rfl rfl) rfl rfl rfl ?_; intro vb) | (refine DL_h (H_appendR rfl rfl iI iI rfl iI iI lostC_one (by first | omega | (simp [be_length] <;> omega)) rfl) rfl rfl rfl ?_; intro v2))
        refine ⟨m - 1, _, by omega, ⟨i + 1, _, v2, by omega, by omega, hR2, rfl⟩, ⟨rfl, rfl, rfl, rfl, rfl, trivial⟩, rfl, ?_⟩
        rw [he]
        exact finE
    · obtain rfl : i = n.toNat := by omega
      repeat' (first | (refine WS_seqK ?_; intro K hK) | (refine hK _ ?_; clear hK K) | refine stZ ?_ | (refine s2Z ?_ ?_ <;> intro hc <;> (try simp only [cS] at hc) <;> (try (exfalso; first | contradiction | omega))) | refine sbZ ?_ | refine sqZ ?_ | ((first | refine LS_binS rfl rfl iI rfl ?_ ?_ | refine LS_binN rfl rfl iI rfl ?_ ?_ | refine DL_binS rfl rfl iI rfl ?_ ?_) <;> intro hc) | (refine s0Z ?_; intro g) | (refine LS_must rfl rfl ?_ ?_ <;> (intro hc; first | (cases hc; done) | skip)) | with_reducible refine thenS_p ?_)
      all_goals
        first
        | (have hd : Pk.dec (t :: k :: f :: z :: n :: l) = none := by rw [hde, if_neg]; omega
           refine out_brk rfl rfl iI iI rfl rfl ?_
           simp only [decV, decH, hd]
           exact ⟨.slice none 0 0, rfl, finE⟩)
        | (have hd := hde.trans (if_pos (by omega))
           refine out_ok rfl rfl iI iI rfl ?_
           simp only [decV, decH, hd, Option.getD_some, Option.isSome_some]
           exact ⟨vl, by simp [Pk.val, Pk.cells, h2], finE⟩)
end

end Go.Proofs.YtapoehkdnglahabGreat

