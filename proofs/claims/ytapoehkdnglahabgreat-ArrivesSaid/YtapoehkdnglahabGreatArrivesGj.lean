/- A part of what Arrives needs. -/
import Derived.Test.YtapoehkdnglahabGreatArrivesGi
set_option maxHeartbeats 16000000
set_option linter.unusedVariables false
set_option linter.unusedSimpArgs false
set_option linter.unusedSectionVars false
namespace Go.Proofs.YtapoehkdnglahabGreat
section
open Go.RowKit
theorem dec_bad {t k f z n : UInt8} {l : List UInt8} (h : z.toNat ≠ 0 ∨ t.toNat = 0) : Pk.dec (t :: k :: f :: z :: n :: l) = none := by
 simp only [Pk.dec]
 rw [if_neg]
 rintro ⟨h1, h2⟩
 rcases h with h | h
 ·exact h (by rw [h1]; rfl)
 ·exact h2 (UInt8.toNat_inj.1 (by rw [h]; rfl))
theorem dec_flag {t k f z n : UInt8} {l : List UInt8} (h : f.toNat ≠ 0) (h2 : f.toNat ≠ 8 ∨ k.toNat ≠ 1) : Pk.dec (t :: k :: f :: z :: n :: l) = none := by
  have h0 : f ≠ 0 := fun e => h (by rw [e]; rfl)
  have h8 : f = 8 → k ≠ 1 := fun e e2 => by
    rcases h2 with h2 | h2
    · exact h2 (by rw [e]; rfl)
    · exact h2 (by rw [e2]; rfl)
  simp only [Pk.dec]
  split
  · unfold Pk.body
    repeat' split
    all_goals first
      | rfl
      | (rename_i hk hc; exfalso; rcases hc.2 with e | ⟨e, _⟩ <;> first | exact h0 e | exact h8 e hk)
      | (exfalso; simp_all; done)
  · rfl
theorem dec_kind {t k f z n : UInt8} {l : List UInt8} (h1 : k.toNat ≠ 1) (h2 : k.toNat ≠ 2) (h3 : k.toNat ≠ 3) (h9 : k.toNat ≠ 9) : Pk.dec (t :: k :: f :: z :: n :: l) = none := by
 have k1 : k ≠ 1 := fun e => h1 (by rw [e]; rfl)
 have k2 : k ≠ 2 := fun e => h2 (by rw [e]; rfl)
 have k3 : k ≠ 3 := fun e => h3 (by rw [e]; rfl)
 have k9 : k ≠ 9 := fun e => h9 (by rw [e]; rfl)
 simp only [Pk.dec, Pk.body, if_neg k1, if_neg k2, if_neg k3, if_neg k9, ite_self]
attribute [local irreducible] WS LS OpQ OpT OpH OpTQ Spec SpecQ SpecX DSpec cel
variable (w0 : World)
theorem wdecode_spec (l : List UInt8) (hl : l.length ≤ 100000) (v : Value) (X : HProp) [hX : Rdr w0 X v UInt8 1 byteC l] : Spec Tryz.prog w0 35 [v] X (fun v' : Value => decV l v') (fun v' => decH l v' X) := by
 rcases Nat.lt_or_ge l.length 5 with h5 | h5
 ·exact wdecode_short w0 l h5 v X
 obtain ⟨t, k, f, z, n, r, rfl⟩ : ∃ t k f z n r, l = t :: k :: f :: z :: n :: r := by
  match l, h5 with
  | t :: k :: f :: z :: n :: r, _ => exact ⟨t, k, f, z, n, r, rfl⟩
 have hr : r.length ≤ 100000 := by simp at hl; omega
 by_cases hz : z.toNat = 0
 ·by_cases ht : t.toNat = 0
  ·exact wdec_bad w0 t k f z n r hr (dec_bad (.inr ht)) (by omega) v X
  ·by_cases hf : f.toNat = 0
   ·by_cases h1 : k.toNat = 1
    ·exact wdec_1a w0 t k f z n r hr hz (by omega) hf h1 v X
    ·by_cases h2 : k.toNat = 2
     ·exact wdec_2 w0 t k f z n r hr hz (by omega) hf h2 v X
     ·by_cases h3 : k.toNat = 3
      ·exact wdec_3 w0 t k f z n r hr hz (by omega) hf h3 v X
      ·by_cases h9 : k.toNat = 9
       ·exact wdec_9 w0 t k f z n r hr hz (by omega) hf h9 v X
       ·exact wdec_other w0 t k f z n r hr (dec_kind h1 h2 h3 h9) hz (by omega) hf h1 h2 h3 h9 v X
   ·by_cases h8 : f.toNat = 8
    ·by_cases h1 : k.toNat = 1
     ·exact wdec_1b w0 t k f z n r hr hz (by omega) h8 h1 v X
     ·exact wdec_bad w0 t k f z n r hr (dec_flag hf (.inr h1)) (by omega) v X
    ·exact wdec_bad w0 t k f z n r hr (dec_flag hf (.inl h8)) (by omega) v X
 ·exact wdec_bad w0 t k f z n r hr (dec_bad (.inl hz)) (by omega) v X
end

section
open Go.RowKit
def Pk.lose (l : List (UInt32 × UInt32)) : Pk := ⟨1, 3, 0, false, 0, 0, 0, 0, 0, 0, l, []⟩
def Nd.tell (s : Nd) (to dest seq : UInt32) : Nd := s.send to (Pk.lose [(dest, seq)])
def Nd.rcvQ (s : Nd) (now : UInt64) (from_ : UInt32) (f : Str) : Nd := match Pk.dec f with
 | none => s.drop 0
 | some p => if from_ = 0 ∨ from_ = s.self then s.drop 0 else
  if p.kind = 9 ∧ p.dest ≠ s.self then Nd.drop { s.tell from_ p.dest (numT s.ls p.dest) with silent := now + 2000 } 8 else s.drop 8
def Nd.Deaf (s : Nd) (now : UInt64) (from_ : UInt32) (f : Str) : Prop := Pk.dec f = none ∨ (from_ = 0 ∨ from_ = s.self) ∨ now < s.silent
theorem Pk.lose_ok (l : List (UInt32 × UInt32)) (h : l.length ≤ 100000) : (Pk.lose l).Ok := by
 constructor <;> simp [Pk.lose, i64R, h]
attribute [local irreducible] WS LS OpQ OpT OpH OpTQ Spec SpecQ cel
variable (w0 : World)
set_option maxRecDepth 100000 in
theorem tell_spec (gn : Nat) (s : Nd) (h : NH) (to dest seq : UInt32) (hd : s.out.frames.length ≤ 900000) : Spec Tryz.prog w0 68 [ptr gn 0, u32 to, u32 dest, u32 seq] (nodP gn s h) (fun _ : Value => .tuple #[]) (fun vf => nodP gn (s.tell to dest seq) { h with vf := vf }) := by
  have p1 := fun v hv => nsend_spec w0 gn s h to (Pk.lose [(dest, seq)]) (Pk.lose_ok _ (by simp)) v hv (rows 180 2 lostC v [(dest, seq)]) (hX := rdr_bare _ _ _ _ _) hd
  simp only [Pk.val, Pk.cells, Pk.lose] at p1
  refine Spec.enter Tryz.func68 rfl Tryz.ntmps68 rfl fun G => ?_
  simp only [argE]
  repeat' (first | refine stZ ?_ | refine sqZ ?_ | (refine LS_h (H_buildSliceR lostC [(dest, seq)] iI iI iI rfl rfl rfl rfl rfl iI rfl rfl rfl) rfl ?_; intro vl; refine LS_form vl iI fun A cap hv => ?_; subst hv) | (refine LS_h (H_callX iI rfl (p1 _ rfl) iI) rfl ?_; intro vf))
  exact ret_none (.inr rfl) rfl ⟨vf, rfl, by unfold Nd.tell Pk.lose; exact finE⟩
set_option maxRecDepth 100000 in
theorem rcvQ_spec (gn : Nat) (s : Nd) (now : UInt64) (from_ : UInt32) (f : Str) (hq : s.Deaf now from_ f) (hf : f.length ≤ 100000) (hd : s.out.frames.length ≤ 10000) (hd2 : s.out.dropped.length ≤ 10000) (bf br bn bw : Nat) (tf tr tn tw : TypeId) (v : Value) (X : HProp) [hX : Rdr w0 X v UInt8 1 byteC f] :
    Spec Tryz.prog w0 65 [ptr bf 0, ptr br 0, ptr bn 0, ptr bw 0] (nodA gn s * (cel bf tf [v] * (cel br tr [u32 from_] * (cel bn tn [ptr gn 0] * (cel bw tw [u64 now] * X))))) (fun _ : Unit => .tuple #[]) (fun _ => nodA gn (s.rcvQ now from_ f) * X) := by
  have p1 := wdecode_spec w0 f hf v X
  refine Spec.enter Tryz.func65 rfl Tryz.ntmps65 rfl fun G => ?_
  rw [star_assoc (nodA gn s)]
  refine WS_nod fun h => ?_
  have p2 := ndrop_spec w0 gn s h 0 (by omega)
  have p3 := ndrop_spec w0 gn s h 8 (by omega)
  have p4 := fun d => number_spec w0 h.tb s.self s.ls d
  have p5 := fun d q => tell_spec w0 gn s h from_ d q (by omega)
  unfold Nd.Deaf at hq
  unfold decV decH at p1
  cases hp : Pk.dec f with
  | none =>
    have es : s.rcvQ now from_ f = s.drop 0 := by unfold Nd.rcvQ; rw [hp]
    simp only [hp, Option.getD_none, Option.isSome_none, Pk.val, Pk.cells, Pk.zero] at p1
    simp only [argE]
    repeat' (first | (refine WS_seqK ?_; intro K hK) | (refine hK _ ?_; clear hK K) | refine stZ ?_ | (refine s2Z ?_ ?_ <;> intro hc <;> (try simp only [cS] at hc) <;> (try (exfalso; first | contradiction | omega))) | refine sqZ ?_ | (refine shZ ?_; intro g) | (refine s0Z ?_; intro g) | refine WS_drawS (by kernel_rfl) ?_ | (refine LS_h (H_callX iI rfl p1 iI) rfl ?_; intro vl) | (refine LS_h (H_callX iI rfl p2 iI) rfl ?_; intro v2))
    exact ret_none (.inr rfl) rfl ⟨(), rfl, by rw [es, star_assoc (nodA _ _)]; exact Ent.nod { h with vd := v2 } (finE)⟩
  | some p =>
    simp only [hp, Option.getD_some, Option.isSome_some, Pk.val, Pk.cells] at p1
    by_cases h0 : from_ = 0 ∨ from_ = s.self
    · have es : s.rcvQ now from_ f = s.drop 0 := by unfold Nd.rcvQ; rw [hp]; simp only [h0, if_true]
      clear p3 p4 p5
      simp only [argE]
      rcases h0 with h0 | h0
      · repeat' (first | (refine WS_seqK ?_; intro K hK) | (refine hK _ ?_; clear hK K) | refine stZ ?_ | (refine s2Z ?_ ?_ <;> intro hc <;> (try simp only [cS] at hc) <;> (try (exfalso; first | contradiction | omega))) | refine sbZ ?_ | refine sqZ ?_ | (refine shZ ?_; intro g) | (refine s0Z ?_; intro g) | refine WS_drawS (by kernel_rfl) ?_ | (refine LS_h (H_callX iI rfl p1 iI) rfl ?_; intro vl) | (refine LS_h (H_callX iI rfl p2 iI) rfl ?_; intro v2))
        exact ret_none (.inr rfl) rfl ⟨(), rfl, by rw [es, star_assoc (nodA _ _)]; exact Ent.nod { h with vd := v2 } (finE)⟩
      · by_cases h00 : from_ = 0
        · repeat' (first | (refine WS_seqK ?_; intro K hK) | (refine hK _ ?_; clear hK K) | refine stZ ?_ | (refine s2Z ?_ ?_ <;> intro hc <;> (try simp only [cS] at hc) <;> (try (exfalso; first | contradiction | omega))) | refine sbZ ?_ | refine sqZ ?_ | (refine shZ ?_; intro g) | (refine s0Z ?_; intro g) | refine WS_drawS (by kernel_rfl) ?_ | (refine LS_h (H_callX iI rfl p1 iI) rfl ?_; intro vl) | (refine LS_h (H_callX iI rfl p2 iI) rfl ?_; intro v2))
          exact ret_none (.inr rfl) rfl ⟨(), rfl, by rw [es, star_assoc (nodA _ _)]; exact Ent.nod { h with vd := v2 } (finE)⟩
        · simp only [nodP, nodPm, nodC] at p2 ⊢
          repeat' (first | (show WS _ _ _ (.region 2 _ true) _ _; refine WS_drawA (.range 15) (by decide +kernel) rfl ?_) | (refine WS_seqK ?_; intro K hK) | (refine hK _ ?_; clear hK K) | refine stZ ?_ | (refine s2Z ?_ ?_ <;> intro hc <;> (try simp only [cS] at hc) <;> (try (exfalso; first | contradiction | omega))) | refine sbZ ?_ | refine sqZ ?_ | (refine shZ ?_; intro g) | (refine s0Z ?_; intro g) | (refine LS_h (H_callX iI rfl p1 iI) rfl ?_; intro vl) | (refine LS_h (H_callX iI rfl p2 iI) rfl ?_; intro v2))
          exact ret_none (.inr rfl) rfl ⟨(), rfl, by rw [es, star_assoc (nodA _ _)]; exact Ent.nod { h with vd := v2 } (by simp only [nodP, nodPm, nodC]; exact finE)⟩
    · have hs : now < s.silent := by
        rcases hq with hq | hq | hq
        · rw [hp] at hq; cases hq
        · exact absurd hq h0
        · exact hq
      obtain ⟨ttl, kind, hops, unknown, id, dest, destSeq, from2, fromSeq, life, lost, payload⟩ := p
      have h1 : from_ ≠ 0 := fun e => h0 (.inl e)
      have h2 : from_ ≠ s.self := fun e => h0 (.inr e)
      simp only at p1
      by_cases hk : kind = 9
      · subst hk
        by_cases hd3 : dest = s.self
        · have es : s.rcvQ now from_ f = s.drop 8 := by unfold Nd.rcvQ; rw [hp]; simp [h1, h2, hd3]
          clear p2 p4 p5
          simp only [nodP, nodPm, nodC] at p3 ⊢
          simp only [argE]
          repeat' (first | (show WS _ _ _ (.region 2 _ true) _ _; refine WS_drawA (.range 15) (by decide +kernel) rfl ?_) | (show WS _ _ _ (.region 4 _ true) _ _; refine WS_drawA (.range 7) (by decide +kernel) rfl ?_) | (show WS _ _ _ (.region 5 _ true) _ _; refine WS_drawA (.range 12) (by decide +kernel) rfl ?_) | (refine WS_seqK ?_; intro K hK) | (refine hK _ ?_; clear hK K) | refine stZ ?_ | (refine s2Z ?_ ?_ <;> intro hc <;> (try simp only [cS] at hc) <;> (try (exfalso; first | contradiction | omega))) | refine sbZ ?_ | refine sqZ ?_ | (refine shZ ?_; intro g) | (refine s0Z ?_; intro g) | (refine LS_h (H_callX iI rfl p1 iI) rfl ?_; intro vl) | (refine LS_h (H_callX iI rfl p3 iI) rfl ?_; intro v2))
          exact ret_none (.inr rfl) rfl ⟨(), rfl, by rw [es, star_assoc (nodA _ _)]; exact Ent.nod { h with vd := v2 } (by simp only [nodP, nodPm, nodC]; exact finE)⟩
        · obtain ⟨s1, hs1⟩ : ∃ s1 : Nd, s1 = s.tell from_ dest (numT s.ls dest) := ⟨_, rfl⟩
          have es : s.rcvQ now from_ f = Nd.drop { s1 with silent := now + 2000 } 8 := by unfold Nd.rcvQ; rw [hp, hs1]; simp [h1, h2, hd3]
          have er : ∀ h', restP gn { s1 with silent := now + 2000 } h' = restP gn s1 h' := fun _ => rfl
          have p6 := fun vf => ndrop_spec w0 gn { s1 with silent := now + 2000 } { h with vf := vf } 8 (by rw [hs1]; show s.out.dropped.length ≤ _; omega)
          replace p4 := p4 dest
          replace p5 := p5 dest (numT s.ls dest)
          rw [← hs1] at p5
          clear p2 p3
          simp only [nodP, nodPm, nodC, er] at p5 p6 ⊢
          simp only [argE]
          repeat' (first | (show WS _ _ _ (.region 2 _ true) _ _; refine WS_drawA (.range 15) (by decide +kernel) rfl ?_) | (show WS _ _ _ (.region 4 _ true) _ _; refine WS_drawA (.range 7) (by decide +kernel) rfl ?_) | (show WS _ _ _ (.region 5 _ true) _ _; refine WS_drawA (.range 12) (by decide +kernel) rfl ?_) | (show WS _ _ _ (.region 6 _ true) _ _; refine WS_drawK (.range 12) 6 [0, 3, 5] (by decide +kernel) rfl ?_) | (refine WS_seqK ?_; intro K hK) | (refine hK _ ?_; clear hK K) | refine stZ ?_ | (refine s2Z ?_ ?_ <;> intro hc <;> (try simp only [cS] at hc) <;> (try (exfalso; first | contradiction | omega))) | refine sbZ ?_ | refine sqZ ?_ | ((refine' LQ ?zh rfl ?_); case zh => intro F'; exact Q_bin rfl rfl iI) | (refine shZ ?_; intro g) | (refine s0Z ?_; intro g) | (refine LS_h (H_callX iI rfl p1 iI) rfl ?_; intro vl) | (refine DL_h (H_callX iI rfl p4 iI) rfl rfl rfl ?_; intro u4) | (refine LS_h (H_callX iI rfl p5 iI) rfl ?_; intro vf; replace p6 := p6 vf) | (refine LS_h (H_callX iI rfl p6 iI) rfl ?_; intro v2))
          exact ret_none (.inr rfl) rfl ⟨(), rfl, by rw [es, star_assoc (nodA _ _)]; exact Ent.nod { h with vf := vf, vd := v2 } (by simp only [nodP, nodPm, nodC]; exact finE)⟩
      · have es : s.rcvQ now from_ f = s.drop 8 := by unfold Nd.rcvQ; rw [hp]; simp [h1, h2, hk]
        clear p2 p4 p5
        simp only [nodP, nodPm, nodC] at p3 ⊢
        simp only [argE]
        repeat' (first | (show WS _ _ _ (.region 2 _ true) _ _; refine WS_drawA (.range 15) (by decide +kernel) rfl ?_) | (show WS _ _ _ (.region 4 _ true) _ _; refine WS_drawA (.range 7) (by decide +kernel) rfl ?_) | (show WS _ _ _ (.region 5 _ true) _ _; refine WS_drawA (.range 12) (by decide +kernel) rfl ?_) | (refine WS_seqK ?_; intro K hK) | (refine hK _ ?_; clear hK K) | refine stZ ?_ | (refine s2Z ?_ ?_ <;> intro hc <;> (try simp only [cS] at hc) <;> (try (exfalso; first | contradiction | omega))) | refine sbZ ?_ | refine sqZ ?_ | (refine shZ ?_; intro g) | (refine s0Z ?_; intro g) | (refine LS_h (H_callX iI rfl p1 iI) rfl ?_; intro vl) | (refine LS_h (H_callX iI rfl p3 iI) rfl ?_; intro v2))
        exact ret_none (.inr rfl) rfl ⟨(), rfl, by rw [es, star_assoc (nodA _ _)]; exact Ent.nod { h with vd := v2 } (by simp only [nodP, nodPm, nodC]; exact finE)⟩
end

section
open Go.RowKit
theorem Nd.noteL_jour (s : Nd) (l : Ln) : (s.noteL l).out.journal.length ≤ s.out.journal.length + 13 := by
  unfold Nd.noteL
  (repeat' split) <;> simp [Nd.write, Rec.bytes_length]
theorem Nd.noteO_jour (s : Nd) : s.noteO.out.journal.length ≤ s.out.journal.length + 13 := by
 unfold Nd.noteO
 split <;> simp [Nd.write, Rec.bytes_length]
theorem Nd.noteLs_jour (L : List Ln) : ∀ s : Nd, (L.foldl Nd.noteL s).out.journal.length ≤ s.out.journal.length + 13 * L.length := by
 induction L with
 | nil => intro s; simp
 | cons l L ih => intro s; have h1 := ih (s.noteL l); have h2 := s.noteL_jour l; simp only [List.foldl_cons, List.length_cons]; omega
theorem Nd.note_jour (s : Nd) (ok : TabOk s.ls) : s.note.out.journal.length ≤ s.out.journal.length + 117 := by
 have h1 := Nd.noteLs_jour (listT s.ls) s.noteO
 have h2 := s.noteO_jour
 have h3 := listT_length s.ls
 have h4 := ok.short
 unfold Nd.note
 omega
structure Nd.Same (s t : Nd) : Prop where
  ls : t.ls = s.ls
  self : t.self = s.self
  seq : t.seq = s.seq
  silent : t.silent = s.silent
  seen : t.seen = s.seen
  order : t.order = s.order
  wait : t.wait = s.wait
  srs : t.srs = s.srs
  clk : t.clk = s.clk
  last : t.last = s.last
  names : t.names = s.names
  ids : t.ids = s.ids
  datas : t.datas = s.datas
  sent : t.sent = s.sent
  now : t.now = s.now
  frames : t.out.frames = s.out.frames
  came : t.out.came = s.out.came
  dropped : t.out.dropped = s.out.dropped
  replace : t.out.replace = s.out.replace
theorem Nd.Same.rfl' (s : Nd) : s.Same s := by constructor <;> rfl
theorem Nd.Same.write (s : Nd) (r : Rec) : s.Same (s.write r) := by constructor <;> rfl
theorem Nd.Same.trans {s t u : Nd} (h : s.Same t) (k : t.Same u) : s.Same u := by
 constructor
 ·exact k.ls.trans h.ls
 ·exact k.self.trans h.self
 ·exact k.seq.trans h.seq
 ·exact k.silent.trans h.silent
 ·exact k.seen.trans h.seen
 ·exact k.order.trans h.order
 ·exact k.wait.trans h.wait
 ·exact k.srs.trans h.srs
 ·exact k.clk.trans h.clk
 ·exact k.last.trans h.last
 ·exact k.names.trans h.names
 ·exact k.ids.trans h.ids
 ·exact k.datas.trans h.datas
 ·exact k.sent.trans h.sent
 ·exact k.now.trans h.now
 ·exact k.frames.trans h.frames
 ·exact k.came.trans h.came
 ·exact k.dropped.trans h.dropped
 ·exact k.replace.trans h.replace
theorem Nd.Same.noteL (s : Nd) (l : Ln) : s.Same (s.noteL l) := by
  unfold Nd.noteL
  (repeat' split) <;> first | exact Nd.Same.write _ _ | exact Nd.Same.rfl' _
theorem Nd.Same.noteO (s : Nd) : s.Same s.noteO := by
 unfold Nd.noteO
 split
 ·exact Nd.Same.write _ _
 ·exact Nd.Same.rfl' _
theorem Nd.Same.noteLs (L : List Ln) : ∀ s : Nd, s.Same (L.foldl Nd.noteL s) := by
 induction L with
 | nil => intro s; exact Nd.Same.rfl' s
 | cons l L ih => intro s; exact (Nd.Same.noteL s l).trans (ih _)
theorem Nd.Same.note (s : Nd) : s.Same s.note := (Nd.Same.noteO s).trans (Nd.Same.noteLs _ _)
theorem Nd.begin_ls (s : Nd) (now : UInt64) : (s.begin now).ls = expT now s.ls := (Nd.Same.note _).ls
theorem Nd.begin_self (s : Nd) (now : UInt64) : (s.begin now).self = s.self := (Nd.Same.note _).self
theorem Nd.begin_frames (s : Nd) (now : UInt64) : (s.begin now).out.frames = [] := (Nd.Same.note _).frames
theorem Nd.begin_came (s : Nd) (now : UInt64) : (s.begin now).out.came = [] := (Nd.Same.note _).came
theorem Nd.begin_dropped (s : Nd) (now : UInt64) : (s.begin now).out.dropped = [] := (Nd.Same.note _).dropped
theorem Nd.begin_recs (s : Nd) (now : UInt64) (ok : TabOk s.ls) : (s.begin now).recs.length ≤ s.recs.length + 9 := by
 have := Nd.note_recs { s with now := now, out := OutD.zero, ls := expT now s.ls } (ok.exp now)
 exact this
theorem Nd.begin_jour (s : Nd) (now : UInt64) (ok : TabOk s.ls) : (s.begin now).out.journal.length ≤ 117 := by
 have := Nd.note_jour { s with now := now, out := OutD.zero, ls := expT now s.ls } (ok.exp now)
 simpa [OutD.zero, Nd.begin] using this
attribute [local irreducible] WS LS OpQ OpT OpH OpTQ Spec SpecQ cel
variable (w0 : World)
end

section
def seenAt (m : List (Rq × UInt64)) (r : Rq) : UInt64 := (mget m r).getD 0
def remStep (now : UInt64) (p : List (Rq × UInt64) × List Rq) (x : Rq) : List (Rq × UInt64) × List Rq := if now < seenAt p.1 x then (p.1, p.2 ++ [x]) else (mdel p.1 x, p.2)
def remAll (now : UInt64) (m : List (Rq × UInt64)) (l : List Rq) : List (Rq × UInt64) × List Rq := l.foldl (remStep now) (m, [])
def firstStep (m : List (Rq × UInt64)) (l : List Rq) (i : Nat) (j : Nat) : Nat := if seenAt m (l.getD j ⟨0, 0⟩) < seenAt m (l.getD i ⟨0, 0⟩) then j else i
def firstOf (m : List (Rq × UInt64)) (l : List Rq) (k : Nat) : Nat := (List.range k).foldl (firstStep m l) 0
theorem firstOf_succ (m : List (Rq × UInt64)) (l : List Rq) (k : Nat) : firstOf m l (k + 1) = firstStep m l (firstOf m l k) k := by simp [firstOf, List.range_succ]
theorem firstOf_lt (m : List (Rq × UInt64)) (l : List Rq) : ∀ k, k ≤ l.length → 0 < l.length → firstOf m l k < l.length
 | 0, _, h => h
 | k + 1, hk, h => by
  have := firstOf_lt m l k (by omega) h
  rw [firstOf_succ]
  unfold firstStep
  split <;> omega
def Nd.remember (s : Nd) (r : Rq) : Nd :=
 let p := remAll s.now s.seen s.order
 let m := mset p.1 r (s.now + 1280)
 let l := p.2 ++ [r]
 if l.length ≤ 16 then { s with seen := m, order := l } else
 let i := firstOf m l l.length
 { s with seen := mdel m (l.getD i ⟨0, 0⟩), order := l.take i ++ l.drop (i + 1) }
theorem remAll_snoc (now : UInt64) (m : List (Rq × UInt64)) (l : List Rq) (x : Rq) : remAll now m (l ++ [x]) = remStep now (remAll now m l) x := by simp [remAll]
theorem remAll_length (now : UInt64) (m : List (Rq × UInt64)) (l : List Rq) : (remAll now m l).2.length ≤ l.length := by
 induction l using snocInd with
 | nil => simp [remAll]
 | snoc l x ih =>
  rw [remAll_snoc]
  unfold remStep
  split <;> simp <;> omega
def Nd.soon (s : Nd) : UInt64 := s.now + 3000
def Ln.learned (dest seq : UInt32) (hops : Int) (next : UInt32) (e : UInt64) : Ln := ⟨dest, seq, hops, next, false, e, []⟩
def Nd.answer (s : Nd) (p : Pk) : Nd := match lookT s.ls p.from_ s.now with
 | some b => s.send b.next { p with ttl := 8, kind := 2 }
 | none => s.drop 3
def hop1 (p : Pk) : Int := min (p.hops + 1) 255
def Nd.req3 (s : Nd) (p : Pk) : Nd :=
 if p.ttl = 1 then s.drop 4 else
 match lget s.ls p.dest with
 | some l => s.send 0 { p with ttl := p.ttl - 1, hops := hop1 p, destSeq := max p.destSeq l.seq, unknown := false }
 | none => s.send 0 { p with ttl := p.ttl - 1, hops := hop1 p }
def Nd.ans2 (s : Nd) (p : Pk) (x : Ln) : Nd :=
 Nd.answer { s with ls := befT (match lookT s.ls p.from_ s.now with | some b => befT s.ls p.dest b.next | none => s.ls) p.from_ x.next } ⟨0, 0, x.hops, false, 0, p.dest, x.seq, p.from_, 0, (x.expires - s.now).toUInt32, [], []⟩
def Nd.req2 (s : Nd) (p : Pk) : Nd :=
 if p.dest = s.self then
  let q := if p.unknown then s.seq else max s.seq p.destSeq
  Nd.answer { s with seq := q } ⟨0, 0, 0, false, 0, p.dest, q, p.from_, 0, 6000, [], []⟩
 else match lookT s.ls p.dest s.now with
 | some x => if p.unknown = true ∨ p.destSeq ≤ x.seq then s.ans2 p x else s.req3 p
 | none => s.req3 p
def Nd.reqU (s : Nd) (src : UInt32) (p : Pk) : Int × List Ln := updT s.self s.ls (Ln.learned p.from_ p.fromSeq (hop1 p) src s.soon)
def Nd.req (s : Nd) (src : UInt32) (p : Pk) : Nd :=
 if p.from_ = s.self ∨ s.now < seenAt s.seen ⟨p.from_, p.id⟩ then s.drop 1 else
 let s1 := s.remember ⟨p.from_, p.id⟩
 let u := s1.reqU src p
 if u.1 = 4 then Nd.drop { s1 with ls := u.2 } 2 else
 Nd.req2 { s1 with ls := if u.1 = 3 then useT u.2 p.from_ s1.soon else u.2 } p
def Nd.lost (s : Nd) (l : List (UInt32 × UInt32)) : Nd := if 0 < l.length then s.send 0 (Pk.lose l) else s
def loseStep (src : UInt32) (a : List Ln × List (UInt32 × UInt32) × Bool) (l : UInt32 × UInt32) : List Ln × List (UInt32 × UInt32) × Bool :=
 (loseT a.1 src l.1 l.2, if (losesT a.1 src l.1 && decide (0 < ((lget a.1 l.1).getD Ln.zero).before.length)) = true then a.2.1 ++ [(l.1, numT (loseT a.1 src l.1 l.2) l.1)] else a.2.1, a.2.2 || losesT a.1 src l.1)
def loseAll (src : UInt32) (ls : List Ln) (l : List (UInt32 × UInt32)) : List Ln × List (UInt32 × UInt32) × Bool := l.foldl (loseStep src) (ls, [], false)
def Nd.los (s : Nd) (src : UInt32) (p : Pk) : Nd :=
 let a := loseAll src s.ls p.lost
 let s1 := Nd.lost { s with ls := a.1 } a.2.1
 if a.2.2 = true then s1 else s1.drop 7
def Nd.came (s : Nd) (x : UInt32 × Str) : Nd := { s with out := { s.out with came := s.out.came ++ [x] } }
def Nd.dat (s : Nd) (src : UInt32) (p : Pk) : Nd :=
 if p.dest = s.self then s.came (p.from_, p.payload) else
 if p.ttl = 1 then s.drop 4 else
 match lookT s.ls p.dest s.now with
 | none => Nd.tell { s.drop 3 with ls := bumpT s.ls p.dest } src p.dest (numT (bumpT s.ls p.dest) p.dest)
 | some x => { s.send x.next { p with ttl := p.ttl - 1 } with ls := useT (useT s.ls p.dest s.soon) p.from_ s.soon }
def Nd.brk (s : Nd) (nb : UInt32) : Nd := Nd.lost { s with ls := brkT nb s.ls } (outB nb (sortU (dests s.ls)) s.ls)
def Nd.hand (s : Nd) (dest : UInt32) (text : Str) : Nd := match lookT s.ls dest s.now with
 | none => s
 | some x => { Nd.send { s with datas := s.datas + 1 } x.next ⟨8, 9, 0, false, s.datas + 1, dest, 0, s.self, 0, 0, [], text⟩ with ls := useT s.ls dest s.soon }
def srFind (ss : List Sr) (d : UInt32) : Option Nat := ss.findIdx? fun x => x.dest = d
def nmFind (ss : List Sr) (k : Int) : Option Nat := ss.findIdx? fun x => x.name = k
def Nd.texts (s : Nd) (d : UInt32) : List Str := (mget s.wait d).getD []
def Nd.stop (s : Nd) (k : Nat) : Nd := { s with srs := s.srs.eraseIdx k }
def Nd.handAll (s : Nd) (dest : UInt32) (l : List Str) : Nd := l.foldl (fun s t => s.hand dest t) s
def Nd.unwait (s : Nd) (dest : UInt32) : Nd := { s with wait := mdel s.wait dest }
def Nd.flush (s : Nd) (dest : UInt32) : Nd :=
 let s1 := (s.handAll dest (s.texts dest)).unwait dest
 match srFind s1.srs dest with
 | some k => s1.stop k
 | none => s1
def busyN (now : UInt64) (l : List UInt64) : Nat := (l.filter fun a => now < a + 1000).length
def Nd.arm (s : Nd) (k : Int) (w : UInt64) : Nd := { s with clk := s.clk ++ [⟨s.now + w, s.last + 1, k⟩], last := s.last + 1 }
def Nd.setOut (s : Nd) (k : Nat) (b : Bool) : Nd := { s with srs := s.srs.modify k fun x => { x with out := b } }
def trimS (l : List UInt64) : List UInt64 := if 5 < l.length then l.drop 1 else l
def askWait (x : Sr) : UInt64 := UInt64.ofInt (80 * (x.ttl + 2) * 2 ^ x.retries.toNat)
def Nd.ask1 (s : Nd) (x : Sr) : Nd :=
 let s1 := Nd.note { s with seq := growS s.seq }
 let s2 := { s1 with ids := s1.ids + 1, sent := trimS (s1.sent ++ [s1.now]) }
 let s3 := s2.send 0 ⟨x.ttl, 1, 0, (lget s2.ls x.dest).isNone, s2.ids, x.dest, numT s2.ls x.dest, s2.self, s2.seq, 0, [], []⟩
 s3.remember ⟨s3.self, s3.ids⟩
def Nd.ask (s : Nd) (k : Nat) (x : Sr) : Nd :=
 if s.now < s.silent then ((s.setOut k false).drop 8).arm x.name 1000 else
 if 5 ≤ busyN s.now s.sent then ((s.setOut k false).drop 9).arm x.name 1000 else
 ((s.setOut k true).ask1 x).arm x.name (askWait x)
def Sr.further (x : Sr) : Option Sr :=
 if x.ttl < 5 then some { x with ttl := x.ttl + 2 } else
 if x.ttl < 8 then some { x with ttl := 8 } else
 if x.retries < 2 then some { x with retries := x.retries + 1 } else none
def Nd.drops (s : Nd) (n : Nat) (k : Int) : Nd := { s with out := { s.out with dropped := s.out.dropped ++ List.replicate n k } }
def Nd.again (s : Nd) (k : Nat) (x : Sr) : Nd :=
 match lookT s.ls x.dest s.now with
 | some _ => s.flush x.dest
 | none => if x.out = true then match x.further with
  | some y => Nd.ask { s with srs := s.srs.set k y } k y
  | none => ((s.drops (s.texts x.dest).length 5).unwait x.dest).stop k
  else s.ask k x
def Nd.rep (s : Nd) (src : UInt32) (p : Pk) : Nd :=
 if p.dest = s.self then s.drop 1 else
 let u := updT s.self s.ls (Ln.learned p.dest p.destSeq (hop1 p) src (s.now + p.life.toUInt64))
 let s1 := { s with ls := u.2 }
 if u.1 = 4 then s1.drop 2 else
 if p.from_ = s1.self then
  let s2 := if (lookT s1.ls p.dest s1.now).isSome then s1.flush p.dest else s1
  if u.1 = 3 then s2.drop 7 else s2
 else match lookT s1.ls p.from_ s1.now with
 | none => if p.ttl = 1 then s1.drop 4 else s1.drop 3
 | some b => if p.ttl = 1 then s1.drop 4 else { s1.send b.next { p with ttl := p.ttl - 1, hops := hop1 p } with ls := useT (befT (befT s1.ls p.dest b.next) p.from_ src) p.from_ s1.soon }
def Nd.handle (s : Nd) (src : UInt32) (p : Pk) : Nd :=
 if p.kind = 1 then s.req src p else if p.kind = 2 then s.rep src p else if p.kind = 3 then s.los src p else s.dat src p
def Nd.rcv (s : Nd) (now : UInt64) (src : UInt32) (f : Str) : Nd := match Pk.dec f with
 | none => s.rcvQ now src f
 | some p => if src = 0 ∨ src = s.self ∨ now < s.silent then s.rcvQ now src f else s.handle src p
def Nd.newSr (s : Nd) (dest : UInt32) : Nd := { s with names := s.names + 1, srs := s.srs ++ [⟨dest, 1, 0, false, s.names + 1⟩] }
def Nd.sendT (s : Nd) (dest : UInt32) (text : Str) : Nd :=
 if (lookT s.ls dest s.now).isSome then s.hand dest text else
 let s1 := if (s.texts dest).length = 4 then Nd.drop { s with wait := mset s.wait dest ((s.texts dest).drop 1) } 6 else s
 let s2 := { s1 with wait := mset s1.wait dest (s1.texts dest ++ [text]) }
 match srFind s2.srs dest with
 | some _ => s2
 | none => Nd.ask (s2.newSr dest) s2.srs.length ⟨dest, 1, 0, false, s2.names + 1⟩
def Nd.step (s : Nd) (now : UInt64) : Option Nd := match bestN s.clk now s.clk.length with
 | none => none
 | some i =>
  let s1 := { s with clk := s.clk.eraseIdx i }
  match nmFind s1.srs (at' s.clk i).what with
  | some k => match s1.srs[k]? with
   | some x => some (s1.again k x)
   | none => some s1
  | none => some s1
def Nd.ticks : Nat → Nd → UInt64 → Nd
 | 0, s, _ => s
 | f + 1, s, now => match s.step now with
  | some t => t.ticks f now
  | none => s
end

section
open Go.RowKit
def sCut (v : Value) (k : Nat) : Value := match v with
 | .slice A m c => .slice A (min k m) (min k m)
 | v => v
section
variable {P : Program} {n : Frm} {w0 : World} {E : Env} {D : List Deferred} {H F : HProp} {ops : Array Oper} {l' : List Oper} {Q : Exit → St → Prop} {α : Type} {e : TypeId} {size : Nat} {f : α → List Value} {v u : Value} {l ys : List α}
variable {d : Option Tmp} {ty : TypeId} {pos : String} {after : Array Edge} {gu : Option (Nat × Bool)} {x y z : Operand}
theorem Q_sliceR_hm {t e2 : TypeId} {q q2 : IntKind} {i i2 : Int} {k : Nat} (hx : E.ev x = some v) (hy : E.ev y = some (.int q i)) (hz : E.ev z = some (.int q2 i2)) (hii : i2 = i) (hl : Rdr w0 H v α size f l) (ht : Und P t (.slice e2)) (hs2 : Siz P e2 size) (hi : AsNat i k) (hk : k ≤ l.length) :
  OpQ P n w0 ⟨d, .slice t x none (some y) (some z), ty, pos, after, gu⟩ E H (sCut v k) := fun a w s hs => by
 subst hii
 obtain ⟨A, c, rfl, h1, h2⟩ := (hl.at_ w hs).form
 obtain ⟨i0, hi0, hi1⟩ := Option.map_eq_some_iff.1 hs2.eq
 obtain rfl := hi.eq
 have hel : P.elem t = e2 := by simp [Program.elem, ht.eq]
 have ht' : P.underlying t = some (.slice (P.elem t)) := by rw [ht.eq, hel]
 have hr := run_slice_hm (P := P) (w := w) t A l.length c ht' q q2 (k : Int) (k : Int) (by omega) (by omega) (by omega)
 have hmin : min k l.length = k := by omega
 have hz' : (sizeOf e2).run P w = .ok size w := by simp [sizeOf, typeInfo, hi0, hi1]
 rw [hel, hz'] at hr
 have hA : (if k = 0 then A else A.map (·.add (0 * size))) = A := by
  split
  ·rfl
  ·cases A with
   | none => rfl
   | some a => simp; unfold Addr.add; cases a; simp
 simp only [execOp, s.ev hx, s.ev hy, s.ev hz, Option.map_some, Option.map_none, run_sliceAt_slice w t _ _ _ _ ht', Sem.run_bind, hr, Result.andThen_ok, Sem.run_pure, Int.toNat_natCast, sCut, hmin, sliced, hA, Nat.sub_zero]
theorem Ent.cut (k : Nat) (hk : k ≤ l.length) [h : RowsOf H v α e size f l F] [hf : FixLen f size] : Ent H (rows e size f (sCut v k) (l.take k) * F) := by
 rw [h.eq]
 refine Ent.star (fun x hx => ?_) (Ent.refl _)
 obtain ⟨hlen, hx⟩ := hx
 have hll : ∀ m : List α, (m.flatMap f).length = m.length * size := by
  intro m
  induction m with
  | nil => simp
  | cons a m ih => simp [ih, hf.eq, Nat.succ_mul]; omega
 refine ⟨x, ⟨hll _, ?_⟩, fun _ _ e => e⟩
 have hkl : (l.take k).length = k := by simp; omega
 rcases hx with ⟨A, rfl, hn, hk0⟩ | ⟨g, off, cap, cur, fr, rfl, h1, h2, h3, h4, h5, h6⟩
 ·refine .inl ⟨A, by simp [sCut, hn], by omega, hk0⟩
 ·have hle : k * size ≤ cap * size := Nat.mul_le_mul_right _ (by omega)
  refine .inr ⟨g, off, k, cur, fr, by simp only [sCut, hkl, Nat.min_eq_left hk], by omega, by omega, by omega, ?_, ?_, h6⟩
  ·rw [hkl]
   have e1 : ((l.take k).flatMap f) = (l.flatMap f).take (k * size) := by
    have : l.flatMap f = (l.take k).flatMap f ++ (l.drop k).flatMap f := by rw [← List.flatMap_append, List.take_append_drop]
    rw [this, List.take_left' (by rw [hll, hkl])]
   rw [e1, ← h4, List.take_take, Nat.min_eq_left (Nat.mul_le_mul_right _ hk)]
  ·exact fun i a b => h5 i a (by omega)
theorem T_appendCut {t : TypeId} {bytes : Nat} (k j : Nat) (hk : k ≤ l.length) (hj : j ≤ l.length) (hu : u = sTail size v j) (hx : E.ev x = some (sCut v k)) (hy : E.ev y = some u) (hT : SlT P t e size bytes) (hf : FixLen f size) (h1 : ∀ z, ∀ c ∈ f z, c.oneCell' = true) (hn : l.length + l.length ≤ 1000000) (hby : bytes ≤ 1000) (hp : NeZero size) :
  OpT P n w0 ⟨d, .call ⟨.builtin .append, #[x, y], #[t, t]⟩, ty, pos, after, gu⟩ E (rows e size f v l) (fun v' : Value => v') (fun v' => rows e size f v' (l.take k ++ l.drop j)) := fun G a w K Q s hs hK => by
 subst hu
 have hsrc : Src P w size (l.drop j).length (sTail size v j) ((l.drop j).flatMap f) := src_of_rows ((rdr_tail' (w0 := w0) (H := rows e size f v l * G) (v := v) (f := f) (l := l) j).at_ w hs) hf.eq
 have hs2 : Sat w0 w (rows e size f (sCut v k) (l.take k) * G) := (Ent.cut (H := rows e size f v l * G) (F := G) k hk).sat hs
 have hlk : (l.take k).length ≤ l.length := by simp; omega
 have hlj : (l.drop j).length ≤ l.length := by simp
 refine wp_append_sl hT (.inl hT.ht) x y rfl hs2 (s.ev hx) (s.ev hy) hsrc (fun c hc => ?_) (by simp only [maxLen]; omega) ?_ fun v' w' hs' => hK v' w' ?_
 ·obtain ⟨z, _, hz⟩ := List.mem_flatMap.1 hc; exact h1 z c hz
 ·have : ((l.take k).length + (l.drop j).length) * bytes ≤ 1000000 * 1000 := Nat.mul_le_mul (by omega) hby
  omega
 ·unfold rows
  rw [List.length_append, List.flatMap_append]
  exact hs'
theorem H_appendCut {t : TypeId} {bytes : Nat} (k j : Nat) (hx : E.ev x = some (sCut v k)) (hy : E.ev y = some (sTail size v j)) (hl : RowsOf H v α e size f l F) (hk : k ≤ l.length) (hj : j ≤ l.length) (hT : SlTC P t e size bytes) (hf : FixLen f size) (h1 : ∀ z, ∀ c ∈ f z, c.oneCell' = true) (hn : l.length + l.length ≤ 1000000) (hby : Nat.ble bytes 1000 = true) (hp : NeZero size) :
  OpH P n w0 ⟨d, .call ⟨.builtin .append, #[x, y], #[t, t]⟩, ty, pos, after, gu⟩ E H (fun v' : Value => v') (fun v' => rows e size f v' (l.take k ++ l.drop j) * F) := OpH.mk' (T_appendCut k j hk hj rfl hx hy hT.out hf h1 hn (Nat.le_of_ble_eq_true hby) hp) hl.eq
end
end

section
open Go.RowKit
instance eqlNilN {P : Program} {t e : TypeId} [h : Und P t (.pointer e)] : BinV P .eql t (.pointer none) (.pointer none) (.bool true) := ⟨fun w => by
 have hp : P.pointee t = e := by simp [Program.pointee, h.eq]
 exact run_eql_pointer_nil (w := w) t none (by rw [hp]; exact h.eq), fun w _ _ => by rfl⟩
instance neqNilN {P : Program} {t e : TypeId} [h : Und P t (.pointer e)] : BinV P .neq t (.pointer none) (.pointer none) (.bool false) := ⟨fun w => by
 have hp : P.pointee t = e := by simp [Program.pointee, h.eq]
 exact run_neq_pointer_nil (w := w) t none (by rw [hp]; exact h.eq), fun w _ _ => by rfl⟩
section
variable {P : Program} {n : Frm} {w0 : World} {E : Env} {D : List Deferred} {H F F1 F2 : HProp} {Q : Exit → St → Prop} {l l' : List Oper}
theorem WS_drawR1 {id : Nat} (t : Nat) (idx : List Nat) {g off : Nat} {bt : TypeId} {cs : List Value} (hs : statD P l idx (fun _ => false) 1000 = true) (hl : permL l idx = some l') (hx : E.get t = some (ptr g off)) (hR : LimbB H g bt cs F) (h : DL P n w0 l.toArray Q D (cel g bt cs) emp (fun _ => false) 1000 0 false l' E F) : WS P n w0 (.region id l.toArray true) Q ⟨E, D, H⟩ :=
 WS_draw idx l' (cel g bt cs) emp F _ 1000 hs (by rw [emp_star]; exact hR.eq) (permL_eq hl) h
theorem WS_drawR2 {id : Nat} (t t2 : Nat) (idx : List Nat) {g off g2 off2 : Nat} {bt bt2 : TypeId} {cs cs2 : List Value} (hs : statD P l idx (fun _ => false) 1000 = true) (hl : permL l idx = some l') (hx : E.get t = some (ptr g off)) (hx2 : E.get t2 = some (ptr g2 off2)) (hR : LimbB H g bt cs F1) (hR2 : LimbB F1 g2 bt2 cs2 F) (h : DL P n w0 l.toArray Q D (cel g bt cs * cel g2 bt2 cs2) emp (fun _ => false) 1000 0 false l' E F) : WS P n w0 (.region id l.toArray true) Q ⟨E, D, H⟩ :=
 WS_draw idx l' (cel g bt cs * cel g2 bt2 cs2) emp F _ 1000 hs (by rw [emp_star, hR.eq, hR2.eq, star_assoc]) (permL_eq hl) h
theorem WS_drawR3 {id : Nat} (t t2 t3 : Nat) (idx : List Nat) {g off g2 off2 g3 off3 : Nat} {bt bt2 bt3 : TypeId} {cs cs2 cs3 : List Value} (hs : statD P l idx (fun _ => false) 1000 = true) (hl : permL l idx = some l') (hx : E.get t = some (ptr g off)) (hx2 : E.get t2 = some (ptr g2 off2)) (hx3 : E.get t3 = some (ptr g3 off3)) (hR : LimbB H g bt cs F1) (hR2 : LimbB F1 g2 bt2 cs2 F2) (hR3 : LimbB F2 g3 bt3 cs3 F) (h : DL P n w0 l.toArray Q D (cel g bt cs * (cel g2 bt2 cs2 * cel g3 bt3 cs3)) emp (fun _ => false) 1000 0 false l' E F) : WS P n w0 (.region id l.toArray true) Q ⟨E, D, H⟩ :=
 WS_draw idx l' (cel g bt cs * (cel g2 bt2 cs2 * cel g3 bt3 cs3)) emp F _ 1000 hs (by rw [emp_star, hR.eq, hR2.eq, hR3.eq, star_assoc, star_assoc]) (permL_eq hl) h
theorem SpecQ.of {f : FuncId} {args : List Value} {X : HProp} {v : Value} (h : Spec P w0 f args X (fun _ : Unit => v) (fun _ => X)) (o : Own H X F) : SpecQ P w0 f args H v := fun w hs => by
 refine (h F w (hs.cast o.eq)).mono ?_
 rintro e w' ⟨_, he, hs'⟩
 exact ⟨he, hs'.cast o.eq.symm⟩
theorem DL_callS {ops : Array Oper} {R L F0 X : HProp} {f : FuncId} {args : List Value} {v : Value} {d : Nat} {xs : List Operand} {ts : Array TypeId} {ty : TypeId} {pos : String} {after : Array Edge} {B : Nat → Bool} {k cp : Nat} {l : List Oper} (hf : IsFun P f) (hargs : E.evs xs = some args) (spec : Spec P w0 f args X (fun _ : Unit => v) (fun _ => X)) (ho : Own L X F0) (hd : Nat.blt d n.tmps = true)
  (h : DL P n w0 ops Q D R L B cp (k + 1) false l ((d, v) :: E) F) : DL P n w0 ops Q D R L B cp k false (⟨some d, .call ⟨.value (.func f), xs.toArray, ts⟩, ty, pos, after, none⟩ :: l) E F :=
 DL_tq rfl rfl hd (fun F' => TQ_call hf hargs (SpecQ.of (F := R * (F0 * F')) spec ⟨by show R * (L * F') = _; rw [ho.eq, star_assoc, star_left_comm]⟩)) h
end
section
variable {P : Program} {n : Frm} {w0 : World} {E : Env} {D : List Deferred} {H F : HProp} {d : Option Tmp} {t ty : TypeId} {pos : String} {after : Array Edge} {gu : Option (Nat × Bool)} {x y : Operand} {r kt et : Nat} {v u : Value} {κ ν : Type} [DecidableEq κ] {fk : κ → Value} {fv : ν → Value} {m : List (κ × ν)} {k : κ}
theorem Q_lookupE {z : Value} {zs : List Value} (hx : E.ev x = some (.map (some r))) (hy : E.ev y = some v) (hl : MapOf H r κ ν fk fv m F) (hkk : AsKey fk v k) (hm : MapT P t kt et) (hz : Zero P et z zs) (hk : KeyT P kt fk) (hu : optV fv z (mget m k) = u) : OpQ P n w0 ⟨d, .lookup t x y false, ty, pos, after, gu⟩ E H u := hu ▸ Q_lookup hx hy hl hkk hm hz hk
end
end

section
open Go.RowKit
theorem rq_check (empty : Bool) (x y : Int) (w : World) : (Instr.checkKey empty 10000 269 (.agg #[.int .u32 x, .int .u32 y])).run Tryz.prog w = .ok () w := by
 have u4 := Tryz.underlying26
 have hS := Tryz.underlying269
 have c2 := check_u empty 9998
 rw [show (10000 : Nat) = 9999 + 1 from rfl]
 unfold Instr.checkKey
 go_simp
theorem rq_eql (x y x' y' : Int) (w : World) :
  (Op.equal 269 (.agg #[.int .u32 x, .int .u32 y]) (.agg #[.int .u32 x', .int .u32 y'])).run Tryz.prog w = .ok (x == x' && y == y') w := by
 have u4 := Tryz.underlying26
 have hS : Tryz.prog.underlying 269 = some (.struct (Tryz.prog.fieldsOf 269)) := by kernel_rfl
 have hp : Tryz.prog.stoodInHeld 269 = false := by kernel_rfl
 rw [show Op.equal 269 = Op.equalIn (9999 + 1) 269 from rfl, run_equalIn_agg w 9999 269 _ _ hS hp]
 simp only [Program.fieldsOf, Tryz.underlying269]
 by_cases h1 : x = x' <;> by_cases h2 : y = y' <;> go_simp
instance : KeyT Tryz.prog 269 rqV := keyT_agg (fs := Tryz.prog.fieldsOf 269) (by kernel_rfl) (fun _ a b w => by
  have h := rq_eql (a.src.toNat : Int) (a.id.toNat : Int) (b.src.toNat : Int) (b.id.toNat : Int) w
  have e : (((a.src.toNat : Int) == (b.src.toNat : Int)) && ((a.id.toNat : Int) == (b.id.toNat : Int))) = decide (a = b) := by
   rw [Bool.eq_iff_iff]
   simp only [Bool.and_eq_true, beq_iff_eq, decide_eq_true_eq]
   constructor
   ·intro ⟨h1, h2⟩
    have e1 : a.src = b.src := UInt32.toNat_inj.1 (by omega)
    have e2 : a.id = b.id := UInt32.toNat_inj.1 (by omega)
    cases a; cases b; simp_all
   ·rintro rfl; exact ⟨rfl, rfl⟩
  rw [e] at h
  exact h) (fun empty k w => rq_check empty _ _ w) (fun k => by
  show Instr.sameBits (9999 + 1) (.agg #[u32 k.src, u32 k.id]) (.agg #[u32 k.src, u32 k.id]) = true
  simp [Instr.sameBits, u32])
instance (v1 v2 : Value) (a b : UInt32) [h1 : AsU32 v1 a] [h2 : AsU32 v2 b] : AsKey rqV (.agg #[v1, v2]) ⟨a, b⟩ := ⟨by rw [h1.eq, h2.eq]; rfl⟩
instance (k : Rq) : AsKey rqV (.agg (rqC k).toArray) k := ⟨rfl⟩
end

section
open Go.RowKit
theorem Spec.toA {P : Program} {w0 : World} {f : FuncId} {args : List Value} {pre : HProp} {α : Type} {res : α → Value} {gn : Nat} {s : Nd} {h : α → NH} (hs : Spec P w0 f args pre res (fun x => nodP gn s (h x))) : Spec P w0 f args pre res (fun _ => nodA gn s) := fun G w hw => (hs G w hw).mono fun e w' ⟨x, he, hx⟩ => ⟨x, he, (Ent.nod (h x) (Ent.refl _)).sat hx⟩
theorem Spec.toAX {P : Program} {w0 : World} {f : FuncId} {args : List Value} {pre : HProp} {α : Type} {res : α → Value} {gn : Nat} {s : Nd} {h : α → NH} {X : α → HProp} (hs : Spec P w0 f args pre res (fun x => nodP gn s (h x) * X x)) : Spec P w0 f args pre res (fun x => nodA gn s * X x) := fun G w hw => (hs G w hw).mono fun e w' ⟨x, he, hx⟩ => ⟨x, he, by
 have h1 := (Ent.nod (g := gn) (s := s) (F := X x * G) (h x) (Ent.of_eq (star_assoc _ _ _))).sat hx
 exact h1.cast (star_assoc _ _ _).symm⟩
structure Nd.Fit (s : Nd) (k : Nat) : Prop where
  frames : s.out.frames.length + k ≤ 800000
  came : s.out.came.length + k ≤ 800000
  dropped : s.out.dropped.length + k ≤ 800000
  recs : s.recs.length + 9 * k ≤ 400000
  journal : s.out.journal.length + 120 * k ≤ 800000
theorem Nd.Fit.le {s : Nd} {k m : Nat} (h : s.Fit k) (hm : m ≤ k) : s.Fit m := ⟨by have := h.frames; omega, by have := h.came; omega, by have := h.dropped; omega, by have := h.recs; omega, by have := h.journal; omega⟩
theorem Nd.Fit.send {s : Nd} {k : Nat} (h : s.Fit (k + 1)) (to : UInt32) (p : Pk) : (s.send to p).Fit k := by
 obtain ⟨a, b, c, d, e⟩ := h
 constructor <;> simp only [Nd.send, List.length_append, List.length_cons, List.length_nil] <;> omega
theorem Nd.Fit.drop {s : Nd} {k : Nat} (h : s.Fit (k + 1)) (r : Int) : (s.drop r).Fit k := by
 obtain ⟨a, b, c, d, e⟩ := h
 constructor <;> simp only [Nd.drop, List.length_append, List.length_cons, List.length_nil] <;> omega
theorem Nd.Fit.ls {s : Nd} {k : Nat} (h : s.Fit k) (l : List Ln) : Nd.Fit { s with ls := l } k := ⟨h.frames, h.came, h.dropped, h.recs, h.journal⟩
variable (w0 : World)
theorem drop_A (gn : Nat) (s : Nd) (h : NH) (k : Int) (hf : s.Fit 1) : Spec Tryz.prog w0 66 [ptr gn 0, .int .i64 k] (nodP gn s h) (fun _ : Value => .tuple #[]) (fun _ => nodA gn (s.drop k)) := (ndrop_spec w0 gn s h k (by have := hf.dropped; omega)).toA
theorem send_A (gn : Nat) (s : Nd) (h : NH) (to : UInt32) (p : Pk) (hp : p.Ok) (v : Value) (hv : v.oneCell' = true) (X : HProp) (hX : Rdr w0 X v (UInt32 × UInt32) 2 lostC p.lost) (hf : s.Fit 1) : Spec Tryz.prog w0 117 [ptr gn 0, u32 to, p.val v] (nodP gn s h * X) (fun _ : Value => .tuple #[]) (fun _ => nodA gn (s.send to p) * X) := (nsend_spec w0 gn s h to p hp v hv X (hX := hX) (by have := hf.frames; omega)).toAX
theorem send_A0 (gn : Nat) (s : Nd) (h : NH) (to : UInt32) (p : Pk) (hp : p.Ok) (hl : p.lost = []) (hf : s.Fit 1) : Spec Tryz.prog w0 117 [ptr gn 0, u32 to, p.val (.slice none 0 0)] (nodP gn s h) (fun _ : Value => .tuple #[]) (fun _ => nodA gn (s.send to p)) := by
 have := send_A w0 gn s h to p hp (.slice none 0 0) rfl emp (by rw [hl]; exact rdr_nil _ _ _) hf
 simpa only [star_emp] using this
theorem send_E0 (gn : Nat) (s : Nd) (h : NH) (to : UInt32) (p : Pk) (hp : p.Ok) (hl : p.lost = []) (hf : s.Fit 1) : Spec Tryz.prog w0 117 [ptr gn 0, u32 to, p.val (.slice none 0 0)] (nodP gn s h) (fun _ : Value => .tuple #[]) (fun vf => nodP gn (s.send to p) { h with vf := vf }) := by
 have := nsend_spec w0 gn s h to p hp (.slice none 0 0) rfl emp (hX := by rw [hl]; exact rdr_nil _ _ _) (by have := hf.frames; omega)
 simpa only [star_emp] using this
theorem tell_A (gn : Nat) (s : Nd) (h : NH) (to dest seq : UInt32) (hf : s.Fit 1) : Spec Tryz.prog w0 68 [ptr gn 0, u32 to, u32 dest, u32 seq] (nodP gn s h) (fun _ : Value => .tuple #[]) (fun _ => nodA gn (s.tell to dest seq)) := (tell_spec w0 gn s h to dest seq (by have := hf.frames; omega)).toA
attribute [local irreducible] WS LS OpQ OpT OpH OpTQ Spec SpecQ cel
set_option maxRecDepth 100000 in
theorem soon_spec (gn : Nat) (s : Nd) (h : NH) : Spec Tryz.prog w0 172 [ptr gn 0] (cel gn 159 (nodC 1 s h s.out)) (fun _ : Unit => u64 s.soon) (fun _ => cel gn 159 (nodC 1 s h s.out)) := by
  refine Spec.enter Tryz.func172 rfl Tryz.ntmps172 rfl fun G => ?_
  simp only [argE, nodC, Nd.soon]
  repeat' (first | (refine WS_seqK ?_; intro K hK) | (refine hK _ ?_; clear hK K) | refine stZ ?_ | refine sqZ ?_ | ((refine' LQ ?zh rfl ?_); case zh => intro F'; exact Q_bin rfl rfl iI))
  exact ret_tmp (.inl rfl) rfl rfl ⟨(), rfl, finE⟩
end

section
open Go.RowKit
section
variable {κ ν α : Type} [DecidableEq κ]
def zmap (key : α → κ) (bs : List ν) (ss : List α) : List (κ × ν) := List.zipWith (fun b s => (key s, b)) bs ss
def kfind (key : α → κ) : List α → κ → Option Nat
 | [], _ => none
 | x :: r, d => if key x = d then some 0 else (kfind key r d).map (· + 1)
variable {key : α → κ}
theorem kfind_some : ∀ {ss : List α} {d : κ} {k : Nat}, kfind key ss d = some k → ∃ x, ss[k]? = some x ∧ key x = d
 | [], _, _, h => by cases h
 | x :: r, d, k, h => by
  simp only [kfind] at h
  split at h
  ·rename_i e; cases h; exact ⟨x, rfl, e⟩
  ·cases hr : kfind key r d with
   | none => rw [hr] at h; cases h
   | some j => rw [hr] at h; cases h; obtain ⟨y, h1, h2⟩ := kfind_some hr; exact ⟨y, by simpa using h1, h2⟩
theorem kfind_none : ∀ {ss : List α} {d : κ}, kfind key ss d = none ↔ ∀ x ∈ ss, key x ≠ d
 | [], _ => by simp [kfind]
 | x :: r, d => by
  simp only [kfind]
  split
  ·rename_i e; simp [e]
  ·rename_i e
   rw [Option.map_eq_none_iff, kfind_none]
   simp [e]
theorem kfind_at : ∀ {ss : List α} {k : Nat} {x : α}, (ss.map key).Nodup → ss[k]? = some x → kfind key ss (key x) = some k
 | [], _, _, _, h => by simp at h
 | y :: r, 0, x, _, h => by simp at h; subst h; simp [kfind]
 | y :: r, k + 1, x, hn, h => by
  rw [List.map_cons, List.nodup_cons] at hn
  have hx : r[k]? = some x := by simpa using h
  have ih := kfind_at hn.2 hx
  simp only [kfind]
  rw [if_neg (fun e => hn.1 (by rw [e]; exact List.mem_map_of_mem (List.mem_of_getElem? hx))), ih]; rfl
theorem mfind_zmap : ∀ (bs : List ν) (ss : List α) (d : κ), bs.length = ss.length → mfind (zmap key bs ss) d = kfind key ss d
 | [], [], _, _ => rfl
 | b :: bs, s :: ss, d, h => by
  have ih := mfind_zmap bs ss d (by simpa using h)
  show (if key s = d then some 0 else (mfind (zmap key bs ss) d).map (· + 1)) = _
  rw [ih]; rfl
 | [], _ :: _, _, h => by simp at h
 | _ :: _, [], _, h => by simp at h
theorem zmap_get {bs : List ν} {ss : List α} {k : Nat} {b : ν} {x : α} (hb : bs[k]? = some b) (hx : ss[k]? = some x) : (zmap key bs ss)[k]? = some (key x, b) := by
 simp [zmap, List.getElem?_zipWith, hb, hx]
theorem mget_zmap_some {bs : List ν} {ss : List α} {d : κ} {k : Nat} {b : ν} (hl : bs.length = ss.length) (hk : kfind key ss d = some k) (hb : bs[k]? = some b) : mget (zmap key bs ss) d = some b := by
 obtain ⟨x, hx, _⟩ := kfind_some hk
 unfold mget
 rw [mfind_zmap bs ss d hl, hk]
 simp [zmap_get hb hx]
theorem mget_zmap_none {bs : List ν} {ss : List α} {d : κ} (hl : bs.length = ss.length) (hk : kfind key ss d = none) : mget (zmap key bs ss) d = none := by
 unfold mget
 rw [mfind_zmap bs ss d hl, hk]
theorem zmap_erase (bs : List ν) (ss : List α) (k : Nat) : (zmap key bs ss).eraseIdx k = zmap key (bs.eraseIdx k) (ss.eraseIdx k) := by
 induction bs generalizing ss k with
 | nil => simp [zmap]
 | cons b bs ih =>
  cases ss with
  | nil => simp [zmap]
  | cons s ss =>
   cases k with
   | zero => rfl
   | succ k =>
    have := ih ss k
    simp only [zmap, List.zipWith_cons_cons, List.eraseIdx_cons_succ] at this ⊢
    rw [this]
theorem mdel_zmap {bs : List ν} {ss : List α} {d : κ} {k : Nat} (hl : bs.length = ss.length) (hk : kfind key ss d = some k) : mdel (zmap key bs ss) d = zmap key (bs.eraseIdx k) (ss.eraseIdx k) := by
 unfold mdel
 rw [mfind_zmap bs ss d hl, hk]
 exact zmap_erase _ _ _
theorem mdel_zmap_none {bs : List ν} {ss : List α} {d : κ} (hl : bs.length = ss.length) (hk : kfind key ss d = none) : mdel (zmap key bs ss) d = zmap key bs ss := by
 unfold mdel
 rw [mfind_zmap bs ss d hl, hk]
theorem mset_zmap_none {bs : List ν} {ss : List α} {d : κ} (b : ν) (x : α) (hx : key x = d) (hl : bs.length = ss.length) (hk : kfind key ss d = none) : mset (zmap key bs ss) d b = zmap key (bs ++ [b]) (ss ++ [x]) := by
 unfold mset
 rw [mfind_zmap bs ss d hl, hk]
 simp only [zmap]
 rw [List.zipWith_append hl, ← hx]; rfl
theorem mset_zmap_some {bs : List ν} {ss : List α} {d : κ} {k : Nat} (b : ν) (x : α) (hx : key x = d) (hl : bs.length = ss.length) (hk : kfind key ss d = some k) : mset (zmap key bs ss) d b = zmap key (bs.set k b) (ss.set k x) := by
 unfold mset
 rw [mfind_zmap bs ss d hl, hk]
 obtain ⟨y, hy, hd⟩ := kfind_some hk
 have hlt := (List.getElem?_eq_some_iff.1 hy).1
 apply List.ext_getElem?
 intro j
 simp only [zmap, List.getElem?_zipWith, List.getElem?_set, List.length_zipWith]
 by_cases e : k = j
 ·subst e; simp [hlt, hl, hx]
 ·simp [e]
theorem zmap_set {bs : List ν} {ss : List α} {k : Nat} {x y : α} (hx : ss[k]? = some x) (hk : key y = key x) : zmap key bs (ss.set k y) = zmap key bs ss := by
 apply List.ext_getElem?
 intro j
 simp only [zmap, List.getElem?_zipWith, List.getElem?_set]
 by_cases e : k = j
 ·subst e
  have hlt := (List.getElem?_eq_some_iff.1 hx).1
  simp only [if_true, hlt, hx]
  cases bs[k]? <;> simp [hk]
 ·simp [e]
def zrow (p : ν → α → HProp) : List ν → List α → HProp
 | b :: bs, s :: ss => p b s * zrow p bs ss
 | _, _ => emp
variable {p : ν → α → HProp}
theorem zrow_hole (p : ν → α → HProp) : ∀ {bs : List ν} {ss : List α} {k : Nat} {b : ν} {x : α}, bs[k]? = some b → ss[k]? = some x →
  ∃ F, zrow p bs ss = p b x * F ∧ (∀ b' x', zrow p (bs.set k b') (ss.set k x') = p b' x' * F) ∧ zrow p (bs.eraseIdx k) (ss.eraseIdx k) = F
 | b0 :: bs, s0 :: ss, 0, b, x, hb, hx => by
  simp at hb hx; subst hb; subst hx
  exact ⟨zrow p bs ss, rfl, fun _ _ => rfl, rfl⟩
 | b0 :: bs, s0 :: ss, k + 1, b, x, hb, hx => by
  obtain ⟨F, h1, h2, h3⟩ := zrow_hole p (bs := bs) (ss := ss) (k := k) (by simpa using hb) (by simpa using hx)
  exact ⟨p b0 s0 * F, by rw [zrow, h1, star_left_comm], fun b' x' => by rw [List.set_cons_succ, List.set_cons_succ, zrow, h2, star_left_comm], by rw [List.eraseIdx_cons_succ, List.eraseIdx_cons_succ, zrow, h3]⟩
 | [], _, _, _, _, hb, _ => by simp at hb
 | _ :: _, [], _, _, _, _, hl => by simp at hl
theorem zrow_snoc : ∀ {bs : List ν} {ss : List α} (b : ν) (x : α), bs.length = ss.length → zrow p (bs ++ [b]) (ss ++ [x]) = p b x * zrow p bs ss
 | [], [], b, x, _ => rfl
 | b0 :: bs, s0 :: ss, b, x, h => by
  show p b0 s0 * zrow p (bs ++ [b]) (ss ++ [x]) = _
  rw [zrow_snoc b x (by simpa using h), star_left_comm]; rfl
 | [], _ :: _, _, _, h => by simp at h
 | _ :: _, [], _, _, h => by simp at h
end
theorem srFind_k (ss : List Sr) (d : UInt32) : srFind ss d = kfind (·.dest) ss d := by
 unfold srFind
 induction ss with
 | nil => rfl
 | cons x r ih => rw [List.findIdx?_cons]; simp only [kfind, decide_eq_true_eq]; rw [ih]
theorem nmFind_k (ss : List Sr) (d : Int) : nmFind ss d = kfind (·.name) ss d := by
 unfold nmFind
 induction ss with
 | nil => rfl
 | cons x r ih => rw [List.findIdx?_cons]; simp only [kfind, decide_eq_true_eq]; rw [ih]
theorem qmap_z (bs : List Nat) (ss : List Sr) : qmap bs ss = zmap (·.dest) bs ss := rfl
theorem imap_z (bs : List Nat) (ss : List Sr) : imap bs ss = zmap (·.name) bs ss := rfl
def srP (g : Nat) (b : Nat) (s : Sr) : HProp := cel b 247 (srC g b s)
theorem srsP_z (g : Nat) : ∀ (bs : List Nat) (ss : List Sr), srsP g bs ss = zrow (srP g) bs ss
 | [], [] => rfl
 | [], _ :: _ => rfl
 | _ :: _, [] => rfl
 | b :: bs, s :: ss => by unfold srsP zrow; rw [srsP_z g bs ss]; rfl
def txP (v : Option Addr × Nat × Nat) (w : UInt32 × List Str) : HProp := rows 9 1 strCc (slV' v) w.2
theorem textsP_z : ∀ (vs : List (Option Addr × Nat × Nat)) (ws : List (UInt32 × List Str)), textsP vs ws = zrow txP vs ws
 | [], [] => rfl
 | [], _ :: _ => rfl
 | _ :: _, [] => rfl
 | v :: vs, w :: ws => by unfold textsP zrow; rw [textsP_z vs ws]; rfl
theorem mget_k (ws : List (UInt32 × List Str)) (d : UInt32) : mget ws d = ((kfind (·.1) ws d).bind (ws[·]?)).map (·.2) := by
 have : ∀ ws : List (UInt32 × List Str), mfind ws d = kfind (·.1) ws d := fun ws => by
  induction ws with
  | nil => rfl
  | cons x r ih => simp only [mfind, kfind]; rw [ih]
 unfold mget
 rw [this]
 cases hk : kfind (·.1) ws d with
 | none => rfl
 | some k =>
  obtain ⟨x, hx, _⟩ := kfind_some hk
  simp [hx]
end

section
open Go.RowKit
theorem srsQ_eq {g : Nat} {bs : List Nat} {ss : List Sr} (h : bs.length = ss.length) : srsQ g bs ss = srsP g bs ss := by unfold srsQ; rw [pure'_true h, emp_star]
theorem waitQ_eq {r : Nat} {vs : List (Option Addr × Nat × Nat)} {ws : List (UInt32 × List Str)} (h : vs.length = ws.length) : waitQ r vs ws = mp u32 slV' r (wmap vs ws) * textsP vs ws := by unfold waitQ; rw [pure'_true h, emp_star]
theorem WS_lens {P : Program} {n : Frm} {w0 : World} {E : Env} {D : List Deferred} {F : HProp} {c : Code} {Q : Exit → St → Prop} {mu : Int} {g : Nat} {s : Nd} {h : NH} (hw : h.sb.length = s.srs.length → h.wv.length = s.wait.length → WS P n w0 c Q ⟨E, D, nodPm mu g s h * F⟩) : WS P n w0 c Q ⟨E, D, nodPm mu g s h * F⟩ := fun a w gd => by
 have e : nodPm mu g s h * F = pure' (h.sb.length = s.srs.length) * (pure' (h.wv.length = s.wait.length) * ((cel g 159 (nodC mu s h s.out) * (rows 28 3 Rec.cells h.vr s.recs * (mp u32 u32 h.rh s.held * (tabQ h.tb s.self s.ls * (outH h s.out * (mp rqV u64 h.rs s.seen * (rows 269 2 rqC h.vo s.order * (mp u32 slV' h.rw (wmap h.wv s.wait) * textsP h.wv s.wait * (mp u32 ptrV h.rq (qmap h.sb s.srs) * (mp i64 ptrV h.ri (imap h.sb s.srs) * (srsP g h.sb s.srs * (clockQ h.cb h.cr s.last s.clk * rows 24 1 wrd64C h.vs s.sent)))))))))))) * F)) := by
  unfold nodPm restP restC waitQ srsQ
  ac_rfl
 obtain ⟨h1, hs⟩ := (gd.sat.cast e).pure
 exact hw h1 hs.pure.1 a w gd
structure SrOk (s : Nd) : Prop where
  dests : (s.srs.map (·.dest)).Nodup
  names : (s.srs.map (·.name)).Nodup
  each : ∀ x ∈ s.srs, 0 ≤ x.ttl ∧ x.ttl ≤ 8 ∧ 0 ≤ x.retries ∧ x.retries ≤ 2 ∧ x.name ≤ s.names
theorem SrOk.dest {s : Nd} (h : SrOk s) {k : Nat} {x : Sr} (hx : s.srs[k]? = some x) : kfind (·.dest) s.srs x.dest = some k := kfind_at (key := fun x : Sr => x.dest) h.dests hx
theorem SrOk.name {s : Nd} (h : SrOk s) {k : Nat} {x : Sr} (hx : s.srs[k]? = some x) : kfind (·.name) s.srs x.name = some k := kfind_at (key := fun x : Sr => x.name) h.names hx
theorem busyN_succ {now : UInt64} {l : List UInt64} {j : Nat} {a : UInt64} (h : l[j]? = some a) : busyN now (l.take (j + 1)) = busyN now (l.take j) + (if now < a + 1000 then 1 else 0) := by
 rw [List.take_add_one, h, Option.toList_some]
 unfold busyN
 rw [List.filter_append, List.length_append]
 by_cases hc : now < a + 1000
 ·rw [if_pos hc, List.filter_cons, if_pos (decide_eq_true hc)]; rfl
 ·rw [if_neg hc, List.filter_cons, if_neg (by simpa using hc)]; rfl
theorem busyN_le (now : UInt64) (l : List UInt64) : busyN now l ≤ l.length := List.length_filter_le _ _
attribute [local irreducible] WS LS OpQ OpT OpH OpTQ Spec SpecQ cel
variable (w0 : World)
set_option maxRecDepth 100000 in
theorem busy_spec (gn : Nat) (s : Nd) (h : NH) (hl : s.sent.length ≤ 1000) : Spec Tryz.prog w0 226 [ptr gn 0] (cel gn 159 (nodC 1 s h s.out) * rows 24 1 wrd64C h.vs s.sent) (fun _ : Unit => .bool (decide (5 ≤ busyN s.now s.sent))) (fun _ => cel gn 159 (nodC 1 s h s.out) * rows 24 1 wrd64C h.vs s.sent) := by
  refine Spec.enter Tryz.func226 rfl Tryz.ntmps226 rfl fun G => ?_
  obtain ⟨vs, hvs⟩ : ∃ v, v = h.vs := ⟨_, rfl⟩
  rw [← hvs]
  refine WS_form vs iI fun A cap hv => ?_
  rw [hvs]
  rw [hvs] at hv
  simp only [argE, nodC, hv]
  repeat' (first | (refine WS_seqK ?_; intro K hK) | (refine hK _ ?_; clear hK K) | refine stZ ?_ | refine sqZ ?_)
  refine WS_loop (fun k τ => ∃ j : Nat, j + k = s.sent.length ∧ τ = ⟨[(11, .int .i64 (j : Int)), (10, .int .i64 (s.sent.length : Int)), (9, .slice A s.sent.length cap), (3, .int .i64 (busyN s.now (s.sent.take j) : Int)), (0, ptr gn 0)], [], cel gn 159 (nodC 1 s h s.out) * (rows 24 1 wrd64C (.slice A s.sent.length cap) s.sent * G)⟩) ?_ ?_
  · exact ⟨s.sent.length, _, ⟨0, by omega, rfl⟩, ⟨rfl, rfl, rfl, rfl, rfl, trivial⟩, rfl, by simp only [nodC, hv]; exact finE⟩
  · rintro k τ ⟨j, hjk, rfl⟩
    simp only [nodC, hv]
    rcases Nat.lt_or_ge j s.sent.length with hlt | hge
    · obtain ⟨z, hz⟩ : ∃ z, s.sent[j]? = some z := ⟨_, List.getElem?_eq_getElem hlt⟩
      have hb := busyN_succ (now := s.now) hz
      have hbl := busyN_le s.now (s.sent.take j)
      rw [List.length_take] at hbl
      generalize busyN s.now (s.sent.take j) = q at *
      by_cases hc : s.now < z + 1000
      · rw [if_pos hc] at hb
        repeat' (first | (refine WS_seqK ?_; intro K hK) | (refine hK _ ?_; clear hK K) | refine stZ ?_ | (refine s2Z ?_ ?_ <;> intro hc <;> (try simp only [cS] at hc) <;> (try (exfalso; first | contradiction | omega))) | refine sbZ ?_ | refine sqZ ?_ | ((refine' LQ ?zh rfl ?_); case zh => intro F'; exact Q_bin rfl rfl iI))
        exact ⟨k - 1, _, by omega, ⟨j + 1, by omega, rfl⟩, ⟨rfl, rfl, rfl, by rw [hb]; rfl, rfl, trivial⟩, rfl, by simp only [nodC, hv]; exact finE⟩
      · rw [if_neg hc] at hb
        repeat' (first | (refine WS_seqK ?_; intro K hK) | (refine hK _ ?_; clear hK K) | refine stZ ?_ | (refine s2Z ?_ ?_ <;> intro hc <;> (try simp only [cS] at hc) <;> (try (exfalso; first | contradiction | omega))) | refine sbZ ?_ | refine sqZ ?_ | ((refine' LQ ?zh rfl ?_); case zh => intro F'; exact Q_bin rfl rfl iI))
        exact ⟨k - 1, _, by omega, ⟨j + 1, by omega, rfl⟩, ⟨rfl, rfl, rfl, by rw [hb]; rfl, rfl, trivial⟩, rfl, by simp only [nodC, hv]; exact finE⟩
    · obtain rfl : j = s.sent.length := by omega
      rw [List.take_of_length_le (Nat.le_refl _)]
      by_cases hc : (5 : Int) ≤ (busyN s.now s.sent : Int)
      · repeat' (first | (refine WS_seqK ?_; intro K hK) | (refine hK _ ?_; clear hK K) | refine stZ ?_ | (refine s2Z ?_ ?_ <;> intro hc <;> (try simp only [cS] at hc) <;> (try (exfalso; first | contradiction | omega))) | refine sbZ ?_ | refine sqZ ?_)
        exact ret_tmp (.inl rfl) rfl rfl ⟨(), by rw [decide_eq_true (by omega)], finE⟩
      · repeat' (first | (refine WS_seqK ?_; intro K hK) | (refine hK _ ?_; clear hK K) | refine stZ ?_ | (refine s2Z ?_ ?_ <;> intro hc <;> (try simp only [cS] at hc) <;> (try (exfalso; first | contradiction | omega))) | refine sbZ ?_ | refine sqZ ?_)
        exact ret_tmp (.inl rfl) rfl rfl ⟨(), by rw [decide_eq_false (by omega)], finE⟩
set_option maxRecDepth 100000 in
theorem further_spec (gn b : Nat) (x : Sr) (h : 0 ≤ x.ttl ∧ x.ttl ≤ 8 ∧ 0 ≤ x.retries ∧ x.retries ≤ 2) : Spec Tryz.prog w0 225 [ptr b 0] (cel b 247 (srC gn b x)) (fun _ : Unit => .bool x.further.isSome) (fun _ => cel b 247 (srC gn b (x.further.getD x))) := by
  refine Spec.enter Tryz.func225 rfl Tryz.ntmps225 rfl fun G => ?_
  simp only [argE, srC]
  unfold Sr.further
  by_cases h1 : x.ttl < 5
  · simp only [if_pos h1, Option.isSome_some, Option.getD_some]
    repeat' (first | (refine WS_seqK ?_; intro K hK) | (refine hK _ ?_; clear hK K) | refine stZ ?_ | (refine s2Z ?_ ?_ <;> intro hc <;> (try simp only [cS] at hc) <;> (try (exfalso; first | contradiction | omega))) | refine sbZ ?_ | refine sqZ ?_ | (refine s0Z ?_; intro g))
    exact ret_tmp (.inl rfl) rfl rfl ⟨(), rfl, finE⟩
  · simp only [if_neg h1]
    by_cases h2 : x.ttl < 8
    · simp only [if_pos h2, Option.isSome_some, Option.getD_some]
      repeat' (first | (refine WS_seqK ?_; intro K hK) | (refine hK _ ?_; clear hK K) | refine stZ ?_ | (refine s2Z ?_ ?_ <;> intro hc <;> (try simp only [cS] at hc) <;> (try (exfalso; first | contradiction | omega))) | refine sbZ ?_ | refine sqZ ?_ | (refine s0Z ?_; intro g))
      exact ret_tmp (.inl rfl) rfl rfl ⟨(), rfl, finE⟩
    · simp only [if_neg h2]
      by_cases h3 : x.retries < 2
      · simp only [if_pos h3, Option.isSome_some, Option.getD_some]
        repeat' (first | (refine WS_seqK ?_; intro K hK) | (refine hK _ ?_; clear hK K) | refine stZ ?_ | (refine s2Z ?_ ?_ <;> intro hc <;> (try simp only [cS] at hc) <;> (try (exfalso; first | contradiction | omega))) | refine sbZ ?_ | refine sqZ ?_ | (refine s0Z ?_; intro g))
        exact ret_tmp (.inl rfl) rfl rfl ⟨(), rfl, finE⟩
      · simp only [if_neg h3, Option.isSome_none, Option.getD_none]
        repeat' (first | (refine WS_seqK ?_; intro K hK) | (refine hK _ ?_; clear hK K) | refine stZ ?_ | (refine s2Z ?_ ?_ <;> intro hc <;> (try simp only [cS] at hc) <;> (try (exfalso; first | contradiction | omega))) | refine sbZ ?_ | refine sqZ ?_)
        exact ret_tmp (.inl rfl) rfl rfl ⟨(), rfl, finE⟩
set_option maxRecDepth 100000 in
theorem stop_spec (gn : Nat) (s : Nd) (h : NH) (ok : SrOk s) {k b : Nat} {x : Sr} (hx : s.srs[k]? = some x) (hb : h.sb[k]? = some b) : Spec Tryz.prog w0 215 [ptr b 0] (nodP gn s h) (fun _ : Unit => .tuple #[]) (fun _ => nodP gn (s.stop k) { h with sb := h.sb.eraseIdx k }) := by
  have h1 := ok.dest hx
  have h2 := ok.name hx
  refine Spec.enter Tryz.func215 rfl Tryz.ntmps215 rfl fun G => ?_
  refine WS_lens fun hsb hwv => ?_
  obtain ⟨F, e1, _, e3⟩ := zrow_hole (srP gn) hb hx
  have hsb' : (h.sb.eraseIdx k).length = (s.srs.eraseIdx k).length := by rw [List.length_eraseIdx, List.length_eraseIdx, hsb]
  have d1 : mdel (qmap h.sb s.srs) x.dest = qmap (h.sb.eraseIdx k) (s.srs.eraseIdx k) := mdel_zmap (key := fun x : Sr => x.dest) hsb h1
  have d2 : mdel (imap h.sb s.srs) x.name = imap (h.sb.eraseIdx k) (s.srs.eraseIdx k) := mdel_zmap (key := fun x : Sr => x.name) hsb h2
  simp only [nodP, nodPm, nodC, outH, restP, restC, Nd.stop, srsQ_eq hsb, srsQ_eq hsb', srsP_z, e1, e3]
  simp only [argE, srP, srC]
  rw [← d1, ← d2]
  repeat' (first | (show WS _ _ _ (.region 0 _ true) _ _; refine WS_drawK (.range 12) 11 [3, 6, 10] (by decide +kernel) rfl ?_) | (show WS _ _ _ (.region 1 _ true) _ _; refine WS_drawK (.range 12) 11 [3, 6, 10] (by decide +kernel) rfl ?_) | (refine WS_seqK ?_; intro K hK) | (refine hK _ ?_; clear hK K) | refine stZ ?_ | refine sqZ ?_ | ((refine' DL_h0 ?zh rfl rfl ?_); (case zh => exact H_delete rfl rfl iI iI iI iI); intro g))
  exact ret_none (.inr rfl) rfl ⟨(), rfl, finE⟩
end

section
open Go.RowKit
attribute [local irreducible] WS LS OpQ OpT OpH OpTQ Spec SpecQ cel
variable (w0 : World)
set_option maxRecDepth 100000 in
theorem remember_spec (gn : Nat) (s : Nd) (h : NH) (r : Rq) (hl : s.order.length ≤ 16) : Spec Tryz.prog w0 170 [ptr gn 0, rqV r] (nodP gn s h) (fun _ : Value => .tuple #[]) (fun vo => nodP gn (s.remember r) { h with vo := vo }) := by
  refine Spec.enter Tryz.func170 rfl Tryz.ntmps170 rfl fun G => ?_
  obtain ⟨tb, vr, rh, rs, vo, rw', rq, ri, cb, cr, vs, vf, vc, vd, sb, wv⟩ := h
  obtain ⟨R, hR⟩ : ∃ R : HProp, R = rows 28 3 Rec.cells vr s.recs * (mp u32 u32 rh s.held * (tabQ tb s.self s.ls * (outH ⟨tb, vr, rh, rs, vo, rw', rq, ri, cb, cr, vs, vf, vc, vd, sb, wv⟩ s.out * (waitQ rw' wv s.wait * (mp u32 ptrV rq (qmap sb s.srs) * (mp i64 ptrV ri (imap sb s.srs) * (srsQ gn sb s.srs * (clockQ cb cr s.last s.clk * (rows 24 1 wrd64C vs s.sent * G))))))))) := ⟨_, rfl⟩
  refine WS_ent (H' := cel gn 159 (nodC 1 s ⟨tb, vr, rh, rs, vo, rw', rq, ri, cb, cr, vs, vf, vc, vd, sb, wv⟩ s.out) * (mp rqV u64 rs s.seen * (rows 269 2 rqC vo s.order * R))) (by rw [hR]; unfold nodP nodPm restP restC; exact finE) ?_
  have fin : ∀ (vo' : Value) (m' : List (Rq × UInt64)) (l' : List Rq) (Z : HProp), Ent (cel gn 159 (nodC 1 s ⟨tb, vr, rh, rs, vo', rw', rq, ri, cb, cr, vs, vf, vc, vd, sb, wv⟩ s.out) * (mp rqV u64 rs m' * (rows 269 2 rqC vo' l' * (R * Z)))) (nodP gn { s with seen := m', order := l' } ⟨tb, vr, rh, rs, vo', rw', rq, ri, cb, cr, vs, vf, vc, vd, sb, wv⟩ * G) := by
    intro vo' m' l' Z
    rw [hR]
    have e1 : outH ⟨tb, vr, rh, rs, vo', rw', rq, ri, cb, cr, vs, vf, vc, vd, sb, wv⟩ s.out = outH ⟨tb, vr, rh, rs, vo, rw', rq, ri, cb, cr, vs, vf, vc, vd, sb, wv⟩ s.out := rfl
    unfold nodP nodPm restP restC
    simp only [nodC, e1]
    exact finE
  refine WS_form vo iI fun A cap hv => ?_
  subst hv
  simp only [nodC, argE, rqV, rqC] at *
  repeat' (first | (refine WS_seqK ?_; intro K hK) | (refine hK _ ?_; clear hK K) | refine stZ ?_ | refine sqZ ?_ | (refine shZ ?_; intro g) | (refine LS_q (Q_sliceR_hm rfl rfl rfl rfl iI iI iI iI (Nat.zero_le _)) rfl ?_))
  have e0 : sCut (.slice A s.order.length cap) 0 = .slice A 0 0 := by simp [sCut]
  rw [e0]
  revert g; intro gb
  refine WS_ent (Ent.nil _ 269 2 rqC A) ?_
  obtain ⟨vo, hvo⟩ : ∃ v : Value, v = .slice A s.order.length cap := ⟨_, rfl⟩
  rw [← hvo]
  refine WS_loop (fun k τ => ∃ (j : Nat) (vk : Value), j + k = s.order.length ∧ τ = ⟨[(20, .int .i64 (j : Int)), (19, .int .i64 (s.order.length : Int)), (18, vo), (4, vk), (3, ptr gb 0), (0, ptr gn 0)], [], cel gb 269 [u32 r.src, u32 r.id] * (cel gn 159 (nodC 1 s ⟨tb, vr, rh, rs, vo, rw', rq, ri, cb, cr, vs, vf, vc, vd, sb, wv⟩ s.out) * (mp rqV u64 rs (remAll s.now s.seen (s.order.take j)).1 * (rows 269 2 rqC vk (remAll s.now s.seen (s.order.take j)).2 * (rows 269 2 rqC vo s.order * R))))⟩) ?_ ?_
  · exact ⟨s.order.length, _, ⟨0, _, by omega, rfl⟩, ⟨rfl, rfl, rfl, rfl, rfl, rfl, trivial⟩, rfl, by simp only [List.take_zero, remAll, List.foldl_nil, nodC]; exact finE⟩
  · rintro k τ ⟨j, vk, hjk, rfl⟩
    rcases Nat.lt_or_ge j s.order.length with hlt | hge
    · obtain ⟨⟨xs, xi⟩, hz⟩ : ∃ z, s.order[j]? = some z := ⟨_, List.getElem?_eq_getElem hlt⟩
      have htk : remAll s.now s.seen (s.order.take (j + 1)) = remStep s.now (remAll s.now s.seen (s.order.take j)) ⟨xs, xi⟩ := by rw [List.take_add_one, hz, Option.toList_some, remAll_snoc]
      have hpl := remAll_length s.now s.seen (s.order.take j)
      rw [List.length_take] at hpl
      generalize remAll s.now s.seen (s.order.take j) = p at *
      obtain ⟨m, q⟩ := p
      simp only [remStep] at htk hpl
      simp only [nodC, rqC]
      cases hg : mget m (⟨xs, xi⟩ : Rq) with
      | none =>
        have hsn : ¬ s.now < seenAt m ⟨xs, xi⟩ := by simp [seenAt, hg]
        have hn0 : ¬ s.now < 0 := UInt64.not_lt.2 (UInt64.zero_le)
        rw [if_neg hsn] at htk
        repeat' (first | (show WS _ _ _ (.region 5 _ true) _ _; refine WS_drawA (.range 11) (by decide +kernel) rfl ?_) | (show WS _ _ _ (.region 7 _ true) _ _; refine WS_drawK (.range 6) 5 [3, 4] (by decide +kernel) rfl ?_) | (refine WS_seqK ?_; intro K hK) | (refine hK _ ?_; clear hK K) | refine stZ ?_ | (refine s2Z ?_ ?_ <;> intro hc <;> (try simp only [cS] at hc) <;> (try (exfalso; first | contradiction | omega))) | refine sbZ ?_ | refine sqZ ?_ | ((first | refine' LQ ?zh rfl ?_ | refine' DL_qp rfl rfl rfl ?zh ?_ | refine' DL_q rfl rfl ?zh ?_); case zh => intro F'; exact Q_lookup_n rfl rfl iI iI iI iI iI (by assumption)) | (refine shZ ?_; intro g) | ((first | refine' LS_h0 ?zh ?_ | refine' DL_h0 ?zh rfl rfl ?_); (case zh => first | exact H_delete rfl rfl iI iI iI iI | exact H_storeA rfl rfl iI iI (by first | rfl | (simp only [List.all_cons, List.all_nil, *]; rfl)) rfl); intro g))
        exact ⟨k - 1, _, by omega, ⟨j + 1, vk, by omega, rfl⟩, ⟨rfl, rfl, rfl, rfl, rfl, rfl, trivial⟩, rfl, by rw [htk]; exact finE⟩
      | some t =>
        by_cases hsn : s.now < t
        · have hsn' : s.now < seenAt m ⟨xs, xi⟩ := by simpa [seenAt, hg] using hsn
          rw [if_pos hsn'] at htk
          repeat' (first | (show WS _ _ _ (.region 5 _ true) _ _; refine WS_drawA (.range 11) (by decide +kernel) rfl ?_) | (refine WS_seqK ?_; intro K hK) | (refine hK _ ?_; clear hK K) | refine stZ ?_ | (refine s2Z ?_ ?_ <;> intro hc <;> (try simp only [cS] at hc) <;> (try (exfalso; first | contradiction | omega))) | refine sbZ ?_ | refine sqZ ?_ | ((first | refine' LQ ?zh rfl ?_ | refine' DL_q rfl rfl ?zh ?_); case zh => intro F'; exact Q_lookup_s rfl rfl iI iI iI iI iI (by assumption)) | (refine shZ ?_; intro g) | ((refine' LS_h0 ?zh ?_); (case zh => exact H_storeA rfl rfl iI iI (by first | rfl | (simp only [List.all_cons, List.all_nil, *]; rfl)) rfl); intro g) | (refine LS_h (H_buildSliceR rqC [⟨xs, xi⟩] iI iI iI rfl rfl rfl rfl rfl iI rfl rfl rfl) rfl ?_; intro vx) | (refine LS_h (H_appendR rfl rfl iI iI rfl iI iI rqC_one (by first | omega | (simp [be_length] <;> omega)) rfl) rfl ?_; intro vk2))
          exact ⟨k - 1, _, by omega, ⟨j + 1, vk2, by omega, rfl⟩, ⟨rfl, rfl, rfl, rfl, rfl, rfl, trivial⟩, rfl, by rw [htk]; exact finE⟩
        · have hsn' : ¬ s.now < seenAt m ⟨xs, xi⟩ := by simpa [seenAt, hg] using hsn
          rw [if_neg hsn'] at htk
          repeat' (first | (show WS _ _ _ (.region 5 _ true) _ _; refine WS_drawA (.range 11) (by decide +kernel) rfl ?_) | (show WS _ _ _ (.region 7 _ true) _ _; refine WS_drawK (.range 6) 5 [3, 4] (by decide +kernel) rfl ?_) | (refine WS_seqK ?_; intro K hK) | (refine hK _ ?_; clear hK K) | refine stZ ?_ | (refine s2Z ?_ ?_ <;> intro hc <;> (try simp only [cS] at hc) <;> (try (exfalso; first | contradiction | omega))) | refine sbZ ?_ | refine sqZ ?_ | ((first | refine' LQ ?zh rfl ?_ | refine' DL_qp rfl rfl rfl ?zh ?_ | refine' DL_q rfl rfl ?zh ?_); case zh => intro F'; exact Q_lookup_s rfl rfl iI iI iI iI iI (by assumption)) | (refine shZ ?_; intro g) | ((first | refine' LS_h0 ?zh ?_ | refine' DL_h0 ?zh rfl rfl ?_); (case zh => first | exact H_delete rfl rfl iI iI iI iI | exact H_storeA rfl rfl iI iI (by first | rfl | (simp only [List.all_cons, List.all_nil, *]; rfl)) rfl); intro g))
          exact ⟨k - 1, _, by omega, ⟨j + 1, vk, by omega, rfl⟩, ⟨rfl, rfl, rfl, rfl, rfl, rfl, trivial⟩, rfl, by rw [htk]; exact finE⟩
    · obtain rfl : j = s.order.length := by omega
      rw [List.take_of_length_le (Nat.le_refl _)]
      have hpl := remAll_length s.now s.seen s.order
      generalize hp : remAll s.now s.seen s.order = p at *
      obtain ⟨m, q⟩ := p
      simp only at hpl
      obtain ⟨ra, rb⟩ := r
      by_cases hlen : ((q ++ [⟨ra, rb⟩] : List Rq).length : Int) ≤ 16
      · have er : s.remember ⟨ra, rb⟩ = { s with seen := mset m ⟨ra, rb⟩ (s.now + 1280), order := q ++ [⟨ra, rb⟩] } := by unfold Nd.remember; simp only [hp]; rw [if_pos (by omega)]
        rw [er]
        simp only [nodC, rqC] at fin ⊢
        repeat' (first | (show WS _ _ _ (.region 10 _ true) _ _; refine WS_drawK (.range 11) 10 [3, 4, 8] (by decide +kernel) rfl ?_) | (refine WS_seqK ?_; intro K hK) | (refine hK _ ?_; clear hK K) | refine stZ ?_ | (refine s2Z ?_ ?_ <;> intro hc <;> (try simp only [cS] at hc) <;> (try (exfalso; first | contradiction | omega))) | refine sbZ ?_ | refine sqZ ?_ | ((first | refine' LQ ?zh rfl ?_ | refine' DL_q rfl rfl ?zh ?_); case zh => intro F'; exact Q_bin rfl rfl iI) | (refine s0Z ?_; intro g) | ((first | refine' LS_h0 ?zh ?_ | refine' DL_h0 ?zh rfl rfl ?_); (case zh => exact H_mapUpdate rfl rfl rfl iI iI iI iI iI); intro g) | (refine LS_h (H_buildSliceR rqC [⟨ra, rb⟩] iI iI iI rfl rfl rfl rfl rfl iI rfl rfl rfl) rfl ?_; intro vx) | (refine LS_h (H_appendR rfl rfl iI iI rfl iI iI rqC_one (by first | omega | (simp [be_length] <;> omega)) rfl) rfl ?_; intro vk2; refine LS_form vk2 iI fun A2 cap2 hv2 => ?_; subst hv2))
        refine ret_none (.inl rfl) rfl ⟨.slice A2 (q ++ [⟨ra, rb⟩] : List Rq).length cap2, rfl, ?_⟩
        rw [er]
        refine Ent.trans ?_ (fin _ _ _ emp)
        exact finE
      · simp only [nodC, rqC]
        repeat' (first | (show WS _ _ _ (.region 10 _ true) _ _; refine WS_drawK (.range 11) 10 [3, 4, 8] (by decide +kernel) rfl ?_) | (refine WS_seqK ?_; intro K hK) | (refine hK _ ?_; clear hK K) | refine stZ ?_ | (refine s2Z ?_ ?_ <;> intro hc <;> (try simp only [cS] at hc) <;> (try (exfalso; first | contradiction | omega))) | refine sbZ ?_ | refine sqZ ?_ | ((first | refine' LQ ?zh rfl ?_ | refine' DL_q rfl rfl ?zh ?_); case zh => intro F'; exact Q_bin rfl rfl iI) | (refine s0Z ?_; intro g) | ((first | refine' LS_h0 ?zh ?_ | refine' DL_h0 ?zh rfl rfl ?_); (case zh => exact H_mapUpdate rfl rfl rfl iI iI iI iI iI); intro g) | (refine LS_h (H_buildSliceR rqC [⟨ra, rb⟩] iI iI iI rfl rfl rfl rfl rfl iI rfl rfl rfl) rfl ?_; intro vx) | (refine LS_h (H_appendR rfl rfl iI iI rfl iI iI rqC_one (by first | omega | (simp [be_length] <;> omega)) rfl) rfl ?_; intro vk2; refine LS_form vk2 iI fun A2 cap2 hv2 => ?_; subst hv2))
        obtain ⟨M, hM⟩ : ∃ M : List (Rq × UInt64), M = mset m ⟨ra, rb⟩ (s.now + 1280) := ⟨_, rfl⟩
        obtain ⟨L, hL⟩ : ∃ L : List Rq, L = q ++ [⟨ra, rb⟩] := ⟨_, rfl⟩
        have hLl : L.length ≤ 17 := by rw [hL]; simp; omega
        have hL0 : 16 < L.length := by rw [hL]; omega
        have er : s.remember ⟨ra, rb⟩ = { s with seen := mdel M (L.getD (firstOf M L L.length) ⟨0, 0⟩), order := L.take (firstOf M L L.length) ++ L.drop (firstOf M L L.length + 1) } := by unfold Nd.remember; simp only [hp, ← hM, ← hL]; rw [if_neg (by omega)]
        rw [← hL, ← hM]
        clear hM hL
        obtain ⟨vl, hvl⟩ : ∃ v : Value, v = .slice A2 L.length cap2 := ⟨_, rfl⟩
        rw [← hvl]
        refine WS_loop (fun k τ => ∃ j : Nat, j + k = L.length ∧ τ = ⟨[(73, .int .i64 (j : Int)), (72, .int .i64 (L.length : Int)), (71, vl), (7, .int .i64 (firstOf M L j : Int)), (0, ptr gn 0)], [], mp rqV u64 rs M * (cel gn 159 (nodC 1 s ⟨tb, vr, rh, rs, vl, rw', rq, ri, cb, cr, vs, vf, vc, vd, sb, wv⟩ s.out) * (rows 269 2 rqC vl L * R))⟩) ?_ ?_
        · exact ⟨L.length, _, ⟨0, by omega, rfl⟩, ⟨rfl, rfl, rfl, rfl, rfl, trivial⟩, rfl, by simp only [nodC]; exact finE⟩
        · rintro k τ ⟨j, hjk, rfl⟩
          have hfl := firstOf_lt M L j (by omega) (by omega)
          rcases Nat.lt_or_ge j L.length with hlt | hge
          · obtain ⟨⟨xs, xi⟩, hz⟩ : ∃ z, L[j]? = some z := ⟨_, List.getElem?_eq_getElem hlt⟩
            have hfs := firstOf_succ M L j
            generalize firstOf M L j = i0 at *
            obtain ⟨⟨ys, yi⟩, hy⟩ : ∃ z, L[i0]? = some z := ⟨_, List.getElem?_eq_getElem hfl⟩
            have hx1 : L.getD j ⟨0, 0⟩ = ⟨xs, xi⟩ := by simp [hz]
            have hy1 : L.getD i0 ⟨0, 0⟩ = ⟨ys, yi⟩ := by simp [hy]
            simp only [firstStep, hx1, hy1] at hfs
            simp only [nodC, rqC]
            by_cases hcc : seenAt M (⟨xs, xi⟩ : Rq) < seenAt M (⟨ys, yi⟩ : Rq)
            · rw [if_pos hcc] at hfs
              cases hgx : mget M (⟨xs, xi⟩ : Rq) <;> cases hgy : mget M (⟨ys, yi⟩ : Rq)
              all_goals simp only [seenAt, hgx, hgy, Option.getD_none, Option.getD_some] at hcc
              all_goals first | (exact absurd hcc (by decide); done) | skip
              all_goals
                repeat' (first | (show WS _ _ _ (.region 16 _ true) _ _; refine WS_drawA (.range 19) (by decide +kernel) rfl ?_) | (refine WS_seqK ?_; intro K hK) | (refine hK _ ?_; clear hK K) | refine stZ ?_ | (refine s2Z ?_ ?_ <;> intro hc <;> (try simp only [cS] at hc) <;> (try (exfalso; first | contradiction | omega))) | refine sbZ ?_ | refine sqZ ?_ | ((first | refine' LQ ?zh rfl ?_ | refine' DL_q rfl rfl ?zh ?_); case zh => intro F'; first | exact Q_lookup_s rfl rfl iI iI iI iI iI (by assumption) | exact Q_lookup_n rfl rfl iI iI iI iI iI (by assumption)) | (refine shZ ?_; intro g) | ((refine' LS_h0 ?zh ?_); (case zh => exact H_storeA rfl rfl iI iI (by first | rfl | (simp only [List.all_cons, List.all_nil, *]; rfl)) rfl); intro g))
              all_goals
                exact ⟨k - 1, _, by omega, ⟨j + 1, by omega, rfl⟩, ⟨rfl, rfl, rfl, by rw [hfs]; rfl, rfl, trivial⟩, rfl, finE⟩
            · rw [if_neg hcc] at hfs
              cases hgx : mget M (⟨xs, xi⟩ : Rq) <;> cases hgy : mget M (⟨ys, yi⟩ : Rq)
              all_goals simp only [seenAt, hgx, hgy, Option.getD_none, Option.getD_some] at hcc
              all_goals first | (exact absurd hcc (by decide); done) | skip
              all_goals
                repeat' (first | (show WS _ _ _ (.region 16 _ true) _ _; refine WS_drawA (.range 19) (by decide +kernel) rfl ?_) | (refine WS_seqK ?_; intro K hK) | (refine hK _ ?_; clear hK K) | refine stZ ?_ | (refine s2Z ?_ ?_ <;> intro hc <;> (try simp only [cS] at hc) <;> (try (exfalso; first | contradiction | omega))) | refine sbZ ?_ | refine sqZ ?_ | ((first | refine' LQ ?zh rfl ?_ | refine' DL_q rfl rfl ?zh ?_); case zh => intro F'; first | exact Q_lookup_s rfl rfl iI iI iI iI iI (by assumption) | exact Q_lookup_n rfl rfl iI iI iI iI iI (by assumption)) | (refine shZ ?_; intro g) | ((refine' LS_h0 ?zh ?_); (case zh => exact H_storeA rfl rfl iI iI (by first | rfl | (simp only [List.all_cons, List.all_nil, *]; rfl)) rfl); intro g))
              all_goals
                exact ⟨k - 1, _, by omega, ⟨j + 1, by omega, rfl⟩, ⟨rfl, rfl, rfl, by rw [hfs]; rfl, rfl, trivial⟩, rfl, finE⟩
          · obtain rfl : j = L.length := by omega
            generalize firstOf M L L.length = i0 at *
            obtain ⟨⟨ys, yi⟩, hy⟩ : ∃ z, L[i0]? = some z := ⟨_, List.getElem?_eq_getElem hfl⟩
            have hy1 : L.getD i0 ⟨0, 0⟩ = ⟨ys, yi⟩ := by simp [hy]
            rw [hy1] at er
            simp only [nodC, rqC]
            repeat' (first | (show WS _ _ _ (.region 19 _ true) _ _; refine WS_drawK (.range 12) 11 [3, 7, 9, 10] (by decide +kernel) rfl ?_) | (show WS _ _ _ (.region 20 _ true) _ _; first | refine WS_drawK (.range 19) 15 [4, 7, 11, 14] (by decide +kernel) rfl ?_ | refine WS_drawM 0 (.range 19) 18 [4, 11] (by decide +kernel) rfl rfl iI ?_) | (refine WS_seqK ?_; intro K hK) | (refine hK _ ?_; clear hK K) | refine stZ ?_ | (refine s2Z ?_ ?_ <;> intro hc <;> (try simp only [cS] at hc) <;> (try (exfalso; first | contradiction | omega))) | refine sbZ ?_ | refine sqZ ?_ | ((first | refine' LQ ?zh rfl ?_ | refine' DL_qp rfl rfl rfl ?zh ?_ | refine' DL_q rfl rfl ?zh ?_); case zh => intro F'; exact Q_sliceR_l rfl rfl iI iI iI iI (by first | assumption | omega | (simp [be_length] <;> omega))) | (refine s0Z ?_; intro g) | ((refine' DL_h0 ?zh rfl rfl ?_); (case zh => exact H_delete rfl rfl iI iI iI iI); intro g) | ((refine' DL_qp rfl rfl rfl ?zh ?_); (case zh => intro F'; exact Q_sliceR_hm rfl rfl rfl rfl iI iI iI iI (by omega))) | (refine DL_h (H_appendCut i0 (i0 + 1) rfl rfl iI (by omega) (by omega) iI iI rqC_one (by omega) rfl iI) rfl rfl rfl ?_; intro va))
            refine ret_none (.inr rfl) rfl ⟨va, rfl, ?_⟩
            rw [er]
            refine Ent.trans ?_ (fin _ _ _ emp)
            exact finE
end

section
open Go.RowKit
attribute [local irreducible] WS LS OpQ OpT OpH OpTQ Spec SpecQ cel
variable (w0 : World)
set_option maxRecDepth 100000 in
theorem answer_spec (gn : Nat) (s : Nd) (h : NH) (p : Pk) (hl : p.lost = []) (hp : i64R p.hops) (hy : p.payload.length ≤ 100) (ok : TabOk s.ls) (hf : s.Fit 1) : Spec Tryz.prog w0 174 [ptr gn 0, p.val (.slice none 0 0)] (nodP gn s h) (fun _ : Value => .tuple #[]) (fun _ => nodA gn (s.answer p)) := by
  have p1 := find_spec w0 h.tb s.self s.ls ok p.from_ s.now
  have p2 := drop_A w0 gn s h 3 hf
  have p3 := fun to => send_A0 w0 gn s h to { p with ttl := 8, kind := 2 } ⟨by simp [i64R], by simp [i64R], hp, by simp [hl], by simp only; omega⟩ hl hf
  refine Spec.enter Tryz.func174 rfl Tryz.ntmps174 rfl fun G => ?_
  simp only [nodP, nodPm, nodC, outH, restP, Pk.val, Pk.cells] at p1 p2 p3 ⊢
  simp only [argE]
  cases hx : lookT s.ls p.from_ s.now with
  | none =>
    have es : s.answer p = s.drop 3 := by unfold Nd.answer; rw [hx]
    simp only [hx, findV, findH] at p1
    repeat' (first | (show WS _ _ _ (.region 2 _ true) _ _; first | refine WS_drawR2 0 3 (.range 17) (by decide +kernel) rfl rfl rfl iI iI ?_ | refine WS_drawK (.range 17) 10 [3, 5, 9] (by decide +kernel) rfl ?_) | (refine WS_seqK ?_; intro K hK) | (refine hK _ ?_; clear hK K) | refine stZ ?_ | (refine s2Z ?_ ?_ <;> intro hc <;> (try simp only [cS] at hc) <;> (try (exfalso; first | contradiction | omega))) | (refine DL_alloc iI rfl ?_; intro g) | refine sqZ ?_ | (refine shZ ?_; intro g) | (refine s0Z ?_; intro g) | ((first | refine' LS_h0 ?zh ?_ | refine' DL_h0 ?zh rfl rfl ?_); (case zh => exact H_storeA rfl rfl iI iI (by first | rfl | (simp only [List.all_cons, List.all_nil, *]; rfl)) rfl); intro g) | (refine DL_h (H_callX iI rfl p1 iI) rfl rfl rfl ?_; intro x1) | (refine LS_h (H_callX iI rfl p2 iI) rfl ?_; intro x2))
    exact ret_none (.inr rfl) rfl ⟨.tuple #[], rfl, by rw [es]; exact finE⟩
  | some b =>
    have es : s.answer p = s.send b.next { p with ttl := 8, kind := 2 } := by unfold Nd.answer; rw [hx]
    simp only [hx, findV, findH, routeC] at p1
    repeat' (first | (show WS _ _ _ (.region 2 _ true) _ _; first | refine WS_drawR2 0 3 (.range 17) (by decide +kernel) rfl rfl rfl iI iI ?_ | refine WS_drawK (.range 17) 10 [3, 5, 9] (by decide +kernel) rfl ?_) | (refine WS_seqK ?_; intro K hK) | (refine hK _ ?_; clear hK K) | refine stZ ?_ | (refine s2Z ?_ ?_ <;> intro hc <;> (try simp only [cS] at hc) <;> (try (exfalso; first | contradiction | omega))) | (refine DL_alloc iI rfl ?_; intro g) | refine sqZ ?_ | (refine shZ ?_; intro g) | (refine s0Z ?_; intro g) | (refine DL_h (H_callX iI rfl p1 iI) rfl rfl rfl ?_; intro x1) | (refine LS_h (H_callX iI rfl (p3 _) iI) rfl ?_; intro x2))
    exact ret_none (.inr rfl) rfl ⟨.tuple #[], rfl, by rw [es]; exact finE⟩
set_option maxRecDepth 100000 in
theorem lost_spec (gn : Nat) (s : Nd) (h : NH) (l : List (UInt32 × UInt32)) (hl : l.length ≤ 1000) (v : Value) (hf : s.Fit 1) : Spec Tryz.prog w0 179 [ptr gn 0, v] (nodP gn s h * rows 180 2 lostC v l) (fun _ : Value => .tuple #[]) (fun _ => nodA gn (s.lost l)) := by
  have p1 := fun A c => send_A w0 gn s h 0 (Pk.lose l) (Pk.lose_ok l (by omega)) (.slice A l.length c) rfl (rows 180 2 lostC (.slice A l.length c) l) (rdr_bare _ _ _ _ _) hf
  refine Spec.enter Tryz.func179 rfl Tryz.ntmps179 rfl fun G => ?_
  refine WS_form v iI fun A c hv => ?_
  subst hv
  simp only [nodP, nodPm, nodC, outH, restP, Pk.val, Pk.cells, Pk.lose] at p1 ⊢
  simp only [argE]
  by_cases h0 : 0 < l.length
  · have es : s.lost l = s.send 0 (Pk.lose l) := by unfold Nd.lost; rw [if_pos h0]
    repeat' (first | (refine WS_seqK ?_; intro K hK) | (refine hK _ ?_; clear hK K) | refine stZ ?_ | (refine s2Z ?_ ?_ <;> intro hc <;> (try simp only [cS] at hc) <;> (try (exfalso; first | contradiction | omega))) | refine sbZ ?_ | refine sqZ ?_ | (refine LS_h (H_callX iI rfl (p1 _ _) iI) rfl ?_; intro x2))
    exact ret_none (.inr rfl) rfl ⟨.tuple #[], rfl, by rw [es]; unfold Pk.lose; exact finE⟩
  · have es : s.lost l = s := by unfold Nd.lost; rw [if_neg h0]
    repeat' (first | (refine WS_seqK ?_; intro K hK) | (refine hK _ ?_; clear hK K) | refine stZ ?_ | (refine s2Z ?_ ?_ <;> intro hc <;> (try simp only [cS] at hc) <;> (try (exfalso; first | contradiction | omega))) | refine sbZ ?_ | refine sqZ ?_)
    exact ret_none (.inr rfl) rfl ⟨.tuple #[], rfl, by rw [es]; refine Ent.nod h ?_; simp only [nodP, nodPm, nodC, outH, restP]; exact finE⟩
set_option maxRecDepth 100000 in
theorem hand_spec (gn : Nat) (s : Nd) (h : NH) (dest : UInt32) (text : Str) (ht : text.length ≤ 100) (ok : TabOk s.ls) (hf : s.Fit 1) : Spec Tryz.prog w0 145 [ptr gn 0, u32 dest, strV text] (nodP gn s h) (fun _ : Value => .bool (lookT s.ls dest s.now).isSome) (fun vf => nodP gn (s.hand dest text) { h with vf := vf }) := by
  have p1 := find_spec w0 h.tb s.self s.ls ok dest s.now
  refine Spec.enter Tryz.func145 rfl Tryz.ntmps145 rfl fun G => ?_
  cases hx : lookT s.ls dest s.now with
  | none =>
    have es : s.hand dest text = s := by unfold Nd.hand; rw [hx]
    rw [es]
    simp only [nodP, nodPm, nodC, outH, restP] at p1 ⊢
    simp only [argE]
    simp only [hx, findV, findH] at p1
    repeat' (first | (show WS _ _ _ (.region 1 _ true) _ _; first | refine WS_drawR1 0 (.range 16) (by decide +kernel) rfl rfl iI ?_ | refine WS_drawK (.range 16) 9 [3, 8] (by decide +kernel) rfl ?_ | refine WS_drawN 7 0 (.range 16) 14 [] (by decide +kernel) rfl rfl rfl iI iI ?_) | (refine WS_seqK ?_; intro K hK) | (refine hK _ ?_; clear hK K) | refine stZ ?_ | (refine s2Z ?_ ?_ <;> intro hc <;> (try simp only [cS] at hc) <;> (try (exfalso; first | contradiction | omega))) | (refine DL_alloc iI rfl ?_; intro g) | refine sqZ ?_ | ((refine' DL_h0 ?zh rfl rfl ?_); (case zh => exact H_storeA rfl rfl iI iI (by first | rfl | (simp only [List.all_cons, List.all_nil, *]; rfl)) rfl); intro g) | (refine DL_h (H_callX iI rfl p1 iI) rfl rfl rfl ?_; intro x1))
    exact ret_tmp (.inl rfl) rfl rfl ⟨h.vf, rfl, finE⟩
  | some b =>
    obtain ⟨s1, hs1⟩ : ∃ s1 : Nd, s1 = { s with datas := s.datas + 1 } := ⟨_, rfl⟩
    obtain ⟨s2, hs2⟩ : ∃ s2 : Nd, s2 = s1.send b.next ⟨8, 9, 0, false, s.datas + 1, dest, 0, s.self, 0, 0, [], text⟩ := ⟨_, rfl⟩
    have es : s.hand dest text = { s2 with ls := useT s2.ls dest s2.soon } := by unfold Nd.hand; rw [hx]; rw [hs2, hs1]; rfl
    have p2 := send_E0 w0 gn s1 h b.next ⟨8, 9, 0, false, s.datas + 1, dest, 0, s.self, 0, 0, [], text⟩ ⟨by simp [i64R], by simp [i64R], by simp [i64R], by simp, by simp only; omega⟩ rfl (by rw [hs1]; exact ⟨hf.frames, hf.came, hf.dropped, hf.recs, hf.journal⟩)
    have p3 := fun vf => soon_spec w0 gn s2 { h with vf := vf }
    have p4 := use_spec w0 h.tb s2.self s2.ls dest s2.soon
    rw [← hs2] at p2
    rw [hs1] at p2
    rw [es]
    simp only [nodP, nodPm, nodC, outH, restP, Pk.val, Pk.cells] at p1 p2 p3 p4 ⊢
    simp only [argE]
    simp only [hx, findV, findH, routeC] at p1
    repeat' (first | (show WS _ _ _ (.region 1 _ true) _ _; first | refine WS_drawR1 0 (.range 16) (by decide +kernel) rfl rfl iI ?_ | refine WS_drawK (.range 16) 9 [3, 8] (by decide +kernel) rfl ?_ | refine WS_drawN 7 0 (.range 16) 14 [] (by decide +kernel) rfl rfl rfl iI iI ?_) | (show WS _ _ _ (.region 5 _ true) _ _; refine WS_drawK (.range 15) 14 [2, 6, 11] (by decide +kernel) rfl ?_) | (show WS _ _ _ (.region 6 _ true) _ _; refine WS_drawK (.range 8) 7 [3] (by decide +kernel) rfl ?_) | (refine WS_seqK ?_; intro K hK) | (refine hK _ ?_; clear hK K) | refine stZ ?_ | (refine s2Z ?_ ?_ <;> intro hc <;> (try simp only [cS] at hc) <;> (try (exfalso; first | contradiction | omega))) | (refine DL_alloc iI rfl ?_; intro g) | refine sqZ ?_ | ((refine' LQ ?zh rfl ?_); case zh => intro F'; exact Q_bin rfl rfl iI) | (refine s0Z ?_; intro g) | (refine DL_h (H_callX iI rfl p1 iI) rfl rfl rfl ?_; intro x1) | (refine DL_h (H_callX iI rfl p2 iI) rfl rfl rfl ?_; intro vf; replace p3 := p3 vf) | (refine DL_callS iI rfl p3 iI rfl ?_) | (refine DL_h (H_callX iI rfl p4 iI) rfl rfl rfl ?_; intro x4))
    exact ret_tmp (.inl rfl) rfl rfl ⟨vf, rfl, finE⟩
end

section
open Go.RowKit
structure Pk.Read (p : Pk) : Prop where
  ttl : 1 ≤ p.ttl ∧ p.ttl ≤ 255
  kind : i64R p.kind
  hops : 0 ≤ p.hops ∧ p.hops ≤ 255
  lost : p.lost.length ≤ 1000
  payload : p.payload.length ≤ 100
theorem Nd.remember_eqs (s : Nd) (r : Rq) : (s.remember r).ls = s.ls ∧ (s.remember r).self = s.self ∧ (s.remember r).now = s.now ∧ (s.remember r).out = s.out ∧ (s.remember r).recs = s.recs := by
 unfold Nd.remember
 dsimp only
 split <;> exact ⟨rfl, rfl, rfl, rfl, rfl⟩
theorem Nd.Fit.remember {s : Nd} {k : Nat} (h : s.Fit k) (r : Rq) : (s.remember r).Fit k := by
 obtain ⟨_, _, _, e, f⟩ := s.remember_eqs r
 exact ⟨by rw [e]; exact h.frames, by rw [e]; exact h.came, by rw [e]; exact h.dropped, by rw [f]; exact h.recs, by rw [e]; exact h.journal⟩
theorem updT_code (self : UInt32) (ls : List Ln) (x : Ln) : (updT self ls x).1 = 0 ∨ (updT self ls x).1 = 2 ∨ (updT self ls x).1 = 3 ∨ (updT self ls x).1 = 4 := by
  unfold updT
  repeat' split
  all_goals simp
theorem lookT_mem {ls : List Ln} {d : UInt32} {now : UInt64} {x : Ln} (h : lookT ls d now = some x) : x ∈ ls := by
 unfold lookT lget at h
 cases hf : lfind ls d with
 | none => rw [hf] at h; cases h
 | some i =>
  obtain ⟨l, hl, _⟩ := lfind_some hf
  rw [hf] at h
  simp only [Option.bind_some, hl] at h
  split at h
  ·cases h; exact List.mem_of_getElem? hl
  ·cases h
end

end Go.Proofs.YtapoehkdnglahabGreat

