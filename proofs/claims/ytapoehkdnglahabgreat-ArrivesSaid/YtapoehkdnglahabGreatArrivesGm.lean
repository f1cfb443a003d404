/- A part of what Arrives needs. -/
import Derived.Test.YtapoehkdnglahabGreatArrivesGl
set_option maxHeartbeats 16000000
set_option linter.unusedVariables false
set_option linter.unusedSimpArgs false
set_option linter.unusedSectionVars false
namespace Go.Proofs.YtapoehkdnglahabGreat
section
open Go.RowKit
instance eqlNilPV {P : Program} {t e : TypeId} {b : Nat} [h : Und P t (.pointer e)] : BinV P .eql t (ptrV b) (.pointer none) (.bool false) := eqlNilP (a := ⟨b, 0, none⟩)
instance neqNilPV {P : Program} {t e : TypeId} {b : Nat} [h : Und P t (.pointer e)] : BinV P .neq t (ptrV b) (.pointer none) (.bool true) := neqNilP (a := ⟨b, 0, none⟩)
attribute [local irreducible] WS LS OpQ OpT OpH OpTQ Spec SpecQ cel
variable (w0 : World)
set_option maxRecDepth 100000 in
theorem sendC_spec (gn : Nat) (s : Nd) (d : UInt32) (t : Str) (ht : t.length ≤ 16) (hi : s.Inv) (hnm : 0 ≤ s.names ∧ s.names ≤ 1000000) (hck : s.clk.length ≤ 100000) (hla : 0 ≤ s.last ∧ s.last ≤ 900000000000) (hf : s.Fit 6) (bn bd bt : Nat) (tn td tt : TypeId) : Spec Tryz.prog w0 144 [ptr bn 0, ptr bd 0, ptr bt 0] (nodA gn s * (cel bn tn [ptr gn 0] * (cel bd td [u32 d] * cel bt tt [strV t]))) (fun _ : Unit => .tuple #[]) (fun _ => nodA gn (s.sendT d t) * emp) := by
  refine Spec.enter Tryz.func144 rfl Tryz.ntmps144 rfl fun G => ?_
  rw [star_assoc (nodA gn s), star_assoc (cel bn tn _), star_assoc (cel bd td _)]
  refine WS_nod fun h => ?_
  simp only [argE]
  have ok := hi.tab.tab
  have p1 := hand_spec w0 gn s h d t (by omega) ok (hf.le (by omega))
  by_cases hr : (lookT s.ls d s.now).isSome = true
  · have es : s.sendT d t = s.hand d t := by unfold Nd.sendT; rw [if_pos hr]
    rw [hr] at p1
    repeat' (first | (refine WS_seqK ?_; intro K hK) | (refine hK _ ?_; clear hK K) | refine stZ ?_ | (refine s2Z ?_ ?_ <;> intro hc <;> (try simp only [cS] at hc) <;> (try (exfalso; first | contradiction | omega))) | refine sqZ ?_ | (refine LS_h (H_callX iI rfl p1 iI) rfl ?_; intro vf))
    exact ret_none (.inl rfl) rfl ⟨(), rfl, by rw [es, star_assoc (nodA _ _)]; exact Ent.nod { h with vf := vf } (finE)⟩
  have hr' : (lookT s.ls d s.now).isSome = false := by simpa using hr
  have eh : s.hand d t = s := by
    unfold Nd.hand
    cases hl : lookT s.ls d s.now with
    | none => rfl
    | some x => rw [hl] at hr; exact absurd rfl hr
  have es := Nd.sendT_eq s d t
  rw [if_neg hr] at es
  rw [eh, hr'] at p1
  obtain ⟨s1, hs1⟩ : ∃ s1, s1 = s.roomFor d := ⟨_, rfl⟩
  have hi1 : s1.Inv := by rw [hs1]; exact hi.roomFor d
  have hf1 : s1.Fit 5 := by rw [hs1]; exact Nd.Step.fit (Nd.Step.roomFor s d) (by have := hf.frames; omega) (by have := hf.came; omega) (by have := hf.dropped; omega) (by have := hf.recs; omega) (by have := hf.journal; omega)
  obtain ⟨e1, e2, e3, e4, e5, e6, e7, _⟩ := s.roomFor_eqs d
  have htx := texts_le hi d
  repeat' (first | (show WS _ _ _ (.seq (.seq (.region 1 _ _) _) _) _ _; refine WS_mid (fun τ => ∃ h2 : NH, τ = ⟨[(0, ptr bn 0), (0 + 1, ptr bd 0), (0 + 1 + 1, ptr bt 0)], [], nodP gn s1 h2 * (cel bn tn [ptr gn 0] * (cel bd td [u32 d] * (cel bt tt [strV t] * G)))⟩) ?_ ?_) | (refine WS_seqK ?_; intro K hK) | (refine hK _ ?_; clear hK K) | refine stZ ?_ | (refine s2Z ?_ ?_ <;> intro hc <;> (try simp only [cS] at hc) <;> (try (exfalso; first | contradiction | omega))) | refine sqZ ?_ | (refine LS_h (H_callX iI rfl p1 iI) rfl ?_; intro vf))
  · obtain ⟨h1, hh1⟩ : ∃ h1 : NH, h1 = { h with vf := vf } := ⟨_, rfl⟩
    rw [← hh1]
    clear p1 hh1
    refine WS_lens fun hsb hwv => ?_
    refine WS_waits d hwv fun A cap R hm hback hout => ?_
    obtain ⟨tx, htxe⟩ : ∃ tx, tx = s.texts d := ⟨_, rfl⟩
    have hrf : s.roomFor d = if tx.length = 4 then Nd.drop { s with wait := mset s.wait d (tx.drop 1) } 6 else s := by rw [htxe]; rfl
    rw [← htxe] at hm hback htx ⊢
    rw [hrf] at hs1
    clear htxe hrf
    by_cases h4 : tx.length = 4
    · rw [if_pos h4] at hs1
      obtain ⟨vs', hv'⟩ := hout (tlK A tx.length cap) (tx.drop 1)
      have p2 := drop_A w0 gn { s with wait := mset s.wait d (tx.drop 1) } { h1 with wv := vs' } 6 ⟨by have := hf.frames; show s.out.frames.length + 1 ≤ _; omega, by have := hf.came; show s.out.came.length + 1 ≤ _; omega, by have := hf.dropped; show s.out.dropped.length + 1 ≤ _; omega, by have := hf.recs; show s.recs.length + 9 * 1 ≤ _; omega, by have := hf.journal; show s.out.journal.length + 120 * 1 ≤ _; omega⟩
      rw [← hs1] at p2
      rw [slV_tl] at hv'
      simp only [nodM, nodC]
      repeat' (first | (show WS _ _ _ (.region 1 _ true) _ _; refine WS_drawA (.range 8) (by decide +kernel) rfl ?_) | (show WS _ _ _ (.region 2 _ true) _ _; refine WS_drawK (.range 13) 12 [0, 3, 4, 5, 8, 9, 10, 11] (by decide +kernel) rfl ?_) | (refine WS_seqK ?_; intro K hK) | (refine hK _ ?_; clear hK K) | refine stZ ?_ | (refine s2Z ?_ ?_ <;> intro hc <;> (try simp only [cS] at hc) <;> (try (exfalso; first | contradiction | omega))) | refine sbZ ?_ | refine sqZ ?_ | ((first | refine' LQ ?zh rfl ?_ | refine' DL_qp rfl rfl rfl ?zh ?_ | refine' DL_q rfl rfl ?zh ?_); case zh => intro F'; first | exact Q_lookupE rfl rfl iI iI iI iI iI (by assumption) | exact Q_sliceR_l rfl rfl iI iI iI iI (by first | assumption | omega | (simp [be_length] <;> omega))) | ((refine' DL_h0 ?zh rfl rfl ?_); (case zh => exact H_mapUpdate rfl rfl rfl iI iI iI iI iI); intro g) | (refine LS_ent (Ent.trans (Ent.trans (Ent.tailR (v := .slice A tx.length cap) 1 (by omega)) (Ent.trans (by simp only [nodM, nodC]; exact finE) (hv' _))) (Ent.refl _)) ?_; refine LS_h (H_callX iI rfl p2 iI) rfl ?_; intro x5; refine LS_nod fun h5 => ?_))
      exact ⟨_, ⟨h5, rfl⟩, ⟨rfl, rfl, rfl, trivial⟩, rfl, finE⟩
    · rw [if_neg h4] at hs1
      simp only [nodM, nodC]
      repeat' (first | (show WS _ _ _ (.region 1 _ true) _ _; refine WS_drawA (.range 8) (by decide +kernel) rfl ?_) | (refine hK _ ?_; clear hK K) | refine stZ ?_ | (refine s2Z ?_ ?_ <;> intro hc <;> (try simp only [cS] at hc) <;> (try (exfalso; first | contradiction | omega))) | refine sbZ ?_ | refine sqZ ?_ | ((refine' DL_q rfl rfl ?zh ?_); case zh => intro F'; exact Q_lookupE rfl rfl iI iI iI iI iI (by assumption)))
      refine ⟨_, ⟨h1, rfl⟩, ⟨rfl, rfl, rfl, trivial⟩, rfl, ?_⟩
      rw [hs1]
      refine Ent.trans ?_ (hback _)
      simp only [nodM, nodC]
      exact finE
  · rintro τ ⟨h2, rfl⟩
    have hrt := Nd.roomFor_texts s d htx.1
    have hnm1 : s1.names = s.names := by rw [hs1, e1]
    have hck1 : s1.clk = s.clk := by rw [hs1, e2]
    have hla1 : s1.last = s.last := by rw [hs1, e3]
    rw [← hs1] at hrt es
    have htx1 := texts_le hi1 d
    clear p1
    refine WS_lens fun hsb hwv => ?_
    refine WS_waits d hwv fun A cap R hm hback hout => ?_
    obtain ⟨tx, htxe⟩ : ∃ tx, tx = s1.texts d := ⟨_, rfl⟩
    have hput : s1.put d t = { s1 with wait := mset s1.wait d (tx ++ [t]) } := by rw [htxe]; rfl
    rw [← htxe] at hm hback hrt htx1 ⊢
    clear htxe
    have hi2 : (s1.put d t).Inv := by
      rw [hput]
      refine hi1.put d _ (by simp; omega) fun x hx => ?_
      rcases List.mem_append.1 hx with hx | hx
      · exact htx1.2 x hx
      · simp at hx; subst hx; exact ht
    have hq : srFind (s1.put d t).srs d = kfind (·.dest) s1.srs d := srFind_k _ _
    rw [hq] at es
    cases hk : kfind (·.dest) s1.srs d with
    | some k =>
      obtain ⟨x, hx, hxd⟩ := kfind_some hk
      obtain ⟨b, hb⟩ : ∃ b, h2.sb[k]? = some b := ⟨_, List.getElem?_eq_getElem (by rw [hsb]; exact (List.getElem?_eq_some_iff.1 hx).1)⟩
      have hmq : mget (qmap h2.sb s1.srs) d = some b := mget_zmap_some (key := fun x : Sr => x.dest) hsb hk hb
      rw [hk] at es
      simp only at es
      simp only [nodM, nodC]
      repeat' (first | (show WS _ _ _ (.region 5 _ true) _ _; refine WS_drawA (.range 7) (by decide +kernel) rfl ?_) | (refine WS_seqK ?_; intro K hK) | (refine hK _ ?_; clear hK K) | refine stZ ?_ | (refine s2Z ?_ ?_ <;> intro hc <;> (try simp only [cS] at hc) <;> (try (exfalso; first | contradiction | omega))) | refine sqZ ?_ | ((first | refine' DL_qp rfl rfl rfl ?zh ?_ | refine' DL_q rfl rfl ?zh ?_); case zh => intro F'; first | exact Q_bin rfl rfl iI | exact Q_lookupE rfl rfl iI iI iI iI iI (by assumption) | exact Q_lookup_s rfl rfl iI iI iI iI iI (by assumption)) | ((refine' DL_h0 ?zh rfl rfl ?_); (case zh => exact H_mapUpdate rfl rfl rfl iI iI iI iI iI); intro g) | (refine DL_h (H_buildSliceR strCc [t] iI iI iI rfl rfl rfl rfl rfl iI rfl rfl rfl) rfl rfl rfl ?_; intro vx) | (refine DL_h (H_appendRF rfl rfl iI iI rfl iI iI strCc_one (by first | omega | (simp [be_length] <;> omega)) rfl) rfl rfl rfl ?_; intro pv) | (show WS _ _ _ (.region 4 _ true) _ _; refine WS_drawJ4 gn bn bd bt (mp u32 slV' h2.rw (wmap h2.wv s1.wait)) [0, 1, 2, 3, 4, 5, 6, 7, 8, 9, 10, 11, 12, 13, 14] 14 [10] (by decide +kernel) rfl iI iI iI iI iI ?_))
      obtain ⟨vs', hv'⟩ := hout pv (tx ++ [t])
      refine ret_none (.inr rfl) rfl ⟨(), rfl, ?_⟩
      rw [es, hput, star_assoc (nodA _ _)]
      refine Ent.trans ?_ ((hv' _).trans (Ent.nod { h2 with wv := vs' } (Ent.refl _)))
      simp only [nodM, nodC]
      exact finE
    | none =>
      have hmq : mget (qmap h2.sb s1.srs) d = none := mget_zmap_none (key := fun x : Sr => x.dest) hsb hk
      rw [hk] at es
      simp only at es
      have p5 := fun vs' => begin_spec w0 gn (s1.put d t) { h2 with wv := vs' } d (hq.trans hk) hi2.sr hi2.tab.tab (by show 0 ≤ s1.names ∧ s1.names ≤ _; rw [hnm1]; omega) hi2.order (by have := hi2.sent; omega) (by show s1.clk.length ≤ _; rw [hck1]; omega) (by show 0 ≤ s1.last ∧ s1.last ≤ _; rw [hla1]; omega) (by exact ⟨by have := hf1.frames; show s1.out.frames.length + 3 ≤ _; omega, by have := hf1.came; show s1.out.came.length + 3 ≤ _; omega, by have := hf1.dropped; show s1.out.dropped.length + 3 ≤ _; omega, by have := hf1.recs; show s1.recs.length + 9 * 3 ≤ _; omega, by have := hf1.journal; show s1.out.journal.length + 120 * 3 ≤ _; omega⟩)
      have ebg : Nd.ask ((s1.put d t).newSr d) (s1.put d t).srs.length ⟨d, 1, 0, false, (s1.put d t).names + 1⟩ = s.sendT d t := by rw [es]; rfl
      rw [ebg, hput] at p5
      simp only [nodM, nodC]
      repeat' (first | (show WS _ _ _ (.region 5 _ true) _ _; refine WS_drawA (.range 7) (by decide +kernel) rfl ?_) | (refine WS_seqK ?_; intro K hK) | (refine hK _ ?_; clear hK K) | refine stZ ?_ | (refine s2Z ?_ ?_ <;> intro hc <;> (try simp only [cS] at hc) <;> (try (exfalso; first | contradiction | omega))) | refine sqZ ?_ | ((first | refine' LQ ?zh rfl ?_ | refine' DL_qp rfl rfl rfl ?zh ?_ | refine' DL_q rfl rfl ?zh ?_); case zh => intro F'; first | exact Q_bin rfl rfl iI | exact Q_lookupE rfl rfl iI iI iI iI iI (by assumption) | exact Q_lookup_n rfl rfl iI iI iI iI iI (by assumption)) | ((refine' DL_h0 ?zh rfl rfl ?_); (case zh => exact H_mapUpdate rfl rfl rfl iI iI iI iI iI); intro g) | (refine DL_h (H_buildSliceR strCc [t] iI iI iI rfl rfl rfl rfl rfl iI rfl rfl rfl) rfl rfl rfl ?_; intro vx) | (refine DL_h (H_appendRF rfl rfl iI iI rfl iI iI strCc_one (by first | omega | (simp [be_length] <;> omega)) rfl) rfl rfl rfl ?_; intro pv) | (show WS _ _ _ (.region 4 _ true) _ _; refine WS_drawJ4 gn bn bd bt (mp u32 slV' h2.rw (wmap h2.wv s1.wait)) [0, 1, 2, 3, 4, 5, 6, 7, 8, 9, 10, 11, 12, 13, 14] 14 [10] (by decide +kernel) rfl iI iI iI iI iI ?_) | (obtain ⟨vs', hv'⟩ := hout pv (tx ++ [t]); refine LS_ent (Ent.trans (by simp only [nodM, nodC]; exact finE) (hv' (cel bn tn [ptr gn 0] * (cel bd td [u32 d] * (cel bt tt [strV t] * G))))) ?_; refine LS_h (H_callX iI rfl (p5 vs') iI) rfl ?_; intro x5))
      exact ret_none (.inr rfl) rfl ⟨(), rfl, by rw [star_assoc (nodA _ _)]; exact finE⟩
end

section
open Go.RowKit
theorem Nd.begin_fit {s : Nd} {c : Nat} (h : s.Rest c) (now : UInt64) : (s.begin now).Fit 10 := by
 have h1 := Nd.begin_recs s now h.inv.tab.tab
 have h2 := Nd.begin_jour s now h.inv.tab.tab
 have h3 := h.recs
 exact ⟨by rw [Nd.begin_frames]; simp, by rw [Nd.begin_came]; simp, by rw [Nd.begin_dropped]; simp, by omega, by omega⟩
attribute [local irreducible] WS LS OpQ OpT OpH OpTQ Spec SpecQ cel
variable (w0 : World)
set_option maxRecDepth 100000 in
theorem ntick_spec (gn : Nat) (s : Nd) (now : UInt64) {c : Nat} (hr : s.Rest c) (hc : c ≤ 8500) (hn : now.toNat ≤ 4611686018427387904) : Spec Tryz.prog w0 87 [ptr gn 0, u64 now] (nodI gn s) (fun x : Value × Value × Value => outA (s.tickF now).out x) (fun x => nodI gn (s.tickF now) * outR (s.tickF now).out x) := by
  have hR := hr.ready hc hn
  obtain ⟨i, hi, hT⟩ := Nd.tick_run hR
  have h1 := hT.step.recs
  have h2 := hT.step.journal
  have h3 := Nd.begin_recs s now hr.inv.tab.tab
  have h4 := Nd.begin_jour s now hr.inv.tab.tab
  have h5 := hr.recs
  have h6 := hR.clk
  have p1 := fun bn bw => does_spec w0 gn s ((s.begin now).tick now) now (by omega) hr.inv.tab.tab (by omega) (by omega) hT.inv.tab.tab 142 [ptr bn 0, ptr bw 0] _ _ (tickC_spec w0 gn (s.begin now) now hR bn bw 90 24)
  unfold Nd.tickF
  generalize ((s.begin now).tick now).done = s2 at p1 ⊢
  simp only [outA, outR] at p1 ⊢
  refine Spec.enter Tryz.func87 rfl Tryz.ntmps87 rfl fun G => ?_
  simp only [argE]
  repeat' (first | (refine WS_seqK ?_; intro K hK) | (refine hK _ ?_; clear hK K) | refine stZ ?_ | refine sqZ ?_ | (refine shZ ?_; intro g) | (refine s0Z ?_; intro g) | (refine LS_h (H_callX iI rfl (p1 _ _) iI) rfl ?_; intro x))
  exact ret_1 (.inl rfl) rfl (RV_cell rfl iI iI rfl) ⟨x.1, rfl, finE⟩
set_option maxRecDepth 100000 in
theorem nbroken_spec (gn : Nat) (s : Nd) (now : UInt64) (nb : UInt32) {c : Nat} (hr : s.Rest c) : Spec Tryz.prog w0 136 [ptr gn 0, u64 now, u32 nb] (nodI gn s) (fun x : Value × Value × Value => outA (s.brkF now nb).out x) (fun x => nodI gn (s.brkF now nb) * outR (s.brkF now nb).out x) := by
  have hb := hr.inv.begin now
  have hs := Nd.Step.brk (s.begin now) nb
  have h1 := hs.recs
  have h2 := hs.journal
  have h3 := Nd.begin_recs s now hr.inv.tab.tab
  have h4 := Nd.begin_jour s now hr.inv.tab.tab
  have h5 := hr.recs
  have p1 := fun bn bx => does_spec w0 gn s ((s.begin now).brk nb) now (by omega) hr.inv.tab.tab (by omega) (by omega) (hb.brk nb).tab.tab 193 [ptr bn 0, ptr bx 0] _ _ (brkC_spec w0 gn (s.begin now) nb hb.tab.tab ((Nd.begin_fit hr now).le (by omega)) bn bx 90 26)
  unfold Nd.brkF
  generalize ((s.begin now).brk nb).done = s2 at p1 ⊢
  simp only [outA, outR] at p1 ⊢
  refine Spec.enter Tryz.func136 rfl Tryz.ntmps136 rfl fun G => ?_
  simp only [argE]
  repeat' (first | (refine WS_seqK ?_; intro K hK) | (refine hK _ ?_; clear hK K) | refine stZ ?_ | refine sqZ ?_ | (refine shZ ?_; intro g) | (refine s0Z ?_; intro g) | (refine LS_h (H_callX iI rfl (p1 _ _) iI) rfl ?_; intro x))
  exact ret_1 (.inl rfl) rfl (RV_cell rfl iI iI rfl) ⟨x.1, rfl, finE⟩
end

section
open Go.RowKit
def Nd.sendE (s : Nd) (d : UInt32) (t : Str) : Int := if 16 < t.length then 6 else if d = s.self ∨ d = 0 then 2 else 0
def outNo : Value := .agg #[strV [], .bool false, .slice none 0 0, .slice none 0 0, .slice none 0 0]
attribute [local irreducible] WS LS OpQ OpT OpH OpTQ Spec SpecQ cel
variable (w0 : World)
set_option maxRecDepth 100000 in
theorem nsendT_spec (gn : Nat) (s : Nd) (now : UInt64) (d : UInt32) (t : Str) {c : Nat} (hr : s.Rest c) (hc : c ≤ 8500) (hn : now.toNat ≤ 4611686018427387904) (he : s.sendE d t = 0) : Spec Tryz.prog w0 89 [ptr gn 0, u64 now, u32 d, strV t] (nodI gn s) (fun x : Value × Value × Value => .tuple #[outA (s.sendF now d t).out x, .int .i64 0]) (fun x => nodI gn (s.sendF now d t) * outR (s.sendF now d t).out x) := by
  have ht : t.length ≤ 16 := by unfold Nd.sendE at he; split at he; cases he; omega
  have hd : d ≠ s.self ∧ d ≠ 0 := by
    unfold Nd.sendE at he
    rw [if_neg (by omega)] at he
    split at he
    · cases he
    · rename_i h; exact ⟨fun e => h (.inl e), fun e => h (.inr e)⟩
  obtain ⟨hd1, hd2⟩ := hd
  have hb := hr.inv.begin now
  obtain ⟨e1, e2, e3, e4, e5, e6⟩ := s.begin_same now
  have hs := Nd.Step.sendT8 hb d t
  have h1 := hs.recs
  have h2 := hs.journal
  have h3 := Nd.begin_recs s now hr.inv.tab.tab
  have h4 := Nd.begin_jour s now hr.inv.tab.tab
  have h5 := hr.recs
  have g1 := hr.names; have g2 := hr.clk; have g3 := hr.last
  have hi2 := hb.sendT d t ht (by rw [e4]; exact g1.1)
  have p1 := fun bn bd bt => does_spec w0 gn s ((s.begin now).sendT d t) now (by omega) hr.inv.tab.tab (by omega) (by omega) hi2.tab.tab 144 [ptr bn 0, ptr bd 0, ptr bt 0] _ _ (sendC_spec w0 gn (s.begin now) d t ht hb (by rw [e4]; omega) (by rw [e2]; omega) (by rw [e3]; omega) ((Nd.begin_fit hr now).le (by omega)) bn bd bt 90 26 9)
  unfold Nd.sendF
  generalize ((s.begin now).sendT d t).done = s2 at p1 ⊢
  simp only [outA, outR] at p1 ⊢
  refine Spec.enter Tryz.func89 rfl Tryz.ntmps89 rfl fun G => ?_
  refine WS_nodI fun h o => ?_
  have p2 := fun bn bd bt => (p1 bn bd bt).conv (X' := (cel gn 159 (nodC 0 s h o) * (rows 28 3 Rec.cells h.vr s.recs * (mp u32 u32 h.rh s.held * (tabQ h.tb s.self s.ls * restP gn s h)))) * (cel bn 90 [ptr gn 0] * (cel bd 26 [u32 d] * cel bt 9 [strV t]))) (fun Z => by rw [star_assoc, star_assoc (nodI _ _)]; exact ent_nodI h o (Ent.refl _)) (fun _ _ => Ent.refl _)
  simp only [argE, nodC] at p2 ⊢
  clear p1
  have hd1' : ¬ d = s.self := hd1
  have hd2' : ¬ d = 0 := hd2
  have htl : ¬ (16 : Int) < (t.length : Int) := by omega
  repeat' (first | (show WS _ _ _ (.region 3 _ true) _ _; refine WS_drawA (.range 11) (by decide +kernel) rfl ?_) | (refine WS_seqK ?_; intro K hK) | (refine hK _ ?_; clear hK K) | refine stZ ?_ | (refine s2Z ?_ ?_ <;> intro hc <;> (try simp only [cS] at hc) <;> (try (exfalso; first | contradiction | omega))) | refine sbZ ?_ | refine sqZ ?_ | (refine shZ ?_; intro g) | (refine s0Z ?_; intro g) | (refine LS_h (H_callX iI rfl (p2 _ _ _) iI) rfl ?_; intro x))
  exact ret_2 (.inl rfl) rfl (RV_cell rfl iI iI rfl) (RV_tmp rfl) ⟨x.1, rfl, finE⟩
set_option maxRecDepth 100000 in
theorem nsendNo_spec (gn : Nat) (s : Nd) (now : UInt64) (d : UInt32) (t : Str) (he : s.sendE d t ≠ 0) : Spec Tryz.prog w0 89 [ptr gn 0, u64 now, u32 d, strV t] (nodI gn s) (fun _ : Unit => .tuple #[outNo, .int .i64 (s.sendE d t)]) (fun _ => nodI gn s) := by
  refine Spec.enter Tryz.func89 rfl Tryz.ntmps89 rfl fun G => ?_
  refine WS_nodI fun h o => ?_
  simp only [argE, nodC]
  unfold Nd.sendE at he ⊢
  by_cases ht : 16 < t.length
  · rw [if_pos ht]
    have htl : (16 : Int) < (t.length : Int) := by omega
    repeat' (first | (refine WS_seqK ?_; intro K hK) | (refine hK _ ?_; clear hK K) | refine stZ ?_ | (refine s2Z ?_ ?_ <;> intro hc <;> (try simp only [cS] at hc) <;> (try (exfalso; first | contradiction | omega))) | refine sbZ ?_ | refine sqZ ?_ | (refine shZ ?_; intro g) | (refine s0Z ?_; intro g))
    exact ret_2 (.inl rfl) rfl (RV_cell rfl iI iI rfl) (RV_tmp rfl) ⟨(), rfl, by refine ent_nodI h o ?_; simp only [nodC]; exact finE⟩
  · rw [if_neg ht] at he ⊢
    have htl : ¬ (16 : Int) < (t.length : Int) := by omega
    have hd : d = s.self ∨ d = 0 := by
      apply Classical.byContradiction
      intro hd
      rw [if_neg hd] at he
      exact he rfl
    rw [if_pos hd]
    by_cases hd1 : d = s.self
    · repeat' (first | (show WS _ _ _ (.region 3 _ true) _ _; refine WS_drawA (.range 11) (by decide +kernel) rfl ?_) | (refine WS_seqK ?_; intro K hK) | (refine hK _ ?_; clear hK K) | refine stZ ?_ | (refine s2Z ?_ ?_ <;> intro hc <;> (try simp only [cS] at hc) <;> (try (exfalso; first | contradiction | omega))) | refine sbZ ?_ | refine sqZ ?_ | (refine shZ ?_; intro g) | (refine s0Z ?_; intro g))
      exact ret_2 (.inl rfl) rfl (RV_cell rfl iI iI rfl) (RV_tmp rfl) ⟨(), rfl, by refine ent_nodI h o ?_; simp only [nodC]; exact finE⟩
    · have hd2 : d = 0 := hd.resolve_left hd1
      repeat' (first | (show WS _ _ _ (.region 3 _ true) _ _; refine WS_drawA (.range 11) (by decide +kernel) rfl ?_) | (refine WS_seqK ?_; intro K hK) | (refine hK _ ?_; clear hK K) | refine stZ ?_ | (refine s2Z ?_ ?_ <;> intro hc <;> (try simp only [cS] at hc) <;> (try (exfalso; first | contradiction | omega))) | refine sbZ ?_ | refine sqZ ?_ | (refine shZ ?_; intro g) | (refine s0Z ?_; intro g))
      exact ret_2 (.inl rfl) rfl (RV_cell rfl iI iI rfl) (RV_tmp rfl) ⟨(), rfl, by refine ent_nodI h o ?_; simp only [nodC]; exact finE⟩
end

section
open Go.RowKit
attribute [local irreducible] WS LS OpQ OpT OpH OpTQ Spec SpecQ cel
variable (w0 : World)
set_option maxRecDepth 100000 in
theorem request_spec (gn : Nat) (s : Nd) (h : NH) (src : UInt32) (p : Pk) (hp : p.Read) (v : Value) (ok : TabOk s.ls) (ho : s.order.length ≤ 16) (hf : s.Fit 1) : Spec Tryz.prog w0 118 [ptr gn 0, u32 src, p.val v] (nodP gn s h * rows 180 2 lostC v p.lost) (fun _ : Unit => .tuple #[]) (fun _ => nodA gn (s.req src p)) := by
  refine Spec.enter Tryz.func118 rfl Tryz.ntmps118 rfl fun G => ?_
  refine WS_form v iI fun A c hv => ?_
  subst hv
  obtain ⟨hp1, hp2, hp3, hp4, hp5⟩ := hp
  obtain ⟨ttl, kind, hops, unknown, id, dest, destSeq, from_, fromSeq, life, lost, payload⟩ := p
  simp only [Pk.val, Pk.cells, argE] at *
  have p1 := drop_A w0 gn s h 1 hf
  have hsv : optV u64 (.int .u64 0) (mget s.seen (⟨from_, id⟩ : Rq)) = u64 (seenAt s.seen ⟨from_, id⟩) := by unfold seenAt; cases mget s.seen (⟨from_, id⟩ : Rq) <;> rfl
  by_cases h1 : from_ = s.self
  · have es : s.req src ⟨ttl, kind, hops, unknown, id, dest, destSeq, from_, fromSeq, life, lost, payload⟩ = s.drop 1 := by unfold Nd.req; rw [if_pos (.inl h1)]
    simp only [nodP, nodPm, nodC, outH, restP] at p1 ⊢
    repeat' (first | (show WS _ _ _ (.region 2 _ true) _ _; refine WS_drawA (.range 20) (by decide +kernel) rfl ?_) | (refine WS_seqK ?_; intro K hK) | (refine hK _ ?_; clear hK K) | refine stZ ?_ | (refine s2Z ?_ ?_ <;> intro hc <;> (try simp only [cS] at hc) <;> (try (exfalso; first | contradiction | omega))) | refine sbZ ?_ | refine sqZ ?_ | (refine shZ ?_; intro g) | (refine s0Z ?_; intro g) | (refine LS_h (H_callX iI rfl p1 iI) rfl ?_; intro x1))
    exact ret_none (.inl rfl) rfl ⟨(), rfl, by rw [es]; exact finE⟩
  by_cases h2 : s.now < seenAt s.seen ⟨from_, id⟩
  · have es : s.req src ⟨ttl, kind, hops, unknown, id, dest, destSeq, from_, fromSeq, life, lost, payload⟩ = s.drop 1 := by unfold Nd.req; rw [if_pos (.inr h2)]
    simp only [nodP, nodPm, nodC, outH, restP, restC] at p1 ⊢
    repeat' (first | (show WS _ _ _ (.region 2 _ true) _ _; refine WS_drawA (.range 20) (by decide +kernel) rfl ?_) | (refine WS_seqK ?_; intro K hK) | (refine hK _ ?_; clear hK K) | refine stZ ?_ | (refine s2Z ?_ ?_ <;> intro hc <;> (try simp only [cS] at hc) <;> (try (exfalso; first | contradiction | omega))) | refine sbZ ?_ | refine sqZ ?_ | ((first | refine' LQ ?zh rfl ?_ | refine' DL_q rfl rfl ?zh ?_ | refine' DL_qg rfl rfl rfl ?zh ?_); case zh => intro F'; exact Q_lookupE rfl rfl iI iI iI iI iI (by assumption)) | (refine shZ ?_; intro g) | (refine s0Z ?_; intro g) | (refine LS_h (H_callX iI rfl p1 iI) rfl ?_; intro x1))
    exact ret_none (.inl rfl) rfl ⟨(), rfl, by rw [es]; exact finE⟩
  clear p1
  obtain ⟨s1, hs1⟩ : ∃ s1 : Nd, s1 = s.remember ⟨from_, id⟩ := ⟨_, rfl⟩
  have hf1 : s1.Fit 1 := by rw [hs1]; exact hf.remember _
  have ok1 : TabOk s1.ls := by rw [hs1, (s.remember_eqs _).1]; exact ok
  have p2 := remember_spec w0 gn s h ⟨from_, id⟩ ho
  have p3 := fun vo => soon_spec w0 gn s1 { h with vo := vo }
  have p4 := update_spec w0 h.tb s1.self s1.ls ok1 (Ln.learned from_ fromSeq (min (hops + 1) 255) src s1.soon) rfl rfl (by simp only [Ln.learned]; omega)
  have p6 := fun ls1 => use_spec w0 h.tb s1.self ls1 from_ s1.soon
  rw [← hs1] at p2
  have hcd := updT_code s1.self s1.ls (Ln.learned from_ fromSeq (min (hops + 1) 255) src s1.soon)
  have okU := ok1.upd s1.self (Ln.learned from_ fromSeq (min (hops + 1) 255) src s1.soon) (by simp only [Ln.learned]; omega)
  have es : s.req src ⟨ttl, kind, hops, unknown, id, dest, destSeq, from_, fromSeq, life, lost, payload⟩ = if (updT s1.self s1.ls (Ln.learned from_ fromSeq (min (hops + 1) 255) src s1.soon)).1 = 4 then Nd.drop { s1 with ls := (updT s1.self s1.ls (Ln.learned from_ fromSeq (min (hops + 1) 255) src s1.soon)).2 } 2 else Nd.req2 { s1 with ls := if (updT s1.self s1.ls (Ln.learned from_ fromSeq (min (hops + 1) 255) src s1.soon)).1 = 3 then useT (updT s1.self s1.ls (Ln.learned from_ fromSeq (min (hops + 1) 255) src s1.soon)).2 from_ s1.soon else (updT s1.self s1.ls (Ln.learned from_ fromSeq (min (hops + 1) 255) src s1.soon)).2 } ⟨ttl, kind, hops, unknown, id, dest, destSeq, from_, fromSeq, life, lost, payload⟩ := by
    unfold Nd.req
    simp only
    rw [if_neg (by rintro (e | e); exact h1 e; exact h2 e), ← hs1]
    rfl
  generalize hu : updT s1.self s1.ls (Ln.learned from_ fromSeq (min (hops + 1) 255) src s1.soon) = u at p4 hcd okU es
  obtain ⟨e, ls1⟩ := u
  simp only at p4 hcd okU es
  simp only [Ln.learned, routeC] at p4
  have p5 := fun vo => drop_A w0 gn { s1 with ls := ls1 } { h with vo := vo } 2 (hf1.ls ls1)
  rw [es]
  clear es hu
  simp only [nodP, nodPm, nodC, outH, restP, restC, rqV, rqC] at p2 p3 p5 ⊢
  by_cases he4 : e = 4
  · rw [if_pos he4]
    subst he4
    repeat' (first | (show WS _ _ _ (.region 2 _ true) _ _; refine WS_drawA (.range 20) (by decide +kernel) rfl ?_) | (show WS _ _ _ (.region 6 _ true) _ _; refine WS_drawK (.range 14) 13 [3, 5, 7] (by decide +kernel) rfl ?_) | (refine WS_seqK ?_; intro K hK) | (refine hK _ ?_; clear hK K) | refine stZ ?_ | (refine s2Z ?_ ?_ <;> intro hc <;> (try simp only [cS] at hc) <;> (try (exfalso; first | contradiction | omega))) | refine sbZ ?_ | refine sqZ ?_ | ((first | refine' LQ ?zh rfl ?_ | refine' DL_qp rfl rfl rfl ?zh ?_ | refine' DL_q rfl rfl ?zh ?_ | refine' DL_qg rfl rfl rfl ?zh ?_); case zh => intro F'; exact Q_lookupE rfl rfl iI iI iI iI iI (by assumption)) | (refine shZ ?_; intro g) | (refine s0Z ?_; intro g) | (refine LS_h (H_callX iI rfl p2 iI) rfl ?_; intro vo; replace p3 := p3 vo; replace p5 := p5 vo) | (refine DL_callS iI rfl p3 iI rfl ?_) | (refine DL_h (H_callX iI rfl p4 iI) rfl rfl rfl ?_; intro x4) | (refine LS_h (H_callX iI rfl p5 iI) rfl ?_; intro x5))
    exact ret_none (.inl rfl) rfl ⟨(), rfl, finE⟩
  rw [if_neg he4]
  clear p5
  obtain ⟨ls2, hls2⟩ : ∃ ls2, ls2 = if e = 3 then useT ls1 from_ s1.soon else ls1 := ⟨_, rfl⟩
  have ok2 : TabOk ls2 := by rw [hls2]; split; exact okU.use _ _; exact okU
  obtain ⟨s2, hs2⟩ : ∃ s2 : Nd, s2 = { s1 with ls := ls2 } := ⟨_, rfl⟩
  have ok2' : TabOk s2.ls := by rw [hs2]; exact ok2
  have hf2 : s2.Fit 1 := by rw [hs2]; exact hf1.ls _
  rw [← hls2, ← hs2]
  have q1 := drop_A w0 gn s2
  by_cases he3 : e = 3
  all_goals
    first | rw [if_pos he3] at hls2; subst he3 | rw [if_neg he3] at hls2
    repeat' (first | (show WS _ _ _ (.region 2 _ true) _ _; refine WS_drawA (.range 20) (by decide +kernel) rfl ?_) | (show WS _ _ _ (.region 6 _ true) _ _; refine WS_drawK (.range 14) 13 [3, 5, 7] (by decide +kernel) rfl ?_) | (show WS _ _ _ (.region 10 _ true) _ _; refine WS_drawK (.range 9) 8 [3, 5] (by decide +kernel) rfl ?_) | (refine WS_seqK ?_; intro K hK) | (refine hK _ ?_; clear hK K) | refine stZ ?_ | (refine s2Z ?_ ?_ <;> intro hc <;> (try simp only [cS] at hc) <;> (try (exfalso; first | contradiction | omega))) | refine sbZ ?_ | refine sqZ ?_ | ((first | refine' LQ ?zh rfl ?_ | refine' DL_qp rfl rfl rfl ?zh ?_ | refine' DL_q rfl rfl ?zh ?_ | refine' DL_qg rfl rfl rfl ?zh ?_); case zh => intro F'; exact Q_lookupE rfl rfl iI iI iI iI iI (by assumption)) | ((first | refine' LS_h ?zh rfl ?_ | refine' DL_h ?zh rfl rfl rfl ?_); (case zh => exact H_alloc iI); intro g) | (refine s0Z ?_; intro g) | (refine LS_h (H_box rfl) rfl ?_; intro gp) | (refine LS_h (H_callX iI rfl p2 iI) rfl ?_; intro vo; replace p3 := p3 vo) | (refine DL_callS iI rfl p3 iI rfl ?_) | (refine DL_h (H_callX iI rfl p4 iI) rfl rfl rfl ?_; intro x4) | (refine DL_h (H_callX iI rfl (p6 ls1) iI) rfl rfl rfl ?_; intro x5))
    obtain ⟨h1, hh1⟩ : ∃ h1 : NH, h1 = { h with vo := vo } := ⟨_, rfl⟩
    refine WS_ent (H' := nodP gn s2 h1 * (cel gp 44 [.int .i64 ttl, .int .i64 kind, .int .i64 hops, .bool unknown, u32 id, u32 dest, u32 destSeq, u32 from_, u32 fromSeq, u32 life, .slice A lost.length c, strV payload] * (rows 180 2 lostC (.slice A lost.length c) lost * G))) (by rw [hs2, hh1, hls2]; simp only [nodP, nodPm, nodC, outH, restP, restC]; exact finE) ?_
    clear p2 p3 p4 p6 hh1 hs2 hls2 hsv
    by_cases hd : dest = s2.self
    · obtain ⟨s3, hs3⟩ : ∃ s3 : Nd, s3 = { s2 with seq := if unknown then s2.seq else max s2.seq destSeq } := ⟨_, rfl⟩
      have a1 := answer_spec w0 gn s3 h1 ⟨0, 0, 0, false, 0, dest, s3.seq, from_, 0, 6000, [], []⟩ rfl (by simp [i64R]) (by simp) (by rw [hs3]; exact ok2') (by rw [hs3]; exact ⟨hf2.frames, hf2.came, hf2.dropped, hf2.recs, hf2.journal⟩)
      have es2 : s2.req2 ⟨ttl, kind, hops, unknown, id, dest, destSeq, from_, fromSeq, life, lost, payload⟩ = s3.answer ⟨0, 0, 0, false, 0, dest, s3.seq, from_, 0, 6000, [], []⟩ := by unfold Nd.req2; simp only; rw [if_pos hd, hs3]
      cases unknown
      all_goals
        simp only [Bool.false_eq_true, if_false, if_true] at hs3
        rw [hs3] at a1
        simp only [nodP, nodPm, nodC, outH, restP, Pk.val, Pk.cells] at a1 ⊢
        repeat' (first | (show WS _ _ _ (.region 11 _ true) _ _; refine WS_drawA (.range 7) (by decide +kernel) rfl ?_) | (show WS _ _ _ (.region 13 _ true) _ _; first | refine WS_drawK (.range 11) 10 [4, 6, 7] (by decide +kernel) rfl ?_ | refine WS_drawN 0 5 (.range 11) 10 [4] (by decide +kernel) rfl rfl rfl iI iI ?_) | (show WS _ _ _ (.region 14 _ true) _ _; refine WS_drawK (.range 11) 10 [4, 6, 8] (by decide +kernel) rfl ?_) | (refine WS_seqK ?_; intro K hK) | (refine hK _ ?_; clear hK K) | refine stZ ?_ | (refine s2Z ?_ ?_ <;> intro hc <;> (try simp only [cS] at hc) <;> (try (exfalso; first | contradiction | omega))) | refine sbZ ?_ | refine sqZ ?_ | (refine s0Z ?_; intro g) | (refine DL_h (H_callX iI rfl a1 iI) rfl rfl rfl ?_; intro x6))
        exact ret_none (.inl rfl) rfl ⟨(), rfl, by rw [es2, hs3]; exact finE⟩
    by_cases hA : ∃ x, lookT s2.ls dest s2.now = some x ∧ (unknown = true ∨ destSeq ≤ x.seq)
    · obtain ⟨x, hx, hc⟩ := hA
      have es2 : s2.req2 ⟨ttl, kind, hops, unknown, id, dest, destSeq, from_, fromSeq, life, lost, payload⟩ = s2.ans2 ⟨ttl, kind, hops, unknown, id, dest, destSeq, from_, fromSeq, life, lost, payload⟩ x := by unfold Nd.req2; simp only; rw [if_neg hd, hx]; simp only; rw [if_pos hc]
      obtain ⟨ls3, hls3⟩ : ∃ ls3, ls3 = match lookT s2.ls from_ s2.now with | some b => befT s2.ls dest b.next | none => s2.ls := ⟨_, rfl⟩
      obtain ⟨s3, hs3⟩ : ∃ s3 : Nd, s3 = { s2 with ls := befT ls3 from_ x.next } := ⟨_, rfl⟩
      have ok3 : TabOk s3.ls := by rw [hs3]; refine TabOk.bef ?_ _ _; rw [hls3]; split; exact ok2'.bef _ _; exact ok2'
      have a1 := find_spec w0 h1.tb s2.self s2.ls ok2' dest s2.now
      have a2 := find_spec w0 h1.tb s2.self s2.ls ok2' from_ s2.now
      have a4 := before_spec w0 h1.tb s2.self ls3 from_ x.next
      have hxm := (lookT_mem hx)
      have hxh := ok2'.hops x hxm
      have a5 := answer_spec w0 gn s3 h1 ⟨0, 0, x.hops, false, 0, dest, x.seq, from_, 0, (x.expires - s3.now).toUInt32, [], []⟩ rfl (by simp only [i64R]; omega) (by simp) ok3 (by rw [hs3]; exact hf2.ls _)
      have es3 : s2.ans2 ⟨ttl, kind, hops, unknown, id, dest, destSeq, from_, fromSeq, life, lost, payload⟩ x = s3.answer ⟨0, 0, x.hops, false, 0, dest, x.seq, from_, 0, (x.expires - s3.now).toUInt32, [], []⟩ := by unfold Nd.ans2; rw [hs3, hls3]; rfl
      rw [hs3] at a5
      have es4 := es2.trans (es3.trans (by rw [hs3]))
      clear es2 es3
      cases hy : lookT s2.ls from_ s2.now with
      | none =>
        simp only [hy] at hls3
        subst hls3
        simp only [nodP, nodPm, nodC, outH, restP, Pk.val, Pk.cells] at a5 ⊢
        simp only [hx, hy, findV, findH, routeC] at a1 a2
        cases unknown with
        | true =>
          repeat' (first | (show WS _ _ _ (.region 11 _ true) _ _; refine WS_drawA (.range 7) (by decide +kernel) rfl ?_) | (show WS _ _ _ (.region 15 _ true) _ _; first | refine WS_drawR2 0 5 (.range 17) (by decide +kernel) rfl rfl rfl iI iI ?_ | refine WS_drawK (.range 17) 10 [3, 5, 9] (by decide +kernel) rfl ?_) | (show WS _ _ _ (.region 17 _ true) _ _; first | refine WS_drawR2 0 5 (.range 17) (by decide +kernel) rfl rfl rfl iI iI ?_ | refine WS_drawK (.range 17) 10 [3, 5, 9] (by decide +kernel) rfl ?_) | (show WS _ _ _ (.region 20 _ true) _ _; refine WS_drawK (.range 9) 8 [3, 5, 7] (by decide +kernel) rfl ?_) | (show WS _ _ _ (.region 21 _ true) _ _; refine WS_drawK (.range 19) 18 [2, 4, 6, 8, 10, 14, 16] (by decide +kernel) rfl ?_) | (refine WS_seqK ?_; intro K hK) | (refine hK _ ?_; clear hK K) | refine stZ ?_ | (refine s2Z ?_ ?_ <;> intro hc <;> (try simp only [cS] at hc) <;> (try (exfalso; first | contradiction | omega))) | (refine DL_alloc iI rfl ?_; intro g) | refine sbZ ?_ | refine sqZ ?_ | ((first | refine' LQ ?zh rfl ?_ | refine' DL_qp rfl rfl rfl ?zh ?_ | refine' DL_q rfl rfl ?zh ?_); case zh => intro F'; exact Q_conv32 rfl iI iI iI) | ((refine' DL_q rfl rfl ?zh ?_); case zh => intro F'; exact Q_bin rfl rfl iI) | (refine s0Z ?_; intro g) | (refine DL_h (H_callX iI rfl a1 iI) rfl rfl rfl ?_; intro x1; clear a1) | (refine DL_h (H_callX iI rfl a2 iI) rfl rfl rfl ?_; intro x2; clear a2) | (refine DL_h (H_callX iI rfl a4 iI) rfl rfl rfl ?_; intro x4) | (refine DL_h (H_callX iI rfl a5 iI) rfl rfl rfl ?_; intro x5))
          exact ret_none (.inl rfl) rfl ⟨(), rfl, by rw [es4]; exact finE⟩
        | false =>
          have hcc : destSeq ≤ x.seq := by simpa using hc
          repeat' (first | (show WS _ _ _ (.region 11 _ true) _ _; refine WS_drawA (.range 7) (by decide +kernel) rfl ?_) | (show WS _ _ _ (.region 15 _ true) _ _; first | refine WS_drawR2 0 5 (.range 17) (by decide +kernel) rfl rfl rfl iI iI ?_ | refine WS_drawK (.range 17) 10 [3, 5, 9] (by decide +kernel) rfl ?_) | (show WS _ _ _ (.region 17 _ true) _ _; first | refine WS_drawR2 0 5 (.range 17) (by decide +kernel) rfl rfl rfl iI iI ?_ | refine WS_drawK (.range 17) 10 [3, 5, 9] (by decide +kernel) rfl ?_) | (show WS _ _ _ (.region 20 _ true) _ _; refine WS_drawK (.range 9) 8 [3, 5, 7] (by decide +kernel) rfl ?_) | (show WS _ _ _ (.region 21 _ true) _ _; refine WS_drawK (.range 19) 18 [2, 4, 6, 8, 10, 14, 16] (by decide +kernel) rfl ?_) | (refine WS_seqK ?_; intro K hK) | (refine hK _ ?_; clear hK K) | refine stZ ?_ | (refine s2Z ?_ ?_ <;> intro hc <;> (try simp only [cS] at hc) <;> (try (exfalso; first | contradiction | omega))) | (refine DL_alloc iI rfl ?_; intro g) | refine sbZ ?_ | refine sqZ ?_ | ((first | refine' LQ ?zh rfl ?_ | refine' DL_qp rfl rfl rfl ?zh ?_ | refine' DL_q rfl rfl ?zh ?_); case zh => intro F'; exact Q_conv32 rfl iI iI iI) | ((refine' DL_q rfl rfl ?zh ?_); case zh => intro F'; exact Q_bin rfl rfl iI) | (refine s0Z ?_; intro g) | (refine DL_h (H_callX iI rfl a1 iI) rfl rfl rfl ?_; intro x1; clear a1) | (refine DL_h (H_callX iI rfl a2 iI) rfl rfl rfl ?_; intro x2; clear a2) | (refine DL_h (H_callX iI rfl a4 iI) rfl rfl rfl ?_; intro x4) | (refine DL_h (H_callX iI rfl a5 iI) rfl rfl rfl ?_; intro x5))
          exact ret_none (.inl rfl) rfl ⟨(), rfl, by rw [es4]; exact finE⟩
      | some y =>
        simp only [hy] at hls3
        have a3 := before_spec w0 h1.tb s2.self s2.ls dest y.next
        rw [← hls3] at a3
        simp only [nodP, nodPm, nodC, outH, restP, Pk.val, Pk.cells] at a5 ⊢
        simp only [hx, hy, findV, findH, routeC] at a1 a2
        cases unknown with
        | true =>
          repeat' (first | (show WS _ _ _ (.region 11 _ true) _ _; refine WS_drawA (.range 7) (by decide +kernel) rfl ?_) | (show WS _ _ _ (.region 15 _ true) _ _; first | refine WS_drawR2 0 5 (.range 17) (by decide +kernel) rfl rfl rfl iI iI ?_ | refine WS_drawK (.range 17) 10 [3, 5, 9] (by decide +kernel) rfl ?_) | (show WS _ _ _ (.region 17 _ true) _ _; first | refine WS_drawR2 0 5 (.range 17) (by decide +kernel) rfl rfl rfl iI iI ?_ | refine WS_drawK (.range 17) 10 [3, 5, 9] (by decide +kernel) rfl ?_) | (show WS _ _ _ (.region 19 _ true) _ _; refine WS_drawK (.range 9) 8 [3, 5, 7] (by decide +kernel) rfl ?_) | (show WS _ _ _ (.region 20 _ true) _ _; refine WS_drawK (.range 9) 8 [3, 5, 7] (by decide +kernel) rfl ?_) | (show WS _ _ _ (.region 21 _ true) _ _; refine WS_drawK (.range 19) 18 [2, 4, 6, 8, 10, 14, 16] (by decide +kernel) rfl ?_) | (refine WS_seqK ?_; intro K hK) | (refine hK _ ?_; clear hK K) | refine stZ ?_ | (refine s2Z ?_ ?_ <;> intro hc <;> (try simp only [cS] at hc) <;> (try (exfalso; first | contradiction | omega))) | (refine DL_alloc iI rfl ?_; intro g) | refine sbZ ?_ | refine sqZ ?_ | ((first | refine' LQ ?zh rfl ?_ | refine' DL_qp rfl rfl rfl ?zh ?_ | refine' DL_q rfl rfl ?zh ?_); case zh => intro F'; exact Q_conv32 rfl iI iI iI) | ((refine' DL_q rfl rfl ?zh ?_); case zh => intro F'; exact Q_bin rfl rfl iI) | (refine s0Z ?_; intro g) | (refine DL_h (H_callX iI rfl a1 iI) rfl rfl rfl ?_; intro x1; clear a1) | (refine DL_h (H_callX iI rfl a2 iI) rfl rfl rfl ?_; intro x2; clear a2) | (refine DL_h (H_callX iI rfl a3 iI) rfl rfl rfl ?_; intro x3) | (refine DL_h (H_callX iI rfl a4 iI) rfl rfl rfl ?_; intro x4) | (refine DL_h (H_callX iI rfl a5 iI) rfl rfl rfl ?_; intro x5))
          exact ret_none (.inl rfl) rfl ⟨(), rfl, by rw [es4]; exact finE⟩
        | false =>
          have hcc : destSeq ≤ x.seq := by simpa using hc
          repeat' (first | (show WS _ _ _ (.region 11 _ true) _ _; refine WS_drawA (.range 7) (by decide +kernel) rfl ?_) | (show WS _ _ _ (.region 15 _ true) _ _; first | refine WS_drawR2 0 5 (.range 17) (by decide +kernel) rfl rfl rfl iI iI ?_ | refine WS_drawK (.range 17) 10 [3, 5, 9] (by decide +kernel) rfl ?_) | (show WS _ _ _ (.region 17 _ true) _ _; first | refine WS_drawR2 0 5 (.range 17) (by decide +kernel) rfl rfl rfl iI iI ?_ | refine WS_drawK (.range 17) 10 [3, 5, 9] (by decide +kernel) rfl ?_) | (show WS _ _ _ (.region 19 _ true) _ _; refine WS_drawK (.range 9) 8 [3, 5, 7] (by decide +kernel) rfl ?_) | (show WS _ _ _ (.region 20 _ true) _ _; refine WS_drawK (.range 9) 8 [3, 5, 7] (by decide +kernel) rfl ?_) | (show WS _ _ _ (.region 21 _ true) _ _; refine WS_drawK (.range 19) 18 [2, 4, 6, 8, 10, 14, 16] (by decide +kernel) rfl ?_) | (refine WS_seqK ?_; intro K hK) | (refine hK _ ?_; clear hK K) | refine stZ ?_ | (refine s2Z ?_ ?_ <;> intro hc <;> (try simp only [cS] at hc) <;> (try (exfalso; first | contradiction | omega))) | (refine DL_alloc iI rfl ?_; intro g) | refine sbZ ?_ | refine sqZ ?_ | ((first | refine' LQ ?zh rfl ?_ | refine' DL_qp rfl rfl rfl ?zh ?_ | refine' DL_q rfl rfl ?zh ?_); case zh => intro F'; exact Q_conv32 rfl iI iI iI) | ((refine' DL_q rfl rfl ?zh ?_); case zh => intro F'; exact Q_bin rfl rfl iI) | (refine s0Z ?_; intro g) | (refine DL_h (H_callX iI rfl a1 iI) rfl rfl rfl ?_; intro x1; clear a1) | (refine DL_h (H_callX iI rfl a2 iI) rfl rfl rfl ?_; intro x2; clear a2) | (refine DL_h (H_callX iI rfl a3 iI) rfl rfl rfl ?_; intro x3) | (refine DL_h (H_callX iI rfl a4 iI) rfl rfl rfl ?_; intro x4) | (refine DL_h (H_callX iI rfl a5 iI) rfl rfl rfl ?_; intro x5))
          exact ret_none (.inl rfl) rfl ⟨(), rfl, by rw [es4]; exact finE⟩
    have es2 : s2.req2 ⟨ttl, kind, hops, unknown, id, dest, destSeq, from_, fromSeq, life, lost, payload⟩ = s2.req3 ⟨ttl, kind, hops, unknown, id, dest, destSeq, from_, fromSeq, life, lost, payload⟩ := by
      unfold Nd.req2
      simp only
      rw [if_neg hd]
      cases hx : lookT s2.ls dest s2.now with
      | none => rfl
      | some x => simp only; rw [if_neg (fun hc => hA ⟨x, hx, hc⟩)]
    have a1 := find_spec w0 h1.tb s2.self s2.ls ok2' dest s2.now
    by_cases ht : ttl = 1
    · have es3 := es2.trans (show s2.req3 ⟨ttl, kind, hops, unknown, id, dest, destSeq, from_, fromSeq, life, lost, payload⟩ = s2.drop 4 by unfold Nd.req3; simp only; rw [if_pos ht])
      have a6 := q1 h1 4 hf2
      simp only [nodP, nodPm, nodC, outH, restP] at a6 ⊢
      cases hx : lookT s2.ls dest s2.now with
      | none =>
        simp only [hx, findV, findH, routeC] at a1
        repeat' (first | (show WS _ _ _ (.region 11 _ true) _ _; refine WS_drawA (.range 7) (by decide +kernel) rfl ?_) | (show WS _ _ _ (.region 15 _ true) _ _; first | refine WS_drawR2 0 5 (.range 17) (by decide +kernel) rfl rfl rfl iI iI ?_ | refine WS_drawK (.range 17) 10 [3, 5, 9] (by decide +kernel) rfl ?_) | (refine WS_seqK ?_; intro K hK) | (refine hK _ ?_; clear hK K) | refine stZ ?_ | (refine s2Z ?_ ?_ <;> intro hc <;> (try simp only [cS] at hc) <;> (try (exfalso; first | contradiction | omega))) | (refine DL_alloc iI rfl ?_; intro g) | refine sbZ ?_ | refine sqZ ?_ | (refine s0Z ?_; intro g) | (refine DL_h (H_callX iI rfl a1 iI) rfl rfl rfl ?_; intro x1; clear a1) | (refine LS_h (H_callX iI rfl a6 iI) rfl ?_; intro x5))
        exact ret_none (.inl rfl) rfl ⟨(), rfl, by rw [es3]; exact finE⟩
      | some x =>
        obtain rfl : unknown = false := by cases unknown; rfl; exact absurd ⟨x, hx, .inl rfl⟩ hA
        have hcc : ¬ destSeq ≤ x.seq := fun e => hA ⟨x, hx, .inr e⟩
        simp only [hx, findV, findH, routeC] at a1
        repeat' (first | (show WS _ _ _ (.region 11 _ true) _ _; refine WS_drawA (.range 7) (by decide +kernel) rfl ?_) | (show WS _ _ _ (.region 15 _ true) _ _; first | refine WS_drawR2 0 5 (.range 17) (by decide +kernel) rfl rfl rfl iI iI ?_ | refine WS_drawK (.range 17) 10 [3, 5, 9] (by decide +kernel) rfl ?_) | (refine WS_seqK ?_; intro K hK) | (refine hK _ ?_; clear hK K) | refine stZ ?_ | (refine s2Z ?_ ?_ <;> intro hc <;> (try simp only [cS] at hc) <;> (try (exfalso; first | contradiction | omega))) | (refine DL_alloc iI rfl ?_; intro g) | refine sbZ ?_ | refine sqZ ?_ | (refine s0Z ?_; intro g) | (refine DL_h (H_callX iI rfl a1 iI) rfl rfl rfl ?_; intro x1; clear a1) | (refine LS_h (H_callX iI rfl a6 iI) rfl ?_; intro x5))
        exact ret_none (.inl rfl) rfl ⟨(), rfl, by rw [es3]; exact finE⟩
    cases hg : lget s2.ls dest with
    | none =>
      have es3 := es2.trans (show s2.req3 ⟨ttl, kind, hops, unknown, id, dest, destSeq, from_, fromSeq, life, lost, payload⟩ = s2.send 0 ⟨ttl - 1, kind, min (hops + 1) 255, unknown, id, dest, destSeq, from_, fromSeq, life, lost, payload⟩ by unfold Nd.req3; simp only; rw [if_neg ht, hg]; rfl)
      have a5 := number_spec w0 h1.tb s2.self s2.ls dest
      have a6 := send_A w0 gn s2 h1 0 ⟨ttl - 1, kind, min (hops + 1) 255, unknown, id, dest, destSeq, from_, fromSeq, life, lost, payload⟩ ⟨by simp only [i64R] at *; omega, by simpa only [i64R] using hp2, by simp only [i64R] at *; omega, by simp only; omega, by simp only; omega⟩ (.slice A lost.length c) rfl (rows 180 2 lostC (.slice A lost.length c) lost) (rdr_bare _ _ _ _ _) hf2
      simp only [hg, numT, Option.isSome_none] at a5
      simp only [nodP, nodPm, nodC, outH, restP, Pk.val, Pk.cells] at a6 ⊢
      cases hx : lookT s2.ls dest s2.now with
      | none =>
        simp only [hx, findV, findH, routeC] at a1
        repeat' (first | (show WS _ _ _ (.region 11 _ true) _ _; refine WS_drawA (.range 7) (by decide +kernel) rfl ?_) | (show WS _ _ _ (.region 15 _ true) _ _; first | refine WS_drawR2 0 5 (.range 17) (by decide +kernel) rfl rfl rfl iI iI ?_ | refine WS_drawK (.range 17) 10 [3, 5, 9] (by decide +kernel) rfl ?_) | (show WS _ _ _ (.region 26 _ true) _ _; refine WS_drawK (.range 12) 6 [3, 5] (by decide +kernel) rfl ?_) | (refine WS_seqK ?_; intro K hK) | (refine hK _ ?_; clear hK K) | refine stZ ?_ | (refine s2Z ?_ ?_ <;> intro hc <;> (try simp only [cS] at hc) <;> (try (exfalso; first | contradiction | omega))) | (refine DL_alloc iI rfl ?_; intro g) | refine sbZ ?_ | refine sqZ ?_ | (refine s0Z ?_; intro g) | (refine DL_h (H_callX iI rfl a1 iI) rfl rfl rfl ?_; intro x1; clear a1) | (refine DL_h (H_callX iI rfl a5 iI) rfl rfl rfl ?_; intro x4) | (refine LS_h (H_callX iI rfl a6 iI) rfl ?_; intro x5))
        exact ret_none (.inr rfl) rfl ⟨(), rfl, by rw [es3]; exact finE⟩
      | some x =>
        obtain rfl : unknown = false := by cases unknown; rfl; exact absurd ⟨x, hx, .inl rfl⟩ hA
        have hcc : ¬ destSeq ≤ x.seq := fun e => hA ⟨x, hx, .inr e⟩
        simp only [hx, findV, findH, routeC] at a1
        repeat' (first | (show WS _ _ _ (.region 11 _ true) _ _; refine WS_drawA (.range 7) (by decide +kernel) rfl ?_) | (show WS _ _ _ (.region 15 _ true) _ _; first | refine WS_drawR2 0 5 (.range 17) (by decide +kernel) rfl rfl rfl iI iI ?_ | refine WS_drawK (.range 17) 10 [3, 5, 9] (by decide +kernel) rfl ?_) | (show WS _ _ _ (.region 26 _ true) _ _; refine WS_drawK (.range 12) 6 [3, 5] (by decide +kernel) rfl ?_) | (refine WS_seqK ?_; intro K hK) | (refine hK _ ?_; clear hK K) | refine stZ ?_ | (refine s2Z ?_ ?_ <;> intro hc <;> (try simp only [cS] at hc) <;> (try (exfalso; first | contradiction | omega))) | (refine DL_alloc iI rfl ?_; intro g) | refine sbZ ?_ | refine sqZ ?_ | (refine s0Z ?_; intro g) | (refine DL_h (H_callX iI rfl a1 iI) rfl rfl rfl ?_; intro x1; clear a1) | (refine DL_h (H_callX iI rfl a5 iI) rfl rfl rfl ?_; intro x4) | (refine LS_h (H_callX iI rfl a6 iI) rfl ?_; intro x5))
        exact ret_none (.inr rfl) rfl ⟨(), rfl, by rw [es3]; exact finE⟩
    | some l =>
      have es3 := es2.trans (show s2.req3 ⟨ttl, kind, hops, unknown, id, dest, destSeq, from_, fromSeq, life, lost, payload⟩ = s2.send 0 ⟨ttl - 1, kind, min (hops + 1) 255, false, id, dest, max destSeq l.seq, from_, fromSeq, life, lost, payload⟩ by unfold Nd.req3; simp only; rw [if_neg ht, hg]; rfl)
      have a5 := number_spec w0 h1.tb s2.self s2.ls dest
      have a6 := send_A w0 gn s2 h1 0 ⟨ttl - 1, kind, min (hops + 1) 255, false, id, dest, max destSeq l.seq, from_, fromSeq, life, lost, payload⟩ ⟨by simp only [i64R] at *; omega, by simpa only [i64R] using hp2, by simp only [i64R] at *; omega, by simp only; omega, by simp only; omega⟩ (.slice A lost.length c) rfl (rows 180 2 lostC (.slice A lost.length c) lost) (rdr_bare _ _ _ _ _) hf2
      simp only [hg, numT, Option.isSome_some] at a5
      simp only [nodP, nodPm, nodC, outH, restP, Pk.val, Pk.cells] at a6 ⊢
      cases hx : lookT s2.ls dest s2.now with
      | none =>
        simp only [hx, findV, findH, routeC] at a1
        repeat' (first | (show WS _ _ _ (.region 11 _ true) _ _; refine WS_drawA (.range 7) (by decide +kernel) rfl ?_) | (show WS _ _ _ (.region 15 _ true) _ _; first | refine WS_drawR2 0 5 (.range 17) (by decide +kernel) rfl rfl rfl iI iI ?_ | refine WS_drawK (.range 17) 10 [3, 5, 9] (by decide +kernel) rfl ?_) | (show WS _ _ _ (.region 26 _ true) _ _; refine WS_drawK (.range 12) 6 [3, 5] (by decide +kernel) rfl ?_) | (refine WS_seqK ?_; intro K hK) | (refine hK _ ?_; clear hK K) | refine stZ ?_ | (refine s2Z ?_ ?_ <;> intro hc <;> (try simp only [cS] at hc) <;> (try (exfalso; first | contradiction | omega))) | (refine DL_alloc iI rfl ?_; intro g) | refine sbZ ?_ | refine sqZ ?_ | (refine s0Z ?_; intro g) | (refine DL_h (H_callX iI rfl a1 iI) rfl rfl rfl ?_; intro x1; clear a1) | (refine DL_h (H_callX iI rfl a5 iI) rfl rfl rfl ?_; intro x4) | (refine LS_h (H_callX iI rfl a6 iI) rfl ?_; intro x5))
        exact ret_none (.inr rfl) rfl ⟨(), rfl, by rw [es3]; exact finE⟩
      | some x =>
        obtain rfl : unknown = false := by cases unknown; rfl; exact absurd ⟨x, hx, .inl rfl⟩ hA
        have hcc : ¬ destSeq ≤ x.seq := fun e => hA ⟨x, hx, .inr e⟩
        simp only [hx, findV, findH, routeC] at a1
        repeat' (first | (show WS _ _ _ (.region 11 _ true) _ _; refine WS_drawA (.range 7) (by decide +kernel) rfl ?_) | (show WS _ _ _ (.region 15 _ true) _ _; first | refine WS_drawR2 0 5 (.range 17) (by decide +kernel) rfl rfl rfl iI iI ?_ | refine WS_drawK (.range 17) 10 [3, 5, 9] (by decide +kernel) rfl ?_) | (show WS _ _ _ (.region 26 _ true) _ _; refine WS_drawK (.range 12) 6 [3, 5] (by decide +kernel) rfl ?_) | (refine WS_seqK ?_; intro K hK) | (refine hK _ ?_; clear hK K) | refine stZ ?_ | (refine s2Z ?_ ?_ <;> intro hc <;> (try simp only [cS] at hc) <;> (try (exfalso; first | contradiction | omega))) | (refine DL_alloc iI rfl ?_; intro g) | refine sbZ ?_ | refine sqZ ?_ | (refine s0Z ?_; intro g) | (refine DL_h (H_callX iI rfl a1 iI) rfl rfl rfl ?_; intro x1; clear a1) | (refine DL_h (H_callX iI rfl a5 iI) rfl rfl rfl ?_; intro x4) | (refine LS_h (H_callX iI rfl a6 iI) rfl ?_; intro x5))
        exact ret_none (.inr rfl) rfl ⟨(), rfl, by rw [es3]; exact finE⟩
end

section
open Go.RowKit
def fnV (f : FuncId) : Value := .func (.func f) #[] #[]
instance asKey_fn (f : FuncId) : AsKey fnV (.func (.func f) #[] #[]) f := ⟨rfl⟩
section
variable {P : Program} {n : Frm} {w0 : World} {E : Env} {D : List Deferred} {H F F1 F2 : HProp} {Q : Exit → St → Prop} {l l' : List Oper}
theorem H_insert {κ ν : Type} [DecidableEq κ] {fk : κ → Value} {fv : ν → Value} {r : Nat} {m : List (κ × ν)} {ty : TypeId} {pos : String} {after : Array Edge} {gu : Option (Tmp × Bool)} {x y z' : Operand} {t kt et : TypeId} {k : κ} {v : Value} {u : ν} {uv : Value} (hx : E.ev x = some (.map (some r))) (hy : E.ev y = some v) (hz : E.ev z' = some uv) (hl : MapOf H r κ ν fk fv m F) (hkk : AsKey fk v k) (hvv : AsKey fv uv u) (hm : MapT P t kt et) (hk : KeyT P kt fk) :
  OpH P n w0 ⟨none, .insert t x y z', ty, pos, after, gu⟩ E H (fun _ : Unit => undef) (fun _ => mp fk fv r (mset m k u) * F) := by
 obtain rfl := hkk.eq
 obtain rfl := hvv.eq
 refine OpH.mk' (pre := mp fk fv r m) (post := fun _ => mp fk fv r (mset m k u)) (fun G a w K Q s hs hK => ?_) hl.eq
 obtain ⟨w', hr, hs'⟩ := run_mapUpdate (k := k) (u := u) w hm.eq hs
 have := hK () w' hs'
 simp only [Act.put] at this
 simp only [Oper.wp, execOp, s.ev hx, s.ev hy, s.ev hz, Sem.run_bind, hr, Result.andThen_ok, Sem.run_pure, Oper.upon_skip]
 exact this
theorem DL_qs {ops : Array Oper} {R : HProp} {B : Nat → Bool} {cp k : Nat} {o : Oper} {ls : List Oper} {v : Value} (he : effB o.op = false) (hd : okDst n o.dst = true) (hB : B (k + 1000) = true) (hg : o.guard = none) (hop : OpQ P n w0 o E (R * F) v) (h : DL P n w0 ops Q D R emp B cp (k + 1) false ls (E.putO o.dst v) F) : DL P n w0 ops Q D R emp B cp k false (o :: ls) E F :=
 .qs he hd hB ⟨true, by unfold guardV; rw [hg]⟩ (by show OpQ P n w0 o E (R * (emp * F)) v; rw [emp_star]; exact hop) h
theorem WS_drawRB3 {id : Nat} (t t2 t3 : Nat) (idx bs : List Nat) {g off g2 off2 g3 off3 : Nat} {bt bt2 bt3 : TypeId} {cs cs2 cs3 : List Value} (hs : statD P l idx (inB bs) 1000 = true) (hl : permL l idx = some l') (hx : E.get t = some (ptr g off)) (hx2 : E.get t2 = some (ptr g2 off2)) (hx3 : E.get t3 = some (ptr g3 off3)) (hR : LimbB H g bt cs F1) (hR2 : LimbB F1 g2 bt2 cs2 F2) (hR3 : LimbB F2 g3 bt3 cs3 F) (h : DL P n w0 l.toArray Q D (cel g bt cs * (cel g2 bt2 cs2 * cel g3 bt3 cs3)) emp (inB bs) 1000 0 false l' E F) : WS P n w0 (.region id l.toArray true) Q ⟨E, D, H⟩ :=
 WS_draw idx l' (cel g bt cs * (cel g2 bt2 cs2 * cel g3 bt3 cs3)) emp F _ 1000 hs (by rw [emp_star, hR.eq, hR2.eq, hR3.eq, star_assoc, star_assoc]) (permL_eq hl) h
end
def handM : List (Int × FuncId) := [(1, 118), (2, 119), (3, 120), (9, 121)]
attribute [local irreducible] WS LS OpQ OpT OpH OpTQ Spec SpecQ cel
variable (w0 : World)
set_option maxRecDepth 100000 in
theorem handlers_spec : Spec Tryz.prog w0 69 [] emp (fun r : Nat => .map (some r)) (fun r => mp i64 fnV r handM) := by
  refine Spec.enter Tryz.func69 rfl Tryz.ntmps69 rfl fun G => ?_
  simp only [argE]
  repeat' (first | (refine WS_seqK ?_; intro K hK) | (refine hK _ ?_; clear hK K) | refine stZ ?_ | refine sqZ ?_ | (refine LS_h (H_makeMap i64 fnV) rfl ?_; intro r) | (refine LS_h0 (H_insert rfl rfl rfl iI iI iI iI iI) ?_; intro g))
  exact ret_tmp (.inl rfl) rfl rfl ⟨r, rfl, finE⟩
theorem Nd.rcv_deaf {s : Nd} {now : UInt64} {src : UInt32} {f : Str} (h : s.Deaf now src f) : s.rcv now src f = s.rcvQ now src f := by
 unfold Nd.rcv
 rcases h with h | h | h
 ·rw [h]
 ·cases Pk.dec f with
  | none => rfl
  | some p =>
   simp only
   rw [if_pos]
   rcases h with h | h
   ·exact .inl h
   ·exact .inr (.inl h)
 ·cases Pk.dec f with
  | none => rfl
  | some p => simp only; rw [if_pos (.inr (.inr h))]
set_option maxRecDepth 100000 in
theorem rcvC_spec (gn : Nat) (s : Nd) (now : UInt64) (src : UInt32) (f : Str) (hi : s.Inv) (hf : f.length ≤ 100000) (hfit : s.Fit 8) (hfr : s.out.frames.length ≤ 10000) (hdr : s.out.dropped.length ≤ 10000) (bf br bn bw : Nat) (tf tr tn tw : TypeId) (v : Value) (X : HProp) [hX : Rdr w0 X v UInt8 1 byteC f] :
    Spec Tryz.prog w0 65 [ptr bf 0, ptr br 0, ptr bn 0, ptr bw 0] (nodA gn s * (cel bf tf [v] * (cel br tr [u32 src] * (cel bn tn [ptr gn 0] * (cel bw tw [u64 now] * X))))) (fun _ : Unit => .tuple #[]) (fun _ => nodA gn (s.rcv now src f) * X) := by
  by_cases hq : s.Deaf now src f
  · rw [Nd.rcv_deaf hq]
    exact rcvQ_spec w0 gn s now src f hq hf hfr hdr bf br bn bw tf tr tn tw v X
  obtain ⟨p, hp⟩ : ∃ p, Pk.dec f = some p := by
    cases h : Pk.dec f with
    | none => exact absurd (.inl h) hq
    | some p => exact ⟨p, rfl⟩
  have h1 : ¬ src = 0 := fun e => hq (.inr (.inl (.inl e)))
  have h2 : ¬ src = s.self := fun e => hq (.inr (.inl (.inr e)))
  have h3 : ¬ now < s.silent := fun e => hq (.inr (.inr e))
  have es : s.rcv now src f = s.handle src p := by
    unfold Nd.rcv
    rw [hp]
    simp only
    rw [if_neg]
    rintro (e | e | e)
    · exact h1 e
    · exact h2 e
    · exact h3 e
  have hpr := Pk.dec_read hp
  have hk : p.kind = 1 ∨ p.kind = 2 ∨ p.kind = 3 ∨ p.kind = 9 := by
    obtain ⟨⟨_, hk⟩, _⟩ := Pk.dec_some hp
    rcases hk with hk | hk | hk | hk
    · exact .inl hk.1
    · exact .inr (.inl hk.1)
    · exact .inr (.inr (.inl hk.1))
    · exact .inr (.inr (.inr hk.1))
  have hkind : s.handle src p = if p.kind = 1 then s.req src p else if p.kind = 2 then s.rep src p else if p.kind = 3 then s.los src p else s.dat src p := rfl
  have htx := texts_le hi p.dest
  refine Spec.enter Tryz.func65 rfl Tryz.ntmps65 rfl fun G => ?_
  rw [star_assoc (nodA gn s)]
  refine WS_nod fun h => ?_
  have p1 := wdecode_spec w0 f hf v X
  have q1 := fun vl => request_spec w0 gn s h src p hpr vl hi.tab.tab hi.order (hfit.le (by omega))
  have q2 := fun vl => reply_spec w0 gn s h src p hpr vl hi.tab.tab hi.sr (by omega) (fun t ht => by have := htx.2 t ht; omega) (hfit.le (by omega))
  have q3 := fun vl => lose_spec' w0 gn s h src p hpr vl (hfit.le (by omega))
  have q4 := fun vl => data_spec w0 gn s h src p hpr vl hi.tab.tab (hfit.le (by omega))
  unfold decV decH at p1
  simp only [hp, Option.getD_some, Option.isSome_some] at p1
  rw [es, hkind]
  clear es hkind hq hp hpr htx
  obtain ⟨ttl, kind, hops, unknown, id, dest, destSeq, from2, fromSeq, life, lost, payload⟩ := p
  simp only [Pk.val, Pk.cells] at p1 q1 q2 q3 q4 hk ⊢
  have p2 := handlers_spec w0
  simp only [nodP, nodPm, nodC] at q1 q2 q3 q4 ⊢
  simp only [argE]
  rcases hk with rfl | rfl | rfl | rfl
  · rw [if_pos rfl]
    clear q2 q3 q4
    repeat' (first | (show WS _ _ _ (.region 2 _ true) _ _; refine WS_drawA (.range 15) (by decide +kernel) rfl ?_) | (show WS _ _ _ (.region 4 _ true) _ _; refine WS_drawA (.range 7) (by decide +kernel) rfl ?_) | (refine WS_seqK ?_; intro K hK) | (refine hK _ ?_; clear hK K) | refine stZ ?_ | (refine s2Z ?_ ?_ <;> intro hc <;> (try simp only [cS] at hc) <;> (try (exfalso; first | contradiction | omega))) | refine sbZ ?_ | refine sqZ ?_ | (refine shZ ?_; intro g) | (refine s0Z ?_; intro g) | (refine LS_h (H_callX iI rfl p1 iI) rfl ?_; intro vl) | (show WS _ _ _ (.region 1 _ true) _ _; refine WS_drawRB3 4 2 1 [1, 2, 4, 5, 6, 0, 3, 7] [1006] (by decide +kernel) rfl rfl rfl rfl iI iI iI ?_) | (refine DL_h (H_callX iI rfl p2 ⟨emp_star.symm⟩) rfl rfl rfl ?_; intro r) | (refine' DL_qs rfl rfl rfl rfl ?zh ?_; (case zh => exact Q_lookupE rfl rfl iI iI iI iI iI rfl)) | (refine DL_h (H_callB iI rfl rfl (q1 _) iI) rfl rfl rfl ?_; intro u5))
    exact ret_none (.inr rfl) rfl ⟨(), rfl, by rw [star_assoc (nodA _ _)]; exact finE⟩
  · rw [if_neg (by decide), if_pos rfl]
    clear q1 q3 q4
    repeat' (first | (show WS _ _ _ (.region 2 _ true) _ _; refine WS_drawA (.range 15) (by decide +kernel) rfl ?_) | (show WS _ _ _ (.region 4 _ true) _ _; refine WS_drawA (.range 7) (by decide +kernel) rfl ?_) | (refine WS_seqK ?_; intro K hK) | (refine hK _ ?_; clear hK K) | refine stZ ?_ | (refine s2Z ?_ ?_ <;> intro hc <;> (try simp only [cS] at hc) <;> (try (exfalso; first | contradiction | omega))) | refine sbZ ?_ | refine sqZ ?_ | (refine shZ ?_; intro g) | (refine s0Z ?_; intro g) | (refine LS_h (H_callX iI rfl p1 iI) rfl ?_; intro vl) | (show WS _ _ _ (.region 1 _ true) _ _; refine WS_drawRB3 4 2 1 [1, 2, 4, 5, 6, 0, 3, 7] [1006] (by decide +kernel) rfl rfl rfl rfl iI iI iI ?_) | (refine DL_h (H_callX iI rfl p2 ⟨emp_star.symm⟩) rfl rfl rfl ?_; intro r) | (refine' DL_qs rfl rfl rfl rfl ?zh ?_; (case zh => exact Q_lookupE rfl rfl iI iI iI iI iI rfl)) | (refine DL_h (H_callB iI rfl rfl (q2 _) iI) rfl rfl rfl ?_; intro u5))
    exact ret_none (.inr rfl) rfl ⟨(), rfl, by rw [star_assoc (nodA _ _)]; exact finE⟩
  · rw [if_neg (by decide), if_neg (by decide), if_pos rfl]
    clear q1 q2 q4
    repeat' (first | (show WS _ _ _ (.region 2 _ true) _ _; refine WS_drawA (.range 15) (by decide +kernel) rfl ?_) | (show WS _ _ _ (.region 4 _ true) _ _; refine WS_drawA (.range 7) (by decide +kernel) rfl ?_) | (refine WS_seqK ?_; intro K hK) | (refine hK _ ?_; clear hK K) | refine stZ ?_ | (refine s2Z ?_ ?_ <;> intro hc <;> (try simp only [cS] at hc) <;> (try (exfalso; first | contradiction | omega))) | refine sbZ ?_ | refine sqZ ?_ | (refine shZ ?_; intro g) | (refine s0Z ?_; intro g) | (refine LS_h (H_callX iI rfl p1 iI) rfl ?_; intro vl) | (show WS _ _ _ (.region 1 _ true) _ _; refine WS_drawRB3 4 2 1 [1, 2, 4, 5, 6, 0, 3, 7] [1006] (by decide +kernel) rfl rfl rfl rfl iI iI iI ?_) | (refine DL_h (H_callX iI rfl p2 ⟨emp_star.symm⟩) rfl rfl rfl ?_; intro r) | (refine' DL_qs rfl rfl rfl rfl ?zh ?_; (case zh => exact Q_lookupE rfl rfl iI iI iI iI iI rfl)) | (refine DL_h (H_callB iI rfl rfl (q3 _) iI) rfl rfl rfl ?_; intro u5))
    exact ret_none (.inr rfl) rfl ⟨(), rfl, by rw [star_assoc (nodA _ _)]; exact finE⟩
  · rw [if_neg (by decide), if_neg (by decide), if_neg (by decide)]
    clear q1 q2 q3
    repeat' (first | (show WS _ _ _ (.region 2 _ true) _ _; refine WS_drawA (.range 15) (by decide +kernel) rfl ?_) | (show WS _ _ _ (.region 4 _ true) _ _; refine WS_drawA (.range 7) (by decide +kernel) rfl ?_) | (refine WS_seqK ?_; intro K hK) | (refine hK _ ?_; clear hK K) | refine stZ ?_ | (refine s2Z ?_ ?_ <;> intro hc <;> (try simp only [cS] at hc) <;> (try (exfalso; first | contradiction | omega))) | refine sbZ ?_ | refine sqZ ?_ | (refine shZ ?_; intro g) | (refine s0Z ?_; intro g) | (refine LS_h (H_callX iI rfl p1 iI) rfl ?_; intro vl) | (show WS _ _ _ (.region 1 _ true) _ _; refine WS_drawRB3 4 2 1 [1, 2, 4, 5, 6, 0, 3, 7] [1006] (by decide +kernel) rfl rfl rfl rfl iI iI iI ?_) | (refine DL_h (H_callX iI rfl p2 ⟨emp_star.symm⟩) rfl rfl rfl ?_; intro r) | (refine' DL_qs rfl rfl rfl rfl ?zh ?_; (case zh => exact Q_lookupE rfl rfl iI iI iI iI iI rfl)) | (refine DL_h (H_callB iI rfl rfl (q4 _) iI) rfl rfl rfl ?_; intro u5))
    exact ret_none (.inr rfl) rfl ⟨(), rfl, by rw [star_assoc (nodA _ _)]; exact finE⟩
end

section
open Go.RowKit
theorem Nd.Step.rcvQ (s : Nd) (now : UInt64) (src : UInt32) (f : Str) : s.Step (s.rcvQ now src f) 2 0 := by
 unfold Nd.rcvQ
 split
 ·exact (Nd.Step.drop _ _).le (by omega) (by omega)
 ·rename_i p hp
  split
  ·exact (Nd.Step.drop _ _).le (by omega) (by omega)
  ·split
   ·have k := (Nd.Step.tell s src p.dest (numT s.ls p.dest)).trans (Nd.Step.zero (t := { s.tell src p.dest (numT s.ls p.dest) with silent := now + 2000 }) rfl rfl rfl rfl)
    exact (k.trans (Nd.Step.drop _ _)).le (by omega) (by omega)
   ·exact (Nd.Step.drop _ _).le (by omega) (by omega)
theorem Nd.Step.rcv {s : Nd} (h : s.Inv) (now : UInt64) (src : UInt32) (f : Str) : s.Step (s.rcv now src f) 6 0 := by
 unfold Nd.rcv
 split
 ·exact (Nd.Step.rcvQ _ _ _ _).le (by omega) (by omega)
 ·rename_i p hp
  have := (texts_le h p.dest).1
  split
  ·exact (Nd.Step.rcvQ _ _ _ _).le (by omega) (by omega)
  ·exact (Nd.Step.handle _ _ _).le (by omega) (by omega)
theorem Nd.Inv.rcv {s : Nd} (h : s.Inv) (now : UInt64) (src : UInt32) (f : Str) : (s.rcv now src f).Inv := by
 unfold Nd.rcv
 split
 ·exact h.rcvQ _ _ _
 ·rename_i p hp
  split
  ·exact h.rcvQ _ _ _
  ·exact h.handle _ _ (Pk.dec_read hp).hops
attribute [local irreducible] WS LS OpQ OpT OpH OpTQ Spec SpecQ cel
variable (w0 : World)
set_option maxRecDepth 100000 in
theorem nrcv_spec (gn : Nat) (s : Nd) (now : UInt64) (from_ : UInt32) (f : Str) {c : Nat} (hr : s.Rest c) (hf : f.length ≤ 100000) (v : Value) (X : HProp) [hX : Rdr w0 X v UInt8 1 byteC f] :
    Spec Tryz.prog w0 34 [ptr gn 0, u64 now, u32 from_, v] (nodI gn s * X) (fun x : Value × Value × Value => outA (s.rcvF now from_ f).out x) (fun x => nodI gn (s.rcvF now from_ f) * (outR (s.rcvF now from_ f).out x * X)) := by
  have ok := hr.inv.tab.tab
  have hb := hr.inv.begin now
  have hs := Nd.Step.rcv hb now from_ f
  have h1 := Nd.begin_recs s now ok
  have h2 := Nd.begin_jour s now ok
  have h3 := hs.recs
  have h4 := hs.journal
  have h5 := hr.recs
  have p1 := fun bf br bn bw => does_spec w0 gn s ((s.begin now).rcv now from_ f) now (by omega) ok (by omega) (by omega) (hb.rcv now from_ f).tab.tab 65 [ptr bf 0, ptr br 0, ptr bn 0, ptr bw 0] _ _ (rcvC_spec w0 gn (s.begin now) now from_ f hb hf ((Nd.begin_fit hr now).le (by omega)) (by rw [Nd.begin_frames]; simp) (by rw [Nd.begin_dropped]; simp) bf br bn bw 25 26 90 24 v X)
  unfold Nd.rcvF
  generalize ((s.begin now).rcv now from_ f).done = s2 at p1 ⊢
  simp only [outA, outR] at p1 ⊢
  refine Spec.enter Tryz.func34 rfl Tryz.ntmps34 rfl fun G => ?_
  simp only [argE]
  repeat' (first | (refine WS_seqK ?_; intro K hK) | (refine hK _ ?_; clear hK K) | refine stZ ?_ | refine sqZ ?_ | (refine shZ ?_; intro g) | (refine s0Z ?_; intro g) | (refine LS_h (H_callX iI rfl (p1 _ _ _ _) iI) rfl ?_; intro x))
  exact ret_1 (.inl rfl) rfl (RV_cell rfl iI iI rfl) ⟨x.1, rfl, finE⟩
end

section
def Nd.Puts (s t : Nd) : Prop := ∃ l : List (UInt32 × Pk), t.out.frames = s.out.frames ++ l.map fun x => (x.1, x.2.out)
theorem Nd.Puts.of {s t : Nd} (h : t.out.frames = s.out.frames) : s.Puts t := ⟨[], by simp [h]⟩
theorem Nd.Puts.trans {s t u : Nd} (h : s.Puts t) (k : t.Puts u) : s.Puts u := by
 obtain ⟨l, hl⟩ := h
 obtain ⟨m, hm⟩ := k
 exact ⟨l ++ m, by rw [hm, hl, List.map_append, List.append_assoc]⟩
theorem Nd.Puts.send (s : Nd) (to : UInt32) (p : Pk) : s.Puts (s.send to p) := ⟨[(to, p)], rfl⟩
theorem Nd.Puts.same {s t : Nd} (h : s.Same t) : s.Puts t := Nd.Puts.of h.frames
theorem Nd.Puts.hand (s : Nd) (d : UInt32) (t : Str) : s.Puts (s.hand d t) := by
 unfold Nd.hand
 split
 ·exact Nd.Puts.of rfl
 ·exact ⟨[(_, _)], rfl⟩
theorem Nd.Puts.handAll (s : Nd) (d : UInt32) (l : List Str) : s.Puts (s.handAll d l) := by
 induction l using snocInd with
 | nil => exact Nd.Puts.of rfl
 | snoc l t ih => rw [Nd.handAll_snoc]; exact ih.trans (Nd.Puts.hand _ _ _)
theorem Nd.Puts.flush (s : Nd) (d : UInt32) : s.Puts (s.flush d) := by
 have h := Nd.Puts.handAll s d (s.texts d)
 unfold Nd.flush
 simp only
 split
 ·exact h.trans (Nd.Puts.of rfl)
 ·exact h.trans (Nd.Puts.of rfl)
theorem Nd.Puts.remember (s : Nd) (r : Rq) : s.Puts (s.remember r) := Nd.Puts.of (by rw [(s.remember_eqs r).2.2.2.1])
theorem Nd.Puts.ask1 (s : Nd) (x : Sr) : s.Puts (s.ask1 x) := by
 have h0 : s.Puts { s with seq := growS s.seq } := Nd.Puts.of rfl
 have h1 := h0.trans (Nd.Puts.same (Nd.Same.note { s with seq := growS s.seq }))
 unfold Nd.ask1
 simp only
 generalize Nd.note { s with seq := growS s.seq } = t at *
 refine (h1.trans ?_).trans (Nd.Puts.remember _ _)
 exact ⟨[(_, _)], rfl⟩
theorem Nd.Puts.ask (s : Nd) (k : Nat) (x : Sr) : s.Puts (s.ask k x) := by
 unfold Nd.ask
 split
 ·exact Nd.Puts.of rfl
 ·split
  ·exact Nd.Puts.of rfl
  ·have h0 : s.Puts (s.setOut k true) := Nd.Puts.of rfl
   exact (h0.trans (Nd.Puts.ask1 _ x)).trans (Nd.Puts.of rfl)
theorem Nd.Puts.again (s : Nd) (k : Nat) (x : Sr) : s.Puts (s.again k x) := by
 unfold Nd.again
 split
 ·exact Nd.Puts.flush _ _
 ·split
  ·split
   ·rename_i y _
    have h0 : s.Puts { s with srs := s.srs.set k y } := Nd.Puts.of rfl
    exact h0.trans (Nd.Puts.ask _ k y)
   ·exact Nd.Puts.of rfl
  ·exact Nd.Puts.ask _ _ _
theorem Nd.Puts.step {s t : Nd} {now : UInt64} (h : s.step now = some t) : s.Puts t := by
 unfold Nd.step at h
 split at h
 ·cases h
 ·rename_i i _
  simp only at h
  have h0 : s.Puts { s with clk := s.clk.eraseIdx i } := Nd.Puts.of rfl
  split at h
  ·split at h
   ·cases h; exact h0.trans (Nd.Puts.again _ _ _)
   ·cases h; exact h0
  ·cases h; exact h0
theorem Nd.Puts.ticks (now : UInt64) : ∀ (f : Nat) (s : Nd), s.Puts (s.ticks f now)
 | 0, s => Nd.Puts.of rfl
 | f + 1, s => by
  unfold Nd.ticks
  cases h : s.step now with
  | none => exact Nd.Puts.of rfl
  | some t => exact (Nd.Puts.step h).trans (Nd.Puts.ticks now f t)
theorem Nd.Puts.answer (s : Nd) (p : Pk) : s.Puts (s.answer p) := by
 unfold Nd.answer
 split
 ·exact Nd.Puts.send _ _ _
 ·exact Nd.Puts.of rfl
theorem Nd.Puts.req3 (s : Nd) (p : Pk) : s.Puts (s.req3 p) := by
 unfold Nd.req3
 split
 ·exact Nd.Puts.of rfl
 ·split <;> exact Nd.Puts.send _ _ _
theorem Nd.Puts.req2 (s : Nd) (p : Pk) : s.Puts (s.req2 p) := by
 unfold Nd.req2
 split
 ·have h0 : s.Puts { s with seq := if p.unknown then s.seq else max s.seq p.destSeq } := Nd.Puts.of rfl
  exact h0.trans (Nd.Puts.answer _ _)
 ·split
  ·split
   ·rename_i x _ _
    have h0 : s.Puts { s with ls := befT (match lookT s.ls p.from_ s.now with | some b => befT s.ls p.dest b.next | none => s.ls) p.from_ x.next } := Nd.Puts.of rfl
    exact h0.trans (Nd.Puts.answer _ _)
   ·exact Nd.Puts.req3 _ _
  ·exact Nd.Puts.req3 _ _
theorem Nd.Puts.req (s : Nd) (src : UInt32) (p : Pk) : s.Puts (s.req src p) := by
 unfold Nd.req
 split
 ·exact Nd.Puts.of rfl
 ·simp only
  have h1 := Nd.Puts.remember s ⟨p.from_, p.id⟩
  generalize s.remember ⟨p.from_, p.id⟩ = s1 at *
  split
  ·exact h1.trans (Nd.Puts.of rfl)
  ·refine h1.trans (Nd.Puts.trans ?_ (Nd.Puts.req2 _ _))
   exact Nd.Puts.of rfl
theorem Nd.Puts.lost (s : Nd) (l : List (UInt32 × UInt32)) : s.Puts (s.lost l) := by
 unfold Nd.lost
 split
 ·exact Nd.Puts.send _ _ _
 ·exact Nd.Puts.of rfl
theorem Nd.Puts.los (s : Nd) (src : UInt32) (p : Pk) : s.Puts (s.los src p) := by
 have h0 : s.Puts { s with ls := (loseAll src s.ls p.lost).1 } := Nd.Puts.of rfl
 have h := h0.trans (Nd.Puts.lost _ (loseAll src s.ls p.lost).2.1)
 unfold Nd.los
 simp only
 split
 ·exact h
 ·exact h.trans (Nd.Puts.of rfl)
theorem Nd.Puts.dat (s : Nd) (src : UInt32) (p : Pk) : s.Puts (s.dat src p) := by
  unfold Nd.dat
  repeat' split
  all_goals first | exact Nd.Puts.of rfl | exact ⟨[(_, _)], rfl⟩
theorem Nd.Puts.brk (s : Nd) (nb : UInt32) : s.Puts (s.brk nb) := by
 have h0 : s.Puts { s with ls := brkT nb s.ls } := Nd.Puts.of rfl
 exact h0.trans (Nd.Puts.lost _ _)
theorem Nd.Puts.rep (s : Nd) (src : UInt32) (p : Pk) : s.Puts (s.rep src p) := by
 unfold Nd.rep
 split
 ·exact Nd.Puts.of rfl
 ·simp only
  split
  ·exact Nd.Puts.of rfl
  ·split
   ·have h2 : ∀ l : List Ln, s.Puts (if (lookT l p.dest s.now).isSome then Nd.flush { s with ls := l } p.dest else { s with ls := l }) := fun l => by
     have h0 : s.Puts { s with ls := l } := Nd.Puts.of rfl
     split
     ·exact h0.trans (Nd.Puts.flush _ _)
     ·exact h0
    split
    ·exact (h2 _).trans (Nd.Puts.of rfl)
    ·exact h2 _
   ·split
    ·split <;> exact Nd.Puts.of rfl
    ·split
     ·exact Nd.Puts.of rfl
     ·exact ⟨[(_, _)], rfl⟩
theorem Nd.Puts.handle (s : Nd) (src : UInt32) (p : Pk) : s.Puts (s.handle src p) := by
  unfold Nd.handle
  repeat' split
  · exact Nd.Puts.req _ _ _
  · exact Nd.Puts.rep _ _ _
  · exact Nd.Puts.los _ _ _
  · exact Nd.Puts.dat _ _ _
theorem Nd.Puts.rcvQ (s : Nd) (now : UInt64) (src : UInt32) (f : Str) : s.Puts (s.rcvQ now src f) := by
  unfold Nd.rcvQ
  repeat' split
  all_goals first | exact Nd.Puts.of rfl | exact ⟨[(_, _)], rfl⟩
theorem Nd.Puts.rcv (s : Nd) (now : UInt64) (src : UInt32) (f : Str) : s.Puts (s.rcv now src f) := by
 unfold Nd.rcv
 split
 ·exact Nd.Puts.rcvQ _ _ _ _
 ·split
  ·exact Nd.Puts.rcvQ _ _ _ _
  ·exact Nd.Puts.handle _ _ _
theorem Nd.Puts.sendT (s : Nd) (d : UInt32) (t : Str) : s.Puts (s.sendT d t) := by
 rw [Nd.sendT_eq]
 split
 ·exact Nd.Puts.hand _ _ _
 ·have h1 : s.Puts ((s.roomFor d).put d t) := Nd.Puts.of (s.roomFor_eqs d).2.2.2.2.2.2.2.2.2.2.2.1
  split
  ·exact h1
  ·have h2 : ((s.roomFor d).put d t).Puts (((s.roomFor d).put d t).newSr d) := Nd.Puts.of rfl
   exact (h1.trans h2).trans (Nd.Puts.ask _ _ _)
def OutD.Pks (o : OutD) : Prop := ∃ l : List (UInt32 × Pk), o.frames = l.map fun x => (x.1, x.2.out)
theorem OutD.Pks.le {o : OutD} (h : o.Pks) : ∀ f ∈ o.frames, f.2.length ≤ 100000 := by
 obtain ⟨l, hl⟩ := h
 intro f hf
 rw [hl] at hf
 obtain ⟨x, _, rfl⟩ := List.mem_map.1 hf
 exact Pk.out_le' x.2
theorem Nd.Puts.pks {s t : Nd} {now : UInt64} (h : (s.begin now).Puts t) : t.done.out.Pks := by
 obtain ⟨l, hl⟩ := h
 obtain ⟨_, _, _, _, _, _, _, e8, _⟩ := t.done_same
 exact ⟨l, by rw [e8, hl, Nd.begin_frames]; rfl⟩
theorem Nd.tickF_pks (s : Nd) (now : UInt64) : (s.tickF now).out.Pks := Nd.Puts.pks (Nd.Puts.ticks now _ _)
theorem Nd.rcvF_pks (s : Nd) (now : UInt64) (src : UInt32) (f : Str) : (s.rcvF now src f).out.Pks := Nd.Puts.pks (Nd.Puts.rcv _ _ _ _)
theorem Nd.brkF_pks (s : Nd) (now : UInt64) (nb : UInt32) : (s.brkF now nb).out.Pks := Nd.Puts.pks (Nd.Puts.brk _ _)
theorem Nd.sendF_pks (s : Nd) (now : UInt64) (d : UInt32) (t : Str) : (s.sendF now d t).out.Pks := Nd.Puts.pks (Nd.Puts.sendT _ _ _)
theorem Nd.brkF_all (s : Nd) (now : UInt64) (nb : UInt32) : ∀ f ∈ (s.brkF now nb).out.frames, f.1 = 0 := by
 obtain ⟨_, _, _, _, _, _, _, e8, _⟩ := ((s.begin now).brk nb).done_same
 unfold Nd.brkF
 rw [e8]
 unfold Nd.brk Nd.lost
 split
 ·intro f hf
  rw [show (Nd.send { s.begin now with ls := brkT nb (s.begin now).ls } 0 (Pk.lose (outB nb (sortU (dests (s.begin now).ls)) (s.begin now).ls))).out.frames = (s.begin now).out.frames ++ [(0, (Pk.lose (outB nb (sortU (dests (s.begin now).ls)) (s.begin now).ls)).out)] from rfl, Nd.begin_frames] at hf
  simp at hf
  rw [hf]
 ·intro f hf
  rw [show ({ s.begin now with ls := brkT nb (s.begin now).ls } : Nd).out.frames = (s.begin now).out.frames from rfl, Nd.begin_frames] at hf
  cases hf
def Joins (J : Str) (n : Nd) (o : OutD) : Prop := (if o.replace then [] else J) ++ o.journal = recsB n.recs
theorem recsB_append (l m : List Rec) : recsB (l ++ m) = recsB l ++ recsB m := by simp [recsB]
theorem Nd.joins {s t : Nd} {now : UInt64} {a b : Nat} (h : (s.begin now).Step t a b) : Joins (recsB s.recs) t.done t.done.out := by
 have h0 := Nd.Step.note { s with now := now, out := OutD.zero, ls := expT now s.ls }
 have h1 := (h0.trans h).trans (Nd.Step.note t)
 have hr := h1.repl
 obtain ⟨W, _, w2, w3⟩ := h1.wr
 unfold Joins Nd.done
 split
 ·simp
 ·rw [hr, w2, w3]
  simp only [OutD.zero, Bool.false_eq_true, if_false, List.nil_append]
  rw [recsB_append]
theorem Nd.new_joins (self : UInt32) (b : Str) (now : UInt64) : Joins b (Nd.new self b now) (Nd.newO self b now) := by
 have h1 := (Nd.Step.write (Nd.booted self b now) ⟨true, 0, (Nd.booted self b now).seq⟩).trans (Nd.Step.note _)
 obtain ⟨W, _, w2, w3⟩ := h1.wr
 have hb : (Nd.booted self b now).recs = [] ∧ (Nd.booted self b now).out.journal = [] := by unfold Nd.booted; split <;> exact ⟨rfl, rfl⟩
 rw [hb.1] at w2
 rw [hb.2] at w3
 have e : (Nd.newO self b now).journal = (Nd.new self b now).out.journal := rfl
 unfold Joins
 rw [e]
 show (if (decide (0 < b.length)) = true then [] else b) ++ (Nd.new self b now).out.journal = recsB (Nd.new self b now).recs
 have e2 : (if (decide (0 < b.length)) = true then [] else b) = ([] : Str) := by
  cases b with
  | nil => rfl
  | cons x l => rfl
 rw [e2, List.nil_append]
 unfold Nd.new
 rw [w2, w3]
 rfl
end

section
structure Sta where
  addr : UInt32
  node : Option Nd
  journal : Str
  tear : Int
  armed : Bool
structure Fl where
  src : Nat
  dst : Nat
  bytes : Str
structure Ev where
  node : Int
  err : Int
  out : OutD
structure Ms where
  sts : List Sta
  hears : Nat → Bool
  air : List Fl
  now : UInt64
  evs : List Ev
structure OpD where
  kind : Int
  a : Int
  b : Int
  n : Int
  on : Bool
  text : Str
def OutD.none (o : OutD) : Bool := o.journal.isEmpty && o.frames.isEmpty && o.came.isEmpty && o.dropped.isEmpty
def Sta.stop (s : Sta) : Sta := { s with node := Option.none, armed := false }
def Sta.tears (s : Sta) (o : OutD) : Bool := s.armed && !o.journal.isEmpty
def Sta.part (s : Sta) (o : OutD) : Str := o.journal.take (min s.tear o.journal.length).toNat
def Sta.torn (s : Sta) (o : OutD) : Sta := Sta.stop (if o.replace then s else { s with journal := s.journal ++ s.part o })
def Sta.write (s : Sta) (o : OutD) : Sta := { s with journal := (if o.replace then [] else s.journal) ++ o.journal }
def Sta.run (s : Sta) (n : Nd) : Sta := { s with node := some n }
def Ms.hear (m : Ms) (i j : Nat) : Bool := m.hears (i * 6 + j)
def stFind : List Sta → UInt32 → Option Nat
 | [], _ => Option.none
 | s :: r, a => if s.addr = a then some 0 else (stFind r a).map (· + 1)
def Ms.mod (m : Ms) (i : Nat) (f : Sta → Sta) : Ms := { m with sts := m.sts.modify i f }
def Ms.event (m : Ms) (e : Ev) : Ms := { m with evs := m.evs ++ [e] }
def Ms.fly (m : Ms) (f : Fl) : Ms := { m with air := if 48 < (m.air ++ [f]).length then (m.air ++ [f]).eraseIdx 0 else m.air ++ [f] }
def Ms.castN (i : Nat) (b : Str) : Nat → Ms → Ms
 | 0, m => m
 | k + 1, m => if (Ms.castN i b k m).hear i k then (Ms.castN i b k m).fly ⟨i, k, b⟩ else Ms.castN i b k m
def Ms.frameO (sub : Ms → OutD → Ms) (i : Nat) (m : Ms) (f : UInt32 × Str) : Ms :=
 if f.1 = 0 then Ms.castN i f.2 m.sts.length m else
 if ((stFind m.sts f.1).map fun j => m.hear i j) = some true then m.fly ⟨i, (stFind m.sts f.1).getD 0, f.2⟩ else
 match (m.sts[i]?).bind (·.node) with
 | some s => sub (m.mod i (·.run (s.brkF m.now f.1))) (s.brkF m.now f.1).out
 | Option.none => m
def Ms.emitR (sub : Ms → OutD → Ms) (i : Nat) (m : Ms) (o : OutD) : Ms :=
 if o.none then m else
 match m.sts[i]? with
 | Option.none => m
 | some s =>
  if s.tears o then (m.mod i (·.torn o)).event ⟨i, 0, OutD.zero⟩
  else o.frames.foldl (Ms.frameO sub i) ((m.mod i (·.write o)).event ⟨i, 0, o⟩)
def Ms.emit0 (i : Nat) (m : Ms) (o : OutD) : Ms := Ms.emitR (fun m _ => m) i m o
def Ms.emit (i : Nat) (m : Ms) (o : OutD) : Ms := Ms.emitR (Ms.emit0 i) i m o
def Ms.refuse (m : Ms) (i e : Int) : Ms := m.event ⟨i, e, OutD.zero⟩
def Ms.tickN : Nat → Ms → Ms
 | 0, m => m
 | k + 1, m => match ((Ms.tickN k m).sts[k]?).bind (·.node) with
  | some s => Ms.emit k ((Ms.tickN k m).mod k (·.run (s.tickF (Ms.tickN k m).now))) (s.tickF (Ms.tickN k m).now).out
  | Option.none => Ms.tickN k m
def Ms.tick (m : Ms) (n : UInt64) : Ms := Ms.tickN m.sts.length { m with now := m.now + n }
def Ms.frame (m : Ms) (o : OpD) (k : Nat) : Ms := match m.air[k]? with
 | Option.none => m
 | some f =>
  if o.kind = 4 then
   match (m.sts[f.dst]?).bind (·.node) with
   | some s => Ms.emit f.dst ({ m with air := m.air.eraseIdx k }.mod f.dst (·.run (s.rcvF m.now (((m.sts[f.src]?).map fun x : Sta => x.addr).getD 0) f.bytes))) (s.rcvF m.now (((m.sts[f.src]?).map fun x : Sta => x.addr).getD 0) f.bytes).out
   | Option.none => { m with air := m.air.eraseIdx k }
  else if o.kind = 5 then { m with air := m.air.eraseIdx k }
  else if o.kind = 6 then m.fly f
  else if o.kind = 7 ∧ 0 ≤ o.n then { m with air := m.air.set k { f with bytes := f.bytes.take (f.bytes.length - min o.n.toNat f.bytes.length) } }
  else m
def Ms.at_ (m : Ms) (i : Int) : Option Sta := if i < 0 then Option.none else m.sts[i.toNat]?
def Ms.link (m : Ms) (i j : Nat) (b : Bool) : Ms := { m with hears := fun k => if k = i * 6 + j ∨ k = j * 6 + i then b else m.hears k }
def Ms.bars (m : Ms) (o : OpD) : Bool :=
 (m.at_ o.a).isNone || ((decide (o.kind = 1) || decide (o.kind = 2) || decide (o.kind = 8)) && (m.at_ o.b).isNone) || (!decide (o.kind = 1) && (((m.at_ o.a).bind (·.node)).isNone != decide (o.kind = 11)))
def Ms.nodeOp (m : Ms) (o : OpD) : Ms :=
 if m.bars o then m.refuse 0 5 else
 if o.kind = 1 then (if o.a ≠ o.b then m.link o.a.toNat o.b.toNat o.on else m) else
 if o.kind = 2 then
  match (m.at_ o.a).bind (·.node), m.at_ o.b with
  | some s, some b =>
   if 16 < o.text.length then m.refuse o.a 6 else
   if b.addr = s.self ∨ b.addr = 0 then m.refuse o.a 2 else
   Ms.emit o.a.toNat (m.mod o.a.toNat (·.run (s.sendF m.now b.addr o.text))) (s.sendF m.now b.addr o.text).out
  | _, _ => m
 else if o.kind = 8 then
  match (m.at_ o.a).bind (·.node), m.at_ o.b with
  | some s, some b => Ms.emit o.a.toNat (m.mod o.a.toNat (·.run (s.rcvF m.now b.addr o.text))) (s.rcvF m.now b.addr o.text).out
  | _, _ => m
 else if o.kind = 9 then m.mod o.a.toNat Sta.stop
 else if o.kind = 10 then m.mod o.a.toNat fun s => { s with armed := true, tear := max 0 o.n }
 else match m.at_ o.a with
  | some s => Ms.emit o.a.toNat (m.mod o.a.toNat fun s => { s with node := some (Nd.new s.addr s.journal m.now), armed := false }) (Nd.newO s.addr s.journal m.now)
  | Option.none => m
def Ms.do_ (m : Ms) (o : OpD) : Ms :=
 if o.kind = 4 ∨ o.kind = 5 ∨ o.kind = 6 ∨ o.kind = 7 then
  (if 0 ≤ o.a ∧ 0 < m.air.length then Ms.frame { m with evs := [] } o (o.a.toNat % m.air.length) else { m with evs := [] })
 else if o.kind = 3 then (if 1 ≤ o.n ∧ o.n ≤ 60000 then Ms.tick { m with evs := [] } (UInt64.ofNat o.n.toNat) else { m with evs := [] })
 else if o.kind = 1 ∨ o.kind = 2 ∨ o.kind = 8 ∨ o.kind = 9 ∨ o.kind = 10 ∨ o.kind = 11 then Ms.nodeOp { m with evs := [] } o
 else { m with evs := [] }
def newSta (a : UInt32) : Sta := ⟨a, some (Nd.new a [] 0), (Nd.newO a [] 0).journal, 0, false⟩
def Ms.new (l : List UInt32) : Ms := ⟨l.map newSta, fun _ => false, [], 0, []⟩
end

end Go.Proofs.YtapoehkdnglahabGreat

