/- MesT RatW ArgK Rated, joined. -/
import Derived.Test.YtapoehkdnglahaaGreatRatedGf
/- mesh.Node: it is told the time, it is asked to send, it hears, it is told that a neighbour was not reached. -/
namespace Go.Proofs.YtapoehkdnglahaaGreat
open Go.RowKit
set_option linter.unusedVariables false
set_option linter.unusedSectionVars false
set_option linter.unusedSimpArgs false
attribute [local irreducible] WS LS OpQ OpT OpH OpTQ Spec SpecQ cel
variable (w0 : World)
set_option maxRecDepth 100000 in
set_option maxHeartbeats 8000000 in
theorem mtick_spec (gm : Nat) (s : Nd) (now : UInt64) {c : Nat} (hr : s.Rest c) (hc : c ≤ 8500) (hn : now.toNat ≤ 4611686018427387904) : Spec Tryz.prog w0 21 [ptr gm 0, u64 now] (mnodI gm s) (fun x : Value × Value × Value => outA (s.tickF now).out x) (fun x => mnodI gm (s.tickF now) * outR (s.tickF now).out x) := by
  refine Spec.mnod0 fun gn => ?_
  have p1 := ntick_spec w0 gn s now hr hc hn
  refine Spec.enter Tryz.func21 rfl Tryz.ntmps21 rfl fun G => ?_
  generalize s.tickF now = s2 at p1 ⊢
  simp only [outA, outR] at p1 ⊢
  simp only [argE]
  repeat' (first | (refine WS_seqK ?_; intro K hK) | (refine hK _ ?_; clear hK K) | refine WS_region ?_ | refine LS_nil ?_ | ((refine' LQ ?zh rfl ?_); case zh => intro F'; first | exact Q_move rfl | exact Q_nilCheck rfl | exact Q_fieldAddr rfl iI rfl | exact Q_load rfl iI iI rfl) | ((refine' LS_h ?zh rfl ?_); (case zh => exact H_alloc iI); intro g) | ((refine' LS_h0 ?zh ?_); (case zh => exact H_storeAO rfl rfl iI iI iI rfl); intro g) | (first | refine WS_block ?_ | refine WS_skip ?_ | refine WS_ret ?_ | refine WS_exit ?_ | refine WS_label ?_) | (refine LS_h (H_callX iI rfl p1 iI) rfl ?_; intro x))
  exact ret_1 (.inl rfl) rfl (RV_cell rfl iI iI rfl) ⟨x, rfl, by rw [star_assoc (mnodI _ _)]; exact ent_mnodI gn (by ((try simp only [star_assoc, emp_star, star_emp]); (repeat' (first | exact Ent.last | refine Ent.take ?_ | refine Ent.nilT ?_ | refine Ent.takeR (by first | rfl | assumption | (simp; done)) ?_ | exact Ent.refl _))))⟩
set_option maxRecDepth 100000 in
set_option maxHeartbeats 8000000 in
theorem msend_spec (gm : Nat) (s : Nd) (now : UInt64) (d : UInt32) (t : Str) {c : Nat} (hr : s.Rest c) (hc : c ≤ 8500) (hn : now.toNat ≤ 4611686018427387904) (he : s.sendE d t = 0) : Spec Tryz.prog w0 22 [ptr gm 0, u64 now, u32 d, strV t] (mnodI gm s) (fun x : Value × Value × Value => .tuple #[outA (s.sendF now d t).out x, .int .i64 0]) (fun x => mnodI gm (s.sendF now d t) * outR (s.sendF now d t).out x) := by
  refine Spec.mnod0 fun gn => ?_
  have p1 := nsendT_spec w0 gn s now d t hr hc hn he
  refine Spec.enter Tryz.func22 rfl Tryz.ntmps22 rfl fun G => ?_
  generalize s.sendF now d t = s2 at p1 ⊢
  simp only [outA, outR] at p1 ⊢
  simp only [argE]
  repeat' (first | (refine WS_seqK ?_; intro K hK) | (refine hK _ ?_; clear hK K) | refine WS_region ?_ | refine LS_nil ?_ | ((refine' LQ ?zh rfl ?_); case zh => intro F'; first | exact Q_move rfl | exact Q_assign rfl | exact Q_nilCheck rfl | exact Q_fieldAddr rfl iI rfl | exact Q_load rfl iI iI rfl | exact Q_extract rfl rfl) | ((refine' LS_h ?zh rfl ?_); (case zh => exact H_alloc iI); intro g) | ((refine' LS_h0 ?zh ?_); (case zh => exact H_storeAO rfl rfl iI iI iI rfl); intro g) | (first | refine WS_block ?_ | refine WS_skip ?_ | refine WS_ret ?_ | refine WS_exit ?_ | refine WS_label ?_) | (refine LS_h (H_callX iI rfl p1 iI) rfl ?_; intro x))
  exact ret_2 (.inl rfl) rfl (RV_cell rfl iI iI rfl) (RV_tmp rfl) ⟨x, rfl, by rw [star_assoc (mnodI _ _)]; exact ent_mnodI gn (by ((try simp only [star_assoc, emp_star, star_emp]); (repeat' (first | exact Ent.last | refine Ent.take ?_ | refine Ent.nilT ?_ | refine Ent.takeR (by first | rfl | assumption | (simp; done)) ?_ | exact Ent.refl _))))⟩
set_option maxRecDepth 100000 in
set_option maxHeartbeats 8000000 in
theorem msendNo_spec (gm : Nat) (s : Nd) (now : UInt64) (d : UInt32) (t : Str) (he : s.sendE d t ≠ 0) : Spec Tryz.prog w0 22 [ptr gm 0, u64 now, u32 d, strV t] (mnodI gm s) (fun _ : Unit => .tuple #[outNo, .int .i64 (s.sendE d t)]) (fun _ => mnodI gm s) := by
  refine Spec.mnod0 fun gn => ?_
  have p1 := nsendNo_spec w0 gn s now d t he
  generalize s.sendE d t = q at p1 ⊢
  refine Spec.enter Tryz.func22 rfl Tryz.ntmps22 rfl fun G => ?_
  simp only [outNo] at p1 ⊢
  simp only [argE]
  repeat' (first | (refine WS_seqK ?_; intro K hK) | (refine hK _ ?_; clear hK K) | refine WS_region ?_ | refine LS_nil ?_ | ((refine' LQ ?zh rfl ?_); case zh => intro F'; first | exact Q_move rfl | exact Q_assign rfl | exact Q_nilCheck rfl | exact Q_fieldAddr rfl iI rfl | exact Q_load rfl iI iI rfl | exact Q_extract rfl rfl) | ((refine' LS_h ?zh rfl ?_); (case zh => exact H_alloc iI); intro g) | ((refine' LS_h0 ?zh ?_); (case zh => exact H_storeAO rfl rfl iI iI iI rfl); intro g) | (first | refine WS_block ?_ | refine WS_skip ?_ | refine WS_ret ?_ | refine WS_exit ?_ | refine WS_label ?_) | (refine LS_h (H_callX iI rfl p1 iI) rfl ?_; intro x))
  exact ret_2 (.inl rfl) rfl (RV_cell rfl iI iI rfl) (RV_tmp rfl) ⟨(), rfl, by exact ent_mnodI gn (by ((try simp only [star_assoc, emp_star, star_emp]); (repeat' (first | exact Ent.last | refine Ent.take ?_ | refine Ent.nilT ?_ | refine Ent.takeR (by first | rfl | assumption | (simp; done)) ?_ | exact Ent.refl _))))⟩
end Go.Proofs.YtapoehkdnglahaaGreat

/- What the law Rated returns, by a walk. -/
namespace Go.Proofs.YtapoehkdnglahaaGreat
open Go.RowKit
set_option linter.unusedVariables false
set_option linter.unusedSectionVars false
set_option linter.unusedSimpArgs false
/-- What is asked of a node: to whom, how long it waits first, whether it is told the time alone. -/
abbrev AskD := UInt32 × UInt64 × Bool
def askC (x : AskD) : List Value := [u32 x.1, u64 x.2.1, .bool x.2.2]
instance : FixLen askC 3 := ⟨fun _ => rfl⟩
theorem askC_one : ∀ z, ∀ c ∈ askC z, c.oneCell' = true := by intro z c hc; simp [askC] at hc; rcases hc with rfl | rfl | rfl <;> rfl
theorem wait_mod (w : UInt64) : (w % 5000).toNat < 5000 := by
  rw [UInt64.toNat_mod]
  exact Nat.mod_lt _ (by decide)
theorem Pk.Asks.dec {p : Pk} {q : Nat} (h : p.Asks q) : Pk.dec p.out = some p := by
  rw [Pk.out_fit h.fits]
  exact Pk.dec_bytes h.fits
/-- How many requests there are at most. -/
theorem RateOk.few {T : List UInt64} {now : UInt64} (h : RateOk T) (hu : ∀ a ∈ T, a.toNat ≤ now.toNat) : T.length ≤ 5 * (now.toNat / 1000 + 1) := by
  have h5 : ∀ (k : Nat) (a : UInt64), T[5 * k]? = some a → 1000 * k ≤ a.toNat := by
    intro k
    induction k with
    | zero => intro a _; omega
    | succ k ih =>
      intro a ha
      have hlt := (List.getElem?_eq_some_iff.1 ha).1
      have hb : T[5 * k]? = some T[5 * k] := List.getElem?_eq_getElem (by omega)
      have h1 := ih _ hb
      have h2 := h (5 * k) _ a hb (by rw [show 5 * k + 5 = 5 * (k + 1) by omega]; exact ha)
      omega
  apply Classical.byContradiction
  intro hc
  have hlt : 5 * (now.toNat / 1000 + 1) < T.length := by omega
  have ha : T[5 * (now.toNat / 1000 + 1)]? = some T[5 * (now.toNat / 1000 + 1)] := List.getElem?_eq_getElem hlt
  have h1 := h5 _ _ ha
  have h2 := hu _ (List.mem_of_getElem? ha)
  omega
attribute [local irreducible] WS LS OpQ OpT OpH OpTQ Spec SpecQ cel
variable (w0 : World)
set_option maxRecDepth 100000 in
set_option maxHeartbeats 8000000 in
theorem rated_big (l : List AskD) (hl : 4096 < l.length) (v : Value) (X : HProp) [hX : Rdr w0 X v AskD 3 askC l] : Spec Tryz.prog w0 5 [v] X (fun _ : Unit => .bool true) (fun _ => X) := by
  refine Spec.enter Tryz.func5 rfl Tryz.ntmps5 rfl fun G => ?_
  have p1 := mnew_spec w0 1 (by decide) [] (by simp) 0 (.slice none 0 0) emp (hX := rdr_nil _ _ _)
  simp only [outA, outR] at p1
  simp only [argE]
  have hl' : (4096 : Int) < (l.length : Int) := by omega
  repeat' (first | (refine WS_seqK ?_; intro K hK) | (refine hK _ ?_; clear hK K) | (with_reducible (first | refine thenS_n ?_ | refine thenS_e ?_ | refine blockS_n ?_ | refine blockS_e ?_ | refine blockS_o rfl ?_ | refine thenS_r ?_ | refine blockS_r ?_ | refine use_K (by assumption) ?_)) | refine WS_region ?_ | refine LS_nil ?_ | (show LS _ _ _ _ _ (⟨_, _, _, _, _, some _⟩ :: _) _; first | refine LS_wantT rfl rfl iI rfl ?_ | refine LS_wantF rfl rfl iI rfl ?_ | refine LS_wantU rfl rfl rfl ?_ | ((first | refine LS_wantS rfl rfl rfl ?_ ?_ | refine LS_wantN rfl ?_ ?_) <;> intro hc <;> (try simp only [decide_eq_true_eq, decide_eq_false_iff_not, Bool.not_eq_eq_eq_not, Bool.not_true, Bool.not_false, Bool.and_eq_true, Bool.or_eq_true, bne_iff_ne, beq_iff_eq, ne_eq, Decidable.not_not] at hc) <;> (try (exfalso; first | contradiction | omega; done)))) | ((refine' LQ ?zh rfl ?_); case zh => intro F'; first | exact Q_move rfl | exact Q_assign rfl | exact Q_bin_t rfl rfl iI (by first | assumption | omega | decide) | exact Q_bin_nf rfl rfl iI (by first | assumption | omega | decide) | exact Q_extract rfl rfl | exact Q_pick_t rfl iI rfl | exact Q_pick_f rfl iI rfl | exact Q_lenR rfl iI iI) | ((refine' LQ ?zh rfl ?_); case zh => intro F'; exact Q_bin rfl rfl iI) | ((refine' LS_h ?zh rfl ?_); (case zh => exact H_alloc iI); intro g) | ((refine' LS_h0 ?zh ?_); (case zh => exact H_storeAO rfl rfl iI iI iI rfl); intro g) | (first | refine WS_block ?_ | refine WS_skip ?_ | refine WS_ret ?_ | refine WS_exit ?_ | refine WS_label ?_) | (show WS _ _ _ (.cond _ _ _) _ _; first | refine WS_condT rfl iI ?_ | refine WS_condF rfl iI ?_ | refine WS_condH_t rfl (by assumption) ?_ | refine WS_condH_f rfl (by assumption) ?_ | (refine WS_cond rfl ?_ ?_ <;> intro hc <;> (try simp only [decide_eq_true_eq, decide_eq_false_iff_not, Bool.not_eq_eq_eq_not, Bool.not_true, Bool.not_false, Bool.and_eq_true, Bool.or_eq_true, bne_iff_ne, beq_iff_eq, ne_eq, Decidable.not_not] at hc) <;> (try (exfalso; first | contradiction | omega; done)))) | (refine LS_h (H_callX iI rfl p1 iI) rfl ?_; intro x; obtain ⟨gm, vf, vc, vd⟩ := x; dsimp only))
  exact ret_tmp (.inl rfl) rfl rfl ⟨(), rfl, by ((try simp only [star_assoc, emp_star, star_emp]); (repeat' (first | exact Ent.last | refine Ent.take ?_ | refine Ent.nilT ?_ | refine Ent.takeR (by first | rfl | assumption | (simp; done)) ?_ | exact Ent.refl _)))⟩
set_option maxRecDepth 100000 in
set_option maxHeartbeats 16000000 in
theorem rated_walk (l : List AskD) (hl : l.length ≤ 4096) (v : Value) (X : HProp) [hX : Rdr w0 X v AskD 3 askC l] : Spec Tryz.prog w0 5 [v] X (fun _ : Unit => .bool true) (fun _ => X) := by
  refine Spec.enter Tryz.func5 rfl Tryz.ntmps5 rfl fun G => ?_
  have p1 := mnew_spec w0 1 (by decide) [] (by simp) 0 (.slice none 0 0) emp (hX := rdr_nil _ _ _)
  simp only [outA, outR] at p1
  simp only [argE]
  obtain ⟨n1, n2, n3⟩ := Nd.new_lone
  have hrest := Nd.new_rest 1 [] 0
  refine WS_ent (Ent.nil _ 35 1 wrd64C none) ?_
  repeat' (first | (refine WS_seqK ?_; intro K hK) | (refine hK _ ?_; clear hK K) | refine WS_region ?_ | refine LS_nil ?_ | (show LS _ _ _ _ _ (⟨_, _, _, _, _, some _⟩ :: _) _; first | refine LS_wantT rfl rfl iI rfl ?_ | refine LS_wantF rfl rfl iI rfl ?_ | refine LS_wantU rfl rfl rfl ?_ | ((first | refine LS_wantS rfl rfl rfl ?_ ?_ | refine LS_wantN rfl ?_ ?_) <;> intro hc <;> (try simp only [decide_eq_true_eq, decide_eq_false_iff_not, Bool.not_eq_eq_eq_not, Bool.not_true, Bool.not_false, Bool.and_eq_true, Bool.or_eq_true, bne_iff_ne, beq_iff_eq, ne_eq, Decidable.not_not] at hc) <;> (try (exfalso; first | contradiction | omega; done)))) | ((refine' LQ ?zh rfl ?_); case zh => intro F'; first | exact Q_move rfl | exact Q_assign rfl | exact Q_bin_f rfl rfl iI (by first | assumption | omega | decide) | exact Q_bin_nf rfl rfl iI (by first | assumption | omega | decide) | exact Q_extract rfl rfl | exact Q_pick_f rfl iI rfl | exact Q_build iI iI rfl rfl | exact Q_lenR rfl iI iI) | ((refine' LQ ?zh rfl ?_); case zh => intro F'; exact Q_bin rfl rfl iI) | ((refine' LS_h ?zh rfl ?_); (case zh => exact H_alloc iI); intro g) | ((refine' LS_h0 ?zh ?_); (case zh => exact H_storeAO rfl rfl iI iI iI rfl); intro g) | (first | refine WS_block ?_ | refine WS_skip ?_ | refine WS_ret ?_ | refine WS_exit ?_ | refine WS_label ?_) | (show WS _ _ _ (.cond _ _ _) _ _; first | refine WS_condT rfl iI ?_ | refine WS_condF rfl iI ?_ | refine WS_condH_t rfl (by assumption) ?_ | refine WS_condH_f rfl (by assumption) ?_ | (refine WS_cond rfl ?_ ?_ <;> intro hc <;> (try simp only [decide_eq_true_eq, decide_eq_false_iff_not, Bool.not_eq_eq_eq_not, Bool.not_true, Bool.not_false, Bool.and_eq_true, Bool.or_eq_true, bne_iff_ne, beq_iff_eq, ne_eq, Decidable.not_not] at hc) <;> (try (exfalso; first | contradiction | omega; done)))) | (refine LS_h (H_callX iI rfl p1 iI) rfl ?_; intro x; obtain ⟨gm, vf, vc, vd⟩ := x; dsimp only) | (refine LS_h (H_buildSliceR askC [(2, 0, false)] iI iI iI rfl rfl rfl rfl rfl iI rfl rfl rfl) rfl ?_; intro v0) | (refine LS_h (H_appendO X rfl rfl iI hX iI rfl iI iI askC_one (by first | omega | (simp [be_length] <;> omega)) rfl) rfl ?_; intro va))
  obtain ⟨L, hL⟩ : ∃ L : List AskD, L = [(2, 0, false)] ++ l := ⟨_, rfl⟩
  have hLl : L.length ≤ 4097 := by rw [hL]; simp; omega
  have hL0 : 0 < L.length := by rw [hL]; simp
  have hL1 : L[0]? = some (2, 0, false) := by rw [hL]; rfl
  rw [← hL]
  clear hL p1
  refine WS_loop (fun k τ => ∃ (j : Nat) (vs : Value) (s : Nd) (T : List UInt64) (now : UInt64) (last : UInt32), j + k = L.length ∧ s.Lone now T ∧ s.Rest (2 * j) ∧ now.toNat ≤ 5000 * j ∧ (j = 0 → T = [] ∧ s.srs = [] ∧ s.clk = []) ∧ (0 < j → 0 < T.length) ∧ last.toNat = 1 + T.length ∧ τ = ⟨[(9, .int .i64 (j : Int)), (8, u32 last), (7, u64 now), (6, vs), (3, ptr gm 0), (0, va)], [], mnodI gm s * (rows 35 1 wrd64C vs T * (rows 72 3 askC va L * (X * G)))⟩) ?_ ?_
  · exact ⟨L.length, _, ⟨0, _, _, [], 0, 1, by omega, n1, hrest, by decide, fun _ => ⟨rfl, n2, n3⟩, fun h => absurd h (by omega), rfl, rfl⟩, ⟨rfl, rfl, rfl, rfl, rfl, rfl, trivial⟩, rfl, by ((try simp only [star_assoc, emp_star, star_emp]); (repeat' (first | exact Ent.last | refine Ent.take ?_ | refine Ent.nilT ?_ | refine Ent.takeR (by first | rfl | assumption | (simp; done)) ?_ | exact Ent.refl _)))⟩
  · clear n1 n2 n3 hrest
    rintro k τ ⟨j, vs, s, T, now, last, hjk, hlo, hre, hnow, hj0, hj1, hlast, rfl⟩
    have hfew := RateOk.few hlo.rate hlo.upto
    rcases Nat.lt_or_ge j L.length with hlt | hge
    · obtain ⟨⟨dest, wait, tk⟩, hz⟩ : ∃ z, L[j]? = some z := ⟨_, List.getElem?_eq_getElem hlt⟩
      obtain ⟨now', hnow'⟩ : ∃ now', now' = now + wait % 5000 := ⟨_, rfl⟩
      have hw := wait_mod wait
      have hn1 : now'.toNat = now.toNat + (wait % 5000).toNat := by rw [hnow', UInt64.toNat_add]; omega
      have hsm : now'.toNat ≤ 4611686018427387904 := by omega
      have hle : now.toNat ≤ now'.toNat := by omega
      obtain ⟨E1, hlo1, hA1⟩ := hlo.tick hre (by omega) hsm hle
      have hre1 := hre.tick (by omega) hsm
      have hfr1 := Nd.tickF_frames hre (by omega) hsm
      have p3 := mtick_spec w0 gm s now' hre (by omega) hsm
      have hidle : j = 0 → (s.tickF now').srs = [] := fun h0 => by
        obtain ⟨_, h2, h3⟩ := hj0 h0
        rw [Nd.tickF_idle s now' h3]
        obtain ⟨_, _, _, e4, _⟩ := (s.begin now').done_same
        rw [e4, (s.begin_same now').2.2.2.2.2, h2]
      generalize s.tickF now' = s1 at *
      have hfr2 := Nd.sendF_frames s1 now' dest [120]
      have p5 : s1.sendE dest [120] = 0 → _ := fun he => msend_spec w0 gm s1 (now + wait % 5000) dest [120] hre1 (by omega) (hnow' ▸ hsm) he
      have p6 : s1.sendE dest [120] ≠ 0 → _ := fun he => msendNo_spec w0 gm s1 (now + wait % 5000) dest [120] he
      have hse : j = 0 → s1.sendE dest [120] = 0 ∧ tk = false := fun h0 => by
        subst h0
        rw [hL1] at hz
        cases hz
        refine ⟨?_, rfl⟩
        unfold Nd.sendE
        rw [hlo1.self]
        decide
      simp only [outA, outR] at p3 p5
      rw [hnow'] at p3
      repeat' (first | (show WS _ _ _ (.seq (.seq (.region 13 _ _) _) _) _ _; refine WS_mid (fun τ => ∃ (s2 : Nd) (E : List UInt64) (F : List (UInt32 × Str)) (vf vc vd : Value) (J : Value) (R : Value), s2.Lone now' (T ++ E) ∧ s2.Rest (2 * (j + 1)) ∧ AskedF now' T E F ∧ F.length ≤ 50000 ∧ 0 < (T ++ E).length ∧ τ = ⟨[(10, ptr g10 0), (9, .int .i64 (j : Int)), (8, u32 last), (7, u64 (now + wait % 5000)), (6, vs), (3, ptr gm 0), (0, va)], [], cel g10 67 [J, R, vf, vc, vd] * (rows 80 2 txtC vf F * (mnodI gm s2 * (rows 35 1 wrd64C vs T * (rows 72 3 askC va L * (X * G)))))⟩) ?_ ?_) | (refine WS_seqK ?_; intro K hK) | (refine hK _ ?_; clear hK K) | (with_reducible (first | refine thenS_n ?_ | refine thenS_e ?_ | refine blockS_n ?_ | refine blockS_e ?_ | refine blockS_o rfl ?_ | refine thenS_r ?_ | refine blockS_r ?_ | refine use_K (by assumption) ?_)) | refine WS_region ?_ | refine LS_nil ?_ | ((refine' LQ ?zh rfl ?_); case zh => intro F'; first | exact Q_move rfl | exact Q_assign rfl | exact Q_bin_t rfl rfl iI (by first | assumption | omega | decide) | exact Q_bin rfl rfl iI | exact Q_un rfl iI | exact Q_index rfl rfl iI iI iI iI (by first | assumption | omega | (simp [be_length] <;> omega)) | exact Q_fieldR rfl iI iI rfl (by first | assumption | omega | (simp [be_length] <;> omega)) | exact Q_loadR rfl iI iI iI (by assumption) rfl | exact Q_lenR rfl iI iI) | ((refine' LS_h0 ?zh ?_); (case zh => exact H_storeAO rfl rfl iI iI iI rfl); intro g) | (first | refine WS_block ?_ | refine WS_skip ?_ | refine WS_ret ?_ | refine WS_exit ?_ | refine WS_label ?_) | (show WS _ _ _ (.cond _ _ _) _ _; first | refine WS_condT rfl iI ?_ | refine WS_condF rfl iI ?_ | refine WS_condH_t rfl (by assumption) ?_ | refine WS_condH_f rfl (by assumption) ?_ | (refine WS_cond rfl ?_ ?_ <;> intro hc <;> (try simp only [decide_eq_true_eq, decide_eq_false_iff_not, Bool.not_eq_eq_eq_not, Bool.not_true, Bool.not_false, Bool.and_eq_true, Bool.or_eq_true, bne_iff_ne, beq_iff_eq, ne_eq, Decidable.not_not] at hc) <;> (try (exfalso; first | contradiction | omega; done)))) | (refine LS_h (H_alloc iI) rfl ?_; intro g10) | (refine LS_h (H_callX iI rfl p3 iI) rfl ?_; intro x; obtain ⟨vf, vc, vd⟩ := x; dsimp only))
      · by_cases he : s1.sendE dest [120] = 0
        · replace p5 := p5 he
          rw [← hnow'] at p5
          obtain ⟨E2, hlo2, hA2⟩ := hlo1.send hre1 (by omega) hsm (Nat.le_refl _) dest [120]
          have hre2 := hre1.send hsm dest [120] (by simp)
          have hpos : 0 < (T ++ (E1 ++ E2)).length := by
            rcases Nat.eq_zero_or_pos j with h0 | h0
            · obtain ⟨hT, _, _⟩ := hj0 h0
              subst hT
              have hE := hA1.len
              by_cases hE1 : 0 < E1.length
              · simp; omega
              · have : E1 = [] := List.eq_nil_of_length_eq_zero (by omega)
                subst this
                have := hlo1.first (c := 0) (hidle h0) (Nat.le_refl _) dest [120] hlo2
                simpa using this
            · have := hj1 h0; rw [List.length_append]; omega
          have hA := hA1.append hA2
          rw [List.append_assoc] at hlo2
          generalize s1.sendF now' dest [120] = s2 at *
          rw [hnow'] at p5
          repeat' (first | (refine WS_seqK ?_; intro K hK) | (refine hK _ ?_; clear hK K) | (with_reducible (first | refine thenS_n ?_ | refine thenS_e ?_ | refine blockS_n ?_ | refine blockS_e ?_ | refine blockS_o rfl ?_ | refine thenS_r ?_ | refine blockS_r ?_ | refine use_K (by assumption) ?_)) | refine WS_region ?_ | refine LS_nil ?_ | ((refine' LQ ?zh rfl ?_); case zh => intro F'; first | exact Q_move rfl | exact Q_assign rfl | exact Q_fieldAddr rfl iI rfl | exact Q_load rfl iI iI rfl | exact Q_bin_t rfl rfl iI (by first | assumption | omega | decide) | exact Q_extract rfl rfl) | ((refine' LS_h0 ?zh ?_); (case zh => first | exact H_storeO rfl rfl iI iI iI rfl | exact H_storeAO rfl rfl iI iI iI rfl); intro g) | (show WS _ _ _ (.cond _ _ _) _ _; first | refine WS_condT rfl iI ?_ | refine WS_condF rfl iI ?_ | refine WS_condH_t rfl (by assumption) ?_ | refine WS_condH_f rfl (by assumption) ?_ | (refine WS_cond rfl ?_ ?_ <;> intro hc <;> (try simp only [decide_eq_true_eq, decide_eq_false_iff_not, Bool.not_eq_eq_eq_not, Bool.not_true, Bool.not_false, Bool.and_eq_true, Bool.or_eq_true, bne_iff_ne, beq_iff_eq, ne_eq, Decidable.not_not] at hc) <;> (try (exfalso; first | contradiction | omega; done)))) | (refine LS_h (H_alloc iI) rfl ?_; intro g11) | (refine LS_h (H_callX iI rfl p5 iI) rfl ?_; intro x; obtain ⟨vf2, vc2, vd2⟩ := x; dsimp only) | (refine LS_h (H_appendR rfl rfl iI iI rfl iI iI txtC_one (by first | omega | (simp [be_length] <;> omega)) rfl) rfl ?_; intro vf3))
          exact ⟨_, ⟨s2, E1 ++ E2, _, vf3, vc, vd, strV s1.out.journal, .bool s1.out.replace, hlo2, hre2, hA, by rw [List.length_append]; omega, hpos, rfl⟩, ⟨rfl, rfl, rfl, rfl, rfl, rfl, rfl, trivial⟩, rfl, by ((try simp only [star_assoc, emp_star, star_emp]); (repeat' (first | exact Ent.last | refine Ent.take ?_ | refine Ent.nilT ?_ | refine Ent.takeR (by first | rfl | assumption | (simp; done)) ?_ | exact Ent.refl _)))⟩
        · replace p6 := p6 he
          have hq : s1.sendE dest [120] = 2 := by
            unfold Nd.sendE at he ⊢
            simp only [List.length_cons, List.length_nil] at he ⊢
            split at he
            · omega
            · rename_i h16
              rw [if_neg h16]
              split at he
              · rename_i h2; rw [if_pos h2]
              · exact absurd rfl he
          rw [hq] at p6
          simp only [outNo] at p6
          have hpos : 0 < (T ++ E1).length := by
            rcases Nat.eq_zero_or_pos j with h0 | h0
            · exact absurd (hse h0).1 he
            · have := hj1 h0; rw [List.length_append]; omega
          repeat' (first | (refine WS_seqK ?_; intro K hK) | (refine hK _ ?_; clear hK K) | (with_reducible (first | refine thenS_n ?_ | refine thenS_e ?_ | refine blockS_n ?_ | refine blockS_e ?_ | refine blockS_o rfl ?_ | refine thenS_r ?_ | refine blockS_r ?_ | refine use_K (by assumption) ?_)) | refine WS_region ?_ | refine LS_nil ?_ | ((refine' LQ ?zh rfl ?_); case zh => intro F'; first | exact Q_move rfl | exact Q_assign rfl | exact Q_bin_f rfl rfl iI (by first | assumption | omega | decide) | exact Q_extract rfl rfl) | ((refine' LS_h0 ?zh ?_); (case zh => exact H_storeAO rfl rfl iI iI iI rfl); intro g) | (first | refine WS_block ?_ | refine WS_skip ?_ | refine WS_ret ?_ | refine WS_exit ?_ | refine WS_label ?_) | (show WS _ _ _ (.cond _ _ _) _ _; first | refine WS_condT rfl iI ?_ | refine WS_condF rfl iI ?_ | refine WS_condH_t rfl (by assumption) ?_ | refine WS_condH_f rfl (by assumption) ?_ | (refine WS_cond rfl ?_ ?_ <;> intro hc <;> (try simp only [decide_eq_true_eq, decide_eq_false_iff_not, Bool.not_eq_eq_eq_not, Bool.not_true, Bool.not_false, Bool.and_eq_true, Bool.or_eq_true, bne_iff_ne, beq_iff_eq, ne_eq, Decidable.not_not] at hc) <;> (try (exfalso; first | contradiction | omega; done)))) | (refine LS_h (H_alloc iI) rfl ?_; intro g11) | (refine LS_h (H_callX iI rfl p6 iI) rfl ?_; intro x))
          exact ⟨_, ⟨s1, E1, _, vf, vc, vd, strV s1.out.journal, .bool s1.out.replace, hlo1, hre1.mono (by omega), hA1, by omega, hpos, rfl⟩, ⟨rfl, rfl, rfl, rfl, rfl, rfl, rfl, trivial⟩, rfl, by ((try simp only [star_assoc, emp_star, star_emp]); (repeat' (first | exact Ent.last | refine Ent.take ?_ | refine Ent.nilT ?_ | refine Ent.takeR (by first | rfl | assumption | (simp; done)) ?_ | exact Ent.refl _)))⟩
      · have hpos : 0 < (T ++ E1).length := by
          rcases Nat.eq_zero_or_pos j with h0 | h0
          · have := (hse h0).2; rw [hc] at this; cases this
          · have := hj1 h0; rw [List.length_append]; omega
        exact ⟨_, ⟨s1, E1, _, vf, vc, vd, strV s1.out.journal, .bool s1.out.replace, hlo1, hre1.mono (by omega), hA1, by omega, hpos, rfl⟩, ⟨rfl, rfl, rfl, rfl, rfl, rfl, rfl, trivial⟩, rfl, by ((try simp only [star_assoc, emp_star, star_emp]); (repeat' (first | exact Ent.last | refine Ent.take ?_ | refine Ent.nilT ?_ | refine Ent.takeR (by first | rfl | assumption | (simp; done)) ?_ | exact Ent.refl _)))⟩
      · clear p3 p5 p6 hse hidle hA1 hlo1 hre1 hfr1 hfr2
        rintro τ ⟨s2, E, F, vf, vc, vd, J, R, hlo2, hre2, hA, hF, hpos, rfl⟩
        have hfew2 := RateOk.few hlo2.rate hlo2.upto
        rw [List.length_append] at hfew2
        have hE := hA.len
        rw [← hnow']
        repeat' (first | (refine WS_seqK ?_; intro K hK) | (refine hK _ ?_; clear hK K) | refine WS_region ?_ | refine LS_nil ?_ | ((refine' LQ ?zh rfl ?_); case zh => intro F'; exact Q_assign rfl) | (first | refine WS_block ?_ | refine WS_skip ?_ | refine WS_ret ?_ | refine WS_exit ?_ | refine WS_label ?_))
        refine WS_loop (fun k3 τ => ∃ (i : Nat) (vs : Value) (last : UInt32), i + k3 = F.length ∧ last.toNat = 1 + T.length + i ∧ τ = ⟨[(13, .int .i64 (i : Int)), (10, ptr g10 0), (9, .int .i64 (j : Int)), (8, u32 last), (7, u64 now'), (6, vs), (3, ptr gm 0), (0, va)], [], cel g10 67 [J, R, vf, vc, vd] * (rows 80 2 txtC vf F * (mnodI gm s2 * (rows 35 1 wrd64C vs (T ++ E.take i) * (rows 72 3 askC va L * (X * G)))))⟩) ?_ ?_
        · exact ⟨F.length, _, ⟨0, vs, last, by omega, by omega, rfl⟩, ⟨rfl, rfl, rfl, rfl, rfl, rfl, rfl, rfl, trivial⟩, rfl, by rw [List.take_zero, List.append_nil]; ((try simp only [star_assoc, emp_star, star_emp]); (repeat' (first | exact Ent.last | refine Ent.take ?_ | refine Ent.nilT ?_ | refine Ent.takeR (by first | rfl | assumption | (simp; done)) ?_ | exact Ent.refl _)))⟩
        · rintro k3 τ ⟨i, vs3, last3, hik, hl3, rfl⟩
          rcases Nat.lt_or_ge i F.length with hlt3 | hge3
          · obtain ⟨⟨ft, fb⟩, hz3⟩ : ∃ z, F[i]? = some z := ⟨_, List.getElem?_eq_getElem hlt3⟩
            obtain ⟨p, hpe, hpa⟩ := hA.frame i _ hz3
            cases hpe
            have hdec := hpa.dec
            have hol := Pk.out_le' p
            generalize p.out = fb at *
            have p4 := fun v => mdecode_spec w0 fb hol v (rows 5 1 byteC v fb)
            simp only [mdecV, decH, hdec, Option.getD_some, Option.isSome_some, if_true, Pk.val, Pk.cells] at p4
            obtain ⟨ttl, kind, hops, unknown, id, dst, destSeq, from_, fromSeq, life, lost, payload⟩ := p
            obtain ⟨_, hkind, hsrc, hseq⟩ := hpa
            simp only at hkind hsrc hseq p4
            subst hkind
            subst hsrc
            have hgt : ¬ fromSeq ≤ last3 := by rw [UInt32.le_iff_toNat_le]; omega
            have hEi : E[i]? = some now' := by
              obtain ⟨e, he⟩ : ∃ e, E[i]? = some e := ⟨_, List.getElem?_eq_getElem (by omega)⟩
              rw [he, hA.news e (List.mem_of_getElem? he)]
            have htk : T ++ E.take (i + 1) = (T ++ E.take i) ++ [now'] := by rw [List.take_add_one, hEi, Option.toList_some, List.append_assoc]
            obtain ⟨S, hS⟩ : ∃ S, S = T ++ E.take i := ⟨_, rfl⟩
            have hSl : S.length = T.length + i := by rw [hS]; simp; omega
            rw [← hS] at htk ⊢
            have hSl2 : (S ++ [now']).length = S.length + 1 := by simp
            have hrt : RateOk (S ++ [now']) := by
              intro a x y hx hy
              rw [← htk] at hx hy
              have hsub : ∀ (q : Nat) (z : UInt64), (T ++ E.take (i + 1))[q]? = some z → (T ++ E)[q]? = some z := by
                intro q z hqz
                rcases Nat.lt_or_ge q T.length with h1 | h1
                · rw [List.getElem?_append_left h1] at hqz ⊢; exact hqz
                · rw [List.getElem?_append_right h1] at hqz ⊢
                  rw [List.getElem?_take] at hqz
                  split at hqz
                  · exact hqz
                  · cases hqz
              exact hlo2.rate a x y (hsub _ _ hx) (hsub _ _ hy)
            have hlast' : (S ++ [now'])[S.length]? = some now' := by simp
            have hff : ((0 : UInt32), fb).1 = 0 := rfl
            by_cases hm : 5 < (S ++ [now']).length
            · obtain ⟨a, ha⟩ : ∃ a, (S ++ [now'])[S.length - 5]? = some a := ⟨_, List.getElem?_eq_getElem (by omega)⟩
              have hra := hrt (S.length - 5) a now' ha (by rw [show S.length - 5 + 5 = S.length by omega]; exact hlast')
              have hng : ¬ now' < a + 1000 := by
                rw [UInt64.lt_iff_toNat_lt, UInt64.toNat_add]
                have : (1000 : UInt64).toNat = 1000 := rfl
                omega
              have hm' : (5 : Int) < ((S ++ [now']).length : Int) := by omega
              haveI : AsNat (((S ++ [now']).length : Int) - 1 - 5) (S.length - 5) := ⟨by omega⟩
              repeat' (first | (refine WS_seqK ?_; intro K hK) | (refine hK _ ?_; clear hK K) | (with_reducible (first | refine thenS_n ?_ | refine thenS_e ?_ | refine blockS_n ?_ | refine blockS_e ?_ | refine blockS_o rfl ?_ | refine thenS_r ?_ | refine blockS_r ?_ | refine use_K (by assumption) ?_)) | refine WS_region ?_ | refine LS_nil ?_ | (show LS _ _ _ _ _ (⟨_, _, _, _, _, some _⟩ :: _) _; first | refine LS_wantT rfl rfl iI rfl ?_ | refine LS_wantF rfl rfl iI rfl ?_ | refine LS_wantU rfl rfl rfl ?_ | ((first | refine LS_wantS rfl rfl rfl ?_ ?_ | refine LS_wantN rfl ?_ ?_) <;> intro hc <;> (try simp only [decide_eq_true_eq, decide_eq_false_iff_not, Bool.not_eq_eq_eq_not, Bool.not_true, Bool.not_false, Bool.and_eq_true, Bool.or_eq_true, bne_iff_ne, beq_iff_eq, ne_eq, Decidable.not_not] at hc) <;> (try (exfalso; first | contradiction | omega; done)))) | ((refine' LQ ?zh rfl ?_); case zh => intro F'; first | exact Q_move rfl | exact Q_assign rfl | exact Q_fieldAddr rfl iI rfl | exact Q_load rfl iI iI rfl | exact Q_bin_t rfl rfl iI (by first | assumption | omega | decide) | exact Q_bin_f rfl rfl iI (by first | assumption | omega | decide) | exact Q_bin_nf rfl rfl iI (by first | assumption | omega | decide) | exact Q_addI rfl rfl (by omega) | exact Q_subI rfl rfl (by omega) | exact Q_extract rfl rfl | exact Q_pick_t rfl iI rfl | exact Q_pick_f rfl iI rfl | exact Q_index rfl rfl iI iI iI iI (by first | assumption | omega | (simp [be_length] <;> omega)) | exact Q_fieldR rfl iI iI rfl (by first | assumption | omega | (simp [be_length] <;> omega)) | exact Q_loadR rfl iI iI iI (by assumption) rfl | exact Q_lenR rfl iI iI) | ((refine' LQ ?zh rfl ?_); case zh => intro F'; exact Q_bin rfl rfl iI) | ((refine' LS_h ?zh rfl ?_); (case zh => exact H_alloc iI); intro g) | ((refine' LS_h0 ?zh ?_); (case zh => exact H_storeAO rfl rfl iI iI iI rfl); intro g) | (first | refine WS_block ?_ | refine WS_skip ?_ | refine WS_ret ?_ | refine WS_exit ?_ | refine WS_label ?_) | (show WS _ _ _ (.cond _ _ _) _ _; first | refine WS_condT rfl iI ?_ | refine WS_condF rfl iI ?_ | refine WS_condH_t rfl (by assumption) ?_ | refine WS_condH_f rfl (by assumption) ?_ | (refine WS_cond rfl ?_ ?_ <;> intro hc <;> (try simp only [decide_eq_true_eq, decide_eq_false_iff_not, Bool.not_eq_eq_eq_not, Bool.not_true, Bool.not_false, Bool.and_eq_true, Bool.or_eq_true, bne_iff_ne, beq_iff_eq, ne_eq, Decidable.not_not] at hc) <;> (try (exfalso; first | contradiction | omega; done)))) | (refine LS_h (H_convB rfl iI iI iI (by first | omega | (simp [be_length] <;> omega))) rfl ?_; intro vb) | (refine LS_h (H_callX iI rfl (p4 vb) iI) rfl ?_; intro vl) | (refine LS_h (H_buildSliceR wrd64C [now'] iI iI iI rfl rfl rfl rfl rfl iI rfl rfl rfl) rfl ?_; intro vn) | (refine LS_h (H_appendR rfl rfl iI iI rfl iI iI wrd64C_one (by first | omega | (simp [be_length] <;> omega)) rfl) rfl ?_; intro vs4))
              exact ⟨k3 - 1, _, by omega, ⟨i + 1, vs4, _, by omega, by omega, rfl⟩, ⟨rfl, rfl, rfl, rfl, rfl, rfl, rfl, rfl, trivial⟩, rfl, by rw [htk]; ((try simp only [star_assoc, emp_star, star_emp]); (repeat' (first | exact Ent.last | refine Ent.take ?_ | refine Ent.nilT ?_ | refine Ent.takeR (by first | rfl | assumption | (simp; done)) ?_ | exact Ent.refl _)))⟩
            · have hm' : ¬ (5 : Int) < ((S ++ [now']).length : Int) := by omega
              repeat' (first | (refine WS_seqK ?_; intro K hK) | (refine hK _ ?_; clear hK K) | (with_reducible (first | refine thenS_n ?_ | refine thenS_e ?_ | refine blockS_n ?_ | refine blockS_e ?_ | refine blockS_o rfl ?_ | refine thenS_r ?_ | refine blockS_r ?_ | refine use_K (by assumption) ?_)) | refine WS_region ?_ | refine LS_nil ?_ | (show LS _ _ _ _ _ (⟨_, _, _, _, _, some _⟩ :: _) _; first | refine LS_wantT rfl rfl iI rfl ?_ | refine LS_wantF rfl rfl iI rfl ?_ | refine LS_wantU rfl rfl rfl ?_ | ((first | refine LS_wantS rfl rfl rfl ?_ ?_ | refine LS_wantN rfl ?_ ?_) <;> intro hc <;> (try simp only [decide_eq_true_eq, decide_eq_false_iff_not, Bool.not_eq_eq_eq_not, Bool.not_true, Bool.not_false, Bool.and_eq_true, Bool.or_eq_true, bne_iff_ne, beq_iff_eq, ne_eq, Decidable.not_not] at hc) <;> (try (exfalso; first | contradiction | omega; done)))) | ((refine' LQ ?zh rfl ?_); case zh => intro F'; first | exact Q_move rfl | exact Q_assign rfl | exact Q_fieldAddr rfl iI rfl | exact Q_load rfl iI iI rfl | exact Q_bin_t rfl rfl iI (by first | assumption | omega | decide) | exact Q_bin_f rfl rfl iI (by first | assumption | omega | decide) | exact Q_bin_nf rfl rfl iI (by first | assumption | omega | decide) | exact Q_addI rfl rfl (by omega) | exact Q_extract rfl rfl | exact Q_pick_f rfl iI rfl | exact Q_index rfl rfl iI iI iI iI (by first | assumption | omega | (simp [be_length] <;> omega)) | exact Q_fieldR rfl iI iI rfl (by first | assumption | omega | (simp [be_length] <;> omega)) | exact Q_loadR rfl iI iI iI (by assumption) rfl | exact Q_lenR rfl iI iI) | ((refine' LS_h ?zh rfl ?_); (case zh => exact H_alloc iI); intro g) | ((refine' LS_h0 ?zh ?_); (case zh => exact H_storeAO rfl rfl iI iI iI rfl); intro g) | (first | refine WS_block ?_ | refine WS_skip ?_ | refine WS_ret ?_ | refine WS_exit ?_ | refine WS_label ?_) | (show WS _ _ _ (.cond _ _ _) _ _; first | refine WS_condT rfl iI ?_ | refine WS_condF rfl iI ?_ | refine WS_condH_t rfl (by assumption) ?_ | refine WS_condH_f rfl (by assumption) ?_ | (refine WS_cond rfl ?_ ?_ <;> intro hc <;> (try simp only [decide_eq_true_eq, decide_eq_false_iff_not, Bool.not_eq_eq_eq_not, Bool.not_true, Bool.not_false, Bool.and_eq_true, Bool.or_eq_true, bne_iff_ne, beq_iff_eq, ne_eq, Decidable.not_not] at hc) <;> (try (exfalso; first | contradiction | omega; done)))) | (refine LS_h (H_convB rfl iI iI iI (by first | omega | (simp [be_length] <;> omega))) rfl ?_; intro vb) | (refine LS_h (H_callX iI rfl (p4 vb) iI) rfl ?_; intro vl) | (refine LS_h (H_buildSliceR wrd64C [now'] iI iI iI rfl rfl rfl rfl rfl iI rfl rfl rfl) rfl ?_; intro vn) | (refine LS_h (H_appendR rfl rfl iI iI rfl iI iI wrd64C_one (by first | omega | (simp [be_length] <;> omega)) rfl) rfl ?_; intro vs4))
              exact ⟨k3 - 1, _, by omega, ⟨i + 1, vs4, _, by omega, by omega, rfl⟩, ⟨rfl, rfl, rfl, rfl, rfl, rfl, rfl, rfl, trivial⟩, rfl, by rw [htk]; ((try simp only [star_assoc, emp_star, star_emp]); (repeat' (first | exact Ent.last | refine Ent.take ?_ | refine Ent.nilT ?_ | refine Ent.takeR (by first | rfl | assumption | (simp; done)) ?_ | exact Ent.refl _)))⟩
          · obtain rfl : i = F.length := by omega
            rw [hE, List.take_length]
            repeat' (first | (refine WS_seqK ?_; intro K hK) | (refine hK _ ?_; clear hK K) | (with_reducible (first | refine thenS_n ?_ | refine thenS_e ?_ | refine blockS_n ?_ | refine blockS_e ?_ | refine blockS_o rfl ?_ | refine thenS_r ?_ | refine blockS_r ?_ | refine use_K (by assumption) ?_)) | refine WS_region ?_ | refine LS_nil ?_ | ((refine' LQ ?zh rfl ?_); case zh => intro F'; first | exact Q_move rfl | exact Q_assign rfl | exact Q_fieldAddr rfl iI rfl | exact Q_load rfl iI iI rfl | exact Q_bin_f rfl rfl iI (by first | assumption | omega | decide) | exact Q_addI rfl rfl (by omega) | exact Q_lenR rfl iI iI) | (first | refine WS_block ?_ | refine WS_skip ?_ | refine WS_ret ?_ | refine WS_exit ?_ | refine WS_label ?_) | (show WS _ _ _ (.cond _ _ _) _ _; first | refine WS_condT rfl iI ?_ | refine WS_condF rfl iI ?_ | refine WS_condH_t rfl (by assumption) ?_ | refine WS_condH_f rfl (by assumption) ?_ | (refine WS_cond rfl ?_ ?_ <;> intro hc <;> (try simp only [decide_eq_true_eq, decide_eq_false_iff_not, Bool.not_eq_eq_eq_not, Bool.not_true, Bool.not_false, Bool.and_eq_true, Bool.or_eq_true, bne_iff_ne, beq_iff_eq, ne_eq, Decidable.not_not] at hc) <;> (try (exfalso; first | contradiction | omega; done)))))
            exact ⟨k - 1, _, by omega, ⟨j + 1, vs3, s2, T ++ E, now', last3, by omega, hlo2, hre2, by omega, fun h => absurd h (by omega), fun _ => hpos, by rw [List.length_append]; omega, rfl⟩, ⟨rfl, rfl, rfl, rfl, rfl, rfl, trivial⟩, rfl, by ((try simp only [star_assoc, emp_star, star_emp]); (repeat' (first | exact Ent.last | refine Ent.take ?_ | refine Ent.nilT ?_ | refine Ent.takeR (by first | rfl | assumption | (simp; done)) ?_ | exact Ent.refl _)))⟩
    · obtain rfl : j = L.length := by omega
      have hT0 := hj1 hL0
      have hT0' : (0 : Int) < (T.length : Int) := by omega
      repeat' (first | (refine WS_seqK ?_; intro K hK) | (refine hK _ ?_; clear hK K) | (with_reducible (first | refine thenS_n ?_ | refine thenS_e ?_ | refine blockS_n ?_ | refine blockS_e ?_ | refine blockS_o rfl ?_ | refine thenS_r ?_ | refine blockS_r ?_ | refine use_K (by assumption) ?_)) | refine WS_region ?_ | refine LS_nil ?_ | ((refine' LQ ?zh rfl ?_); case zh => intro F'; first | exact Q_move rfl | exact Q_assign rfl | exact Q_bin_t rfl rfl iI (by first | assumption | omega | decide) | exact Q_bin_f rfl rfl iI (by first | assumption | omega | decide) | exact Q_lenR rfl iI iI) | (first | refine WS_block ?_ | refine WS_skip ?_ | refine WS_ret ?_ | refine WS_exit ?_ | refine WS_label ?_) | (show WS _ _ _ (.cond _ _ _) _ _; first | refine WS_condT rfl iI ?_ | refine WS_condF rfl iI ?_ | refine WS_condH_t rfl (by assumption) ?_ | refine WS_condH_f rfl (by assumption) ?_ | (refine WS_cond rfl ?_ ?_ <;> intro hc <;> (try simp only [decide_eq_true_eq, decide_eq_false_iff_not, Bool.not_eq_eq_eq_not, Bool.not_true, Bool.not_false, Bool.and_eq_true, Bool.or_eq_true, bne_iff_ne, beq_iff_eq, ne_eq, Decidable.not_not] at hc) <;> (try (exfalso; first | contradiction | omega; done)))))
      exact ret_tmp (.inl rfl) rfl rfl ⟨(), rfl, by ((try simp only [star_assoc, emp_star, star_emp]); (repeat' (first | exact Ent.last | refine Ent.take ?_ | refine Ent.nilT ?_ | refine Ent.takeR (by first | rfl | assumption | (simp; done)) ?_ | exact Ent.refl _)))⟩
end Go.Proofs.YtapoehkdnglahaaGreat

/- What is asked of a node, as an argument. -/
namespace Go.Proofs.YtapoehkdnglahaaGreat
open Go.ChangeShapes Go.WideShapes Go.ChangeAt Go.RowKit Go.Deep
set_option linter.unusedVariables false
set_option linter.unusedSectionVars false
theorem dec_ask : Dec 72 askC (fun _ _ => True) := fun {H enc w base spare held n c y} h => by
  obtain ⟨hl, ys, m, _, _, hf⟩ := struct_cells Tryz.underlying72 (by kernel_rfl) (by kernel_rfl) h
  obtain ⟨v0, y0, e0, _, t0⟩ := hf 0 _ rfl
  obtain ⟨v1, y1, e1, _, t1⟩ := hf 1 _ rfl
  obtain ⟨v2, y2, e2, _, t2⟩ := hf 2 _ rfl
  obtain ⟨a0, q0, _⟩ := dec_u32 Tryz.underlying34 t0
  obtain ⟨a1, q1, _⟩ := dec_u64 Tryz.underlying35 t1
  obtain ⟨a2, q2, _⟩ := dec_bool Tryz.underlying4 t2
  refine ⟨(a0, a1, a2), ?_, trivial⟩
  simp only [u32C, u64C, boolC, List.cons.injEq, and_true] at q0 q1 q2
  subst q0; subst q1; subst q2
  match c, hl with
  | [c0, c1, c2], _ => simp at e0 e1 e2; subst e0; subst e1; subst e2; rfl
end Go.Proofs.YtapoehkdnglahaaGreat

/- Proved: 'mesh/meshkeep.Rated' returns true, whatever the input, and leaves it alone; there are no conditions. -/
namespace Go.Proofs.YtapoehkdnglahaaGreat.rated
open Go.ChangeShapes Go.WideShapes Go.ChangeAt Go.RowKit Go.Proofs.YtapoehkdnglahaaGreat
set_option linter.unusedVariables false
set_option linter.unusedSectionVars false

theorem own : ownKnob Tryz.prog.godebug = none := by kernel_rfl
set_option maxRecDepth 100000 in
theorem lifted (os : Os) (started : os.Started) (H : Type) (enc : TypeId × Value → H) :
    ReturnsInHanded {} Tryz.checked os 5 .any (Rows.ratedSpec.pre6 enc Tryz.prog Tryz.f5 Rows.ratedRow.domain false) (Rows.ratedSpec.post enc Tryz.prog Tryz.f5 false true false false) := by
  refine returnsInHanded_of_change (C := Tryz.checked) own started (by kernel_rfl) Tryz.func5
    (ChangeSpec.witness6 (enc := enc) (C := Tryz.checked) false ⟨#[], #[.slice none 0 0], []⟩ 8 (by kernel_rfl) (by kernel_rfl) (by kernel_rfl) (by kernel_rfl)) ?_
  intro W base args ds gs before hval0 hW hcnd _
  have hval : ∀ (j : Nat) t v, Tryz.f5.params[j]? = some t → args[j]? = some v → Value.okWide Tryz.prog W .any base t v := hval0
  have hW' := hW
  obtain ⟨p, q, hA0, hV, rfl, hfz, hnd⟩ := hW
  have hA : DataW.TrodAll enc Tryz.prog W 0 (fun _ => true) true Tryz.f5.params.toList args.toList ds p := hA0
  rw [Tryz.params5] at hA hval
  clear hA0 hval0
  obtain ⟨v0, r0, d0, e0, p0, q0, hargs, rfl, rfl, h0, hA⟩ := trodAll_cons hA
  obtain ⟨rfl, rfl, rfl⟩ := trodAll_nil hA
  obtain rfl : args = #[v0] := by cases args; simp_all
  obtain ⟨rfl, rfl⟩ := trodVars_none hV
  simp only [List.append_nil] at hW'
  have hlt0 : ∀ x ∈ p0, x.block < W.heap.size := fun x hx => by simpa using hW'.lt x (by simp [hx])
  have hb0 : ∀ (W' : World), Below W.heap.size W W' → DataW.Trod enc Tryz.prog W' 0 (fun b => decide (b < W.heap.size)) true 61 v0 d0 p0 := fun W' hn => Below.trod laid (by kernel_rfl) (of_decide_eq_true (by kernel_rfl)) h0 hn hlt0
  have main : Calls Tryz.prog 5 #[v0] W fun e w' => e = .returned (.bool true) ∧ Below W.heap.size W w' := by
    obtain ⟨A, n0, c0, rfl⟩ := okWide_slice Tryz.underlying61 (hval 0 61 v0 rfl rfl)
    obtain ⟨l, hR, _⟩ := arg_slice (f := askC) (size := 3) (fun _ => rfl) (by decide) Tryz.underlying61 (by kernel_rfl) dec_ask h0
    have hR' := hR.rdr
    by_cases hb : 4096 < l.length
    · exact (rated_big W l hb _ (old W)).law
    · exact (rated_walk W l (by omega) _ (old W)).law
  refine main.mono fun e W' ⟨he, hb⟩ => ?_
  subst he
  refine ⟨_, rfl, _, _, _, [], p0, [], hW', ?_, ?_, rfl, hb.frame _, fun h => by cases h⟩
  · exact trodAll_mk1 (shut_bool Tryz.underlying4 _)
  · exact trodAll_mk1 (hb0 _ hb)

theorem over : Rows.ratedRow.holds Tryz.pinned (OpenSpec.ofChange Rows.ratedSpec) :=
  OpenClaim.holds_of_wide 5 Tryz.f5 rfl rfl rfl rfl rfl rfl rfl ⟨rfl, rfl, rfl, rfl, rfl⟩ rfl rfl rfl rfl rfl (by kernel_rfl) Tryz.func5 (by kernel_rfl)
    (of_decide_eq_true (by kernel_rfl)) (by unfold Func.isWrapper; first | (rw [if_pos (by decide +kernel)]; kernel_rfl) | (rw [if_neg (by decide +kernel)]; exact ⟨rfl, rfl⟩))
    (fun os started H enc _ => lifted os started H enc)

theorem proved : Rows.RatedSaid := over
end Go.Proofs.YtapoehkdnglahaaGreat.rated

