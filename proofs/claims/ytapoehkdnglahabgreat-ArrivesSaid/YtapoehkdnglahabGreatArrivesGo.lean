/- A part of what Arrives needs. -/
import Derived.Test.YtapoehkdnglahabGreatArrivesGn
set_option maxHeartbeats 16000000
set_option linter.unusedVariables false
set_option linter.unusedSimpArgs false
set_option linter.unusedSectionVars false
namespace Go.Proofs.YtapoehkdnglahabGreat
section
open Go.RowKit
section
variable {P : Program} {n : Frm} {w0 : World} {E : Env} {D : List Deferred} {H F : HProp} {Q : Exit → St → Prop} {d : Option Tmp} {ty : TypeId} {pos : String} {after : Array Edge} {gu : Option (Nat × Bool)} {x y : Operand}
instance eqlSliceNil {t e : TypeId} {A : Option Addr} {m c : Nat} [h : Und P t (.slice e)] : BinV P .eql t (.slice A m c) (.slice none 0 0) (.bool A.isNone) := ⟨fun w => by
 simp only [binOp]
 simp [run_equal_slice_nil w t e A m c h.eq], fun w _ _ => by rfl⟩
theorem WS_formN {α : Type} {e : TypeId} {size : Nat} {f : α → List Value} {l : List α} {c : Code} (v : Value) (hl : RowsOf H v α e size f l F) (h : ∀ A cap, v = .slice A l.length cap → (A = none → l = []) → WS P n w0 c Q ⟨E, D, H⟩) : WS P n w0 c Q ⟨E, D, H⟩ := fun a w g => by
 have hs := g.sat.cast hl.eq
 unfold rows at hs
 obtain ⟨_, ⟨A, hv, h0, _⟩ | ⟨g', off, cap, cur, fr, hv, h1, h2, _⟩⟩ := hs.slc_cases
 ·have : l = [] := List.eq_nil_of_length_eq_zero h0
  exact h A 0 (by rw [hv, h0]) (fun _ => this) a w g
 ·exact h _ cap hv (fun e => by cases e) a w g
theorem Q_indexArr {t et : TypeId} {len size g off : Nat} {q : IntKind} {i : Int} {k : Nat} (hx : E.ev x = some (ptr g off)) (hy : E.ev y = some (.int q i)) (hi : AsNat i k) (ht : Und P t (.array len et)) (hs : Siz P et size) (hk : k < len) : OpQ P n w0 ⟨d, .indexAddr t x y, ty, pos, after, gu⟩ E H (ptr g (off + k * size)) := fun a w s hs' => by
 obtain rfl := hi.eq
 obtain ⟨i0, hi0, hi1⟩ := Option.map_eq_some_iff.1 hs.eq
 have hel : P.elem t = et := by simp [Program.elem, ht.eq]
 have hal : P.arrayLen t = len := by simp [Program.arrayLen, ht.eq]
 have ht' : P.underlying t = some (.array (P.arrayLen t) (P.elem t)) := by rw [ht.eq, hel, hal]
 have hz : (sizeOf et).run P w = .ok size w := by simp [sizeOf, typeInfo, hi0, hi1]
 have hr := run_indexAt_array (P := P) (w := w) t ⟨g, off, none⟩ q (k : Int) ht'
 rw [if_pos (by rw [hal]; omega), hel, hz] at hr
 have hr' : (Instr.indexAt t (ptr g off) (.int q (k : Int))).run P w = .ok (ptr g (off + k * size)) w := by
  rw [show ptr g off = .pointer (some ⟨g, off, none⟩) from rfl, hr]
  simp [add_lit]
 simp only [execOp, s.ev hx, s.ev hy, Sem.run_bind, hr', Result.andThen_ok, Sem.run_pure]
end
theorem hear_get (m : Ms) (h : MH) {i j : Nat} (hi : i < 6) (hj : j < 6) : getL (mshC m h) (0 + 2 + i * 6 + j * 1) = some (.bool (m.hear i j)) := by
 have a : i = 0 ∨ i = 1 ∨ i = 2 ∨ i = 3 ∨ i = 4 ∨ i = 5 := by omega
 have b : j = 0 ∨ j = 1 ∨ j = 2 ∨ j = 3 ∨ j = 4 ∨ j = 5 := by omega
 rcases a with rfl | rfl | rfl | rfl | rfl | rfl <;> rcases b with rfl | rfl | rfl | rfl | rfl | rfl <;> rfl
attribute [local irreducible] WS LS OpQ OpT OpH OpTQ Spec SpecQ cel
variable (w0 : World)
set_option maxRecDepth 100000 in
theorem cloneF_spec (v : Value) (l : List Fl) (hl : l.length ≤ 1000) : Spec Tryz.prog w0 42 [v] (rows 114 3 flC v l) (fun v' : Value => v') (fun v' => rows 114 3 flC v' l * rows 114 3 flC v l) := by
  refine Spec.enter Tryz.func42 rfl Tryz.ntmps42 rfl fun G => ?_
  refine WS_formN v iI fun A cap hv hn => ?_
  subst hv
  simp only [argE]
  cases A with
  | none =>
    have := hn rfl
    subst this
    repeat' (first | (refine WS_seqK ?_; intro K hK) | (refine hK _ ?_; clear hK K) | refine stZ ?_ | (refine s2Z ?_ ?_ <;> intro hc <;> (try simp only [cS] at hc) <;> (try (exfalso; first | contradiction | omega))) | refine sqZ ?_ | ((refine' LQ ?zh rfl ?_); case zh => intro F'; exact Q_bin rfl rfl iI))
    exact ret_tmp (.inl rfl) rfl rfl ⟨_, rfl, finE⟩
  | some a =>
    repeat' (first | (refine WS_seqK ?_; intro K hK) | (refine hK _ ?_; clear hK K) | refine stZ ?_ | (refine s2Z ?_ ?_ <;> intro hc <;> (try simp only [cS] at hc) <;> (try (exfalso; first | contradiction | omega))) | refine sqZ ?_ | ((refine' LQ ?zh rfl ?_); case zh => intro F'; exact Q_bin rfl rfl iI) | (refine LS_h (H_buildSlice0R flC iI iI) rfl ?_; intro v2) | (refine LS_h (H_appendR rfl rfl iI iI rfl iI iI flC_one (by first | omega | (simp [be_length] <;> omega)) rfl) rfl ?_; intro v3))
    exact ret_tmp (.inl rfl) rfl rfl ⟨_, rfl, finE⟩
set_option maxRecDepth 100000 in
theorem fly_spec (g : Nat) (m : Ms) (h : MH) (f : Fl) (hl : m.air.length ≤ 48) : Spec Tryz.prog w0 86 [ptr g 0, .agg (flC f).toArray] (cel g 108 (mshC m h) * rows 114 3 flC h.va m.air) (fun _ : Value => .tuple #[]) (fun va => cel g 108 (mshC (m.fly f) { h with va := va }) * rows 114 3 flC va (m.fly f).air) := by
  refine Spec.enter Tryz.func86 rfl Tryz.ntmps86 rfl fun G => ?_
  have hl2 : (m.air ++ [f]).length = m.air.length + 1 := by simp
  have p1 := fun v => delete_spec w0 v (m.air ++ [f]) 0 (by omega) (by omega)
  have hair : (m.fly f).air = if 48 < (m.air ++ [f]).length then (m.air ++ [f]).eraseIdx 0 else m.air ++ [f] := rfl
  simp only [mshC, flC, argE, Ms.fly]
  by_cases hm : 48 < (m.air ++ [f]).length
  · rw [if_pos hm] at hair ⊢
    have hm' : (48 : Int) < ((m.air ++ [f]).length : Int) := by omega
    repeat' (first | (show WS _ _ _ (.region 1 _ true) _ _; first | refine WS_drawK (.range 11) 7 [4, 5] (by decide +kernel) rfl ?_ | refine WS_drawN 0 3 (.range 11) 10 [4] (by decide +kernel) rfl rfl rfl iI iI ?_) | (refine WS_seqK ?_; intro K hK) | (refine hK _ ?_; clear hK K) | refine stZ ?_ | (refine s2Z ?_ ?_ <;> intro hc <;> (try simp only [cS] at hc) <;> (try (exfalso; first | contradiction | omega))) | refine sbZ ?_ | refine sqZ ?_ | (refine shZ ?_; intro g) | (refine s0Z ?_; intro g) | (refine DL_h (H_buildSliceR flC [f] iI iI iI rfl rfl rfl rfl rfl iI rfl rfl rfl) rfl rfl rfl ?_; intro vx) | (refine DL_h (H_appendR rfl rfl iI iI rfl iI iI flC_one (by first | omega | (simp [be_length] <;> omega)) rfl) rfl rfl rfl ?_; intro va) | (refine LS_h (H_callX iI rfl (p1 _) iI) rfl ?_; intro v5))
    exact ret_none (.inr rfl) rfl ⟨v5, rfl, finE⟩
  · rw [if_neg hm] at hair ⊢
    have hm' : ¬ (48 : Int) < ((m.air ++ [f]).length : Int) := by omega
    repeat' (first | (show WS _ _ _ (.region 1 _ true) _ _; first | refine WS_drawK (.range 11) 7 [4, 5] (by decide +kernel) rfl ?_ | refine WS_drawN 0 3 (.range 11) 10 [4] (by decide +kernel) rfl rfl rfl iI iI ?_) | (refine WS_seqK ?_; intro K hK) | (refine hK _ ?_; clear hK K) | refine stZ ?_ | (refine s2Z ?_ ?_ <;> intro hc <;> (try simp only [cS] at hc) <;> (try (exfalso; first | contradiction | omega))) | refine sbZ ?_ | refine sqZ ?_ | (refine shZ ?_; intro g) | (refine s0Z ?_; intro g) | (refine DL_h (H_buildSliceR flC [f] iI iI iI rfl rfl rfl rfl rfl iI rfl rfl rfl) rfl rfl rfl ?_; intro vx) | (refine DL_h (H_appendR rfl rfl iI iI rfl iI iI flC_one (by first | omega | (simp [be_length] <;> omega)) rfl) rfl rfl rfl ?_; intro va))
    exact ret_none (.inr rfl) rfl ⟨va, rfl, finE⟩
def evBare (i e : Int) : ES := (⟨i, e, OutD.zero⟩, (none, 0, 0), (none, 0, 0), (none, 0, 0))
set_option maxRecDepth 100000 in
theorem refuse_spec (g : Nat) (m : Ms) (h : MH) (el : List ES) (i e : Int) (hl : el.length ≤ 900000) : Spec Tryz.prog w0 88 [ptr g 0, .int .i64 i, .int .i64 e] (cel g 108 (mshC m h) * rows 68 7 evC h.ve el) (fun _ : Value => .tuple #[]) (fun ve => cel g 108 (mshC m { h with ve := ve }) * rows 68 7 evC ve (el ++ [evBare i e])) := by
  refine Spec.enter Tryz.func88 rfl Tryz.ntmps88 rfl fun G => ?_
  simp only [mshC, argE]
  repeat' (first | refine stZ ?_ | refine sqZ ?_ | (refine s0Z ?_; intro g) | (refine LS_h (H_buildSliceR evC [evBare i e] iI iI iI rfl rfl rfl rfl rfl iI rfl rfl rfl) rfl ?_; intro vx) | (refine LS_h (H_appendR rfl rfl iI iI rfl iI iI evC_one (by first | omega | (simp [be_length] <;> omega)) rfl) rfl ?_; intro va))
  exact ret_none (.inr rfl) rfl ⟨va, rfl, finE⟩
set_option maxRecDepth 100000 in
theorem ststop_spec (b gn : Nat) (vj : Value) (s : Sta) : Spec Tryz.prog w0 90 [ptr b 0] (staB b gn vj s) (fun _ : Unit => .tuple #[]) (fun _ => staB b gn vj s.stop) := by
  refine Spec.enter Tryz.func90 rfl Tryz.ntmps90 rfl fun G => ?_
  simp only [staB, staC, Sta.stop, ptrN, staN, argE]
  repeat' (first | refine stZ ?_ | refine sqZ ?_ | (refine s0Z ?_; intro g))
  exact ret_none (.inr rfl) rfl ⟨(), rfl, finE⟩
set_option maxRecDepth 100000 in
theorem torn_spec (b gn : Nat) (vj : Value) (s : Sta) (o : OutD) (v : Value × Value × Value) (hj : s.journal.length + o.journal.length ≤ 900000) (ht : 0 ≤ s.tear ∧ s.tear ≤ 9223372036854775807) : Spec Tryz.prog w0 141 [ptr b 0, outA o v] (staB b gn vj s) (fun _ : Value => .bool (s.tears o)) (fun vj' => staB b gn vj' (if s.tears o then s.torn o else s)) := by
  refine Spec.enter Tryz.func141 rfl Tryz.ntmps141 rfl fun G => ?_
  have p1 := fun vj' s' => ststop_spec w0 b gn vj' s'
  obtain ⟨addr, node, journal, tear, armed⟩ := s
  obtain ⟨J, R, fr, cm, dr⟩ := o
  simp only at hj ht
  simp only [outA, argE]
  cases armed with
  | false =>
    simp only [staB, staC, Sta.tears, Bool.false_and, Bool.false_eq_true, if_false]
    repeat' (first | (refine WS_seqK ?_; intro K hK) | (refine hK _ ?_; clear hK K) | refine stZ ?_ | (refine s2Z ?_ ?_ <;> intro hc <;> (try simp only [cS] at hc) <;> (try (exfalso; first | contradiction | omega))) | refine sqZ ?_ | (refine shZ ?_; intro g))
    exact ret_tmp (.inl rfl) rfl rfl ⟨vj, rfl, finE⟩
  | true =>
    cases J with
    | nil =>
      simp only [staB, staC, Sta.tears, List.isEmpty_nil, Bool.not_true, Bool.and_false, Bool.false_eq_true, if_false]
      repeat' (first | (refine WS_seqK ?_; intro K hK) | (refine hK _ ?_; clear hK K) | refine stZ ?_ | (refine s2Z ?_ ?_ <;> intro hc <;> (try simp only [cS] at hc) <;> (try (exfalso; first | contradiction | omega))) | refine sbZ ?_ | refine sqZ ?_ | (refine shZ ?_; intro g))
      exact ret_tmp (.inl rfl) rfl rfl ⟨vj, rfl, finE⟩
    | cons j0 J' =>
      obtain ⟨J, hJ⟩ : ∃ J, J = j0 :: J' := ⟨_, rfl⟩
      have hne : ¬ J = [] := by rw [hJ]; simp
      have ht : Sta.tears ⟨addr, node, journal, tear, true⟩ ⟨j0 :: J', R, fr, cm, dr⟩ = true := rfl
      rw [ht]
      simp only [if_true]
      rw [← hJ] at hj ⊢
      have hJl : 0 < J.length := by rw [hJ]; simp
      obtain ⟨kk, hkk⟩ : ∃ kk, kk = (min tear (J.length : Int)).toNat := ⟨_, rfl⟩
      haveI : AsNat (min tear (J.length : Int)) kk := ⟨by omega⟩
      have hkl : kk ≤ J.length := by omega
      cases R with
      | true =>
        have p2 := p1 vj ⟨addr, node, journal, tear, true⟩
        simp only [staB, staC, Sta.torn, Sta.stop, if_true] at p2 ⊢
        repeat' (first | (refine WS_seqK ?_; intro K hK) | (refine hK _ ?_; clear hK K) | refine stZ ?_ | (refine s2Z ?_ ?_ <;> intro hc <;> (try simp only [cS] at hc) <;> (try (exfalso; first | contradiction | omega))) | refine sbZ ?_ | refine sqZ ?_ | (refine shZ ?_; intro g) | (refine LS_h (H_callX iI rfl p2 iI) rfl ?_; intro u2))
        exact ret_tmp (.inl rfl) rfl rfl ⟨vj, rfl, finE⟩
      | false =>
        have p2 := fun vj' => p1 vj' ⟨addr, node, journal ++ J.take kk, tear, true⟩
        simp only [staB, staC, Sta.torn, Sta.stop, Sta.part, Bool.false_eq_true, if_false, ← hkk] at p2 ⊢
        repeat' (first | (show WS _ _ _ (.region 4 _ true) _ _; first | refine WS_drawK (.range 20) 16 [4, 6, 10, 12, 13, 14, 15] (by decide +kernel) rfl ?_ | refine WS_drawN 0 3 (.range 20) 19 [4, 10] (by decide +kernel) rfl rfl rfl iI iI ?_) | (refine WS_seqK ?_; intro K hK) | (refine hK _ ?_; clear hK K) | refine stZ ?_ | (refine s2Z ?_ ?_ <;> intro hc <;> (try simp only [cS] at hc) <;> (try (exfalso; first | contradiction | omega))) | refine sbZ ?_ | refine sqZ ?_ | ((first | refine' LQ ?zh rfl ?_ | refine' DL_qp rfl rfl rfl ?zh ?_ | refine' DL_q rfl rfl ?zh ?_); case zh => intro F'; exact Q_sliceS_h rfl rfl iI iI (by first | assumption | omega)) | (refine shZ ?_; intro g) | (refine s0Z ?_; intro g) | (refine LS_h (H_callX iI rfl (p2 va) iI) rfl ?_; intro u2) | (refine DL_h (H_appendS rfl rfl iI rfl iI iI (by first | omega | (simp [be_length] <;> omega)) rfl) rfl rfl rfl ?_; intro va))
        exact ret_tmp (.inl rfl) rfl rfl ⟨va, rfl, finE⟩
set_option maxRecDepth 100000 in
theorem station_spec (g : Nat) (m : Ms) (h : MH) (i b : Nat) (hb : h.bs[i]? = some b) (hl : h.bs.length ≤ 6) : Spec Tryz.prog w0 43 [ptr g 0, .int .i64 (i : Int)] (cel g 108 (mshC m h) * rows 115 1 ptrC h.vs h.bs) (fun _ : Unit => ptr b 0) (fun _ => cel g 108 (mshC m h) * rows 115 1 ptrC h.vs h.bs) := by
  refine Spec.enter Tryz.func43 rfl Tryz.ntmps43 rfl fun G => ?_
  have hlt := (List.getElem?_eq_some_iff.1 hb).1
  have h1 : ¬ (i : Int) < 0 := by omega
  have h2 : ¬ (h.bs.length : Int) ≤ (i : Int) := by omega
  obtain ⟨vs, bs, r, va, ve⟩ := h
  simp only at hb hl hlt h2
  simp only [mshC, argE]
  repeat' (first | (refine WS_seqK ?_; intro K hK) | (refine hK _ ?_; clear hK K) | refine stZ ?_ | (refine s2Z ?_ ?_ <;> intro hc <;> (try simp only [cS] at hc) <;> (try (exfalso; first | contradiction | omega))) | refine sbZ ?_ | refine sqZ ?_)
  exact ret_tmp (.inl rfl) rfl rfl ⟨(), rfl, finE⟩
set_option maxRecDepth 100000 in
theorem stationNo_spec (g : Nat) (m : Ms) (h : MH) (i : Int) (hi : i < 0 ∨ (h.bs.length : Int) ≤ i) (hl : h.bs.length ≤ 6) : Spec Tryz.prog w0 43 [ptr g 0, .int .i64 i] (cel g 108 (mshC m h) * rows 115 1 ptrC h.vs h.bs) (fun _ : Unit => .pointer none) (fun _ => cel g 108 (mshC m h) * rows 115 1 ptrC h.vs h.bs) := by
  refine Spec.enter Tryz.func43 rfl Tryz.ntmps43 rfl fun G => ?_
  obtain ⟨vs, bs, r, va, ve⟩ := h
  simp only at hi hl
  simp only [mshC, argE]
  by_cases h1 : i < 0
  · repeat' (first | (refine WS_seqK ?_; intro K hK) | (refine hK _ ?_; clear hK K) | refine stZ ?_ | (refine s2Z ?_ ?_ <;> intro hc <;> (try simp only [cS] at hc) <;> (try (exfalso; first | contradiction | omega))) | refine sbZ ?_ | refine sqZ ?_)
    exact ret_tmp (.inl rfl) rfl rfl ⟨(), rfl, finE⟩
  · have h2 : (bs.length : Int) ≤ i := by omega
    repeat' (first | (refine WS_seqK ?_; intro K hK) | (refine hK _ ?_; clear hK K) | refine stZ ?_ | (refine s2Z ?_ ?_ <;> intro hc <;> (try simp only [cS] at hc) <;> (try (exfalso; first | contradiction | omega))) | refine sbZ ?_ | refine sqZ ?_)
    exact ret_tmp (.inl rfl) rfl rfl ⟨(), rfl, finE⟩
end

section
open Go.RowKit
section
variable {P : Program} {n : Frm} {w0 : World} {E : Env} {D : List Deferred} {H F : HProp} {c : Code} {Q : Exit → St → Prop}
theorem WS_outR {o : OutD} {v : Value × Value × Value} (hl : Own H (outR o v) F) (h : ∀ A1 c1 A2 c2 A3 c3, v = (.slice A1 o.frames.length c1, .slice A2 o.came.length c2, .slice A3 o.dropped.length c3) → WS P n w0 c Q ⟨E, D, H⟩) : WS P n w0 c Q ⟨E, D, H⟩ := fun a w gd => by
 have h1 := gd.sat.cast hl.eq
 unfold outR at h1
 rw [star_assoc, star_assoc] at h1
 obtain ⟨A1, c1, e1⟩ := rows_form h1
 obtain ⟨A2, c2, e2⟩ := rows_form (h1.cast (star_left_comm _ _ _))
 obtain ⟨A3, c3, e3⟩ := rows_form (h1.cast ((congrArg _ (star_left_comm _ _ _)).trans (star_left_comm _ _ _)))
 exact h A1 c1 A2 c2 A3 c3 (by rw [← e1, ← e2, ← e3]) a w gd
end
theorem amap_eq : ∀ (l m : List Sta) (k : Nat), l.map (·.addr) = m.map (·.addr) → amap k l = amap k m
 | [], [], _, _ => rfl
 | a :: l, b :: m, k, h => by
  simp only [List.map_cons, List.cons.injEq] at h
  simp only [amap, h.1, amap_eq l m (k + 1) h.2]
 | [], _ :: _, _, h => by simp at h
 | _ :: _, [], _, h => by simp at h
theorem amap_mod (m : Ms) (i : Nat) {f : Sta → Sta} (hf : ∀ s, (f s).addr = s.addr) : amap 0 (m.sts.modify i f) = amap 0 m.sts := amap_eq _ _ 0 (Ms.Kept.mod (m := m) (i := i) hf).addrs
attribute [local irreducible] WS LS OpQ OpT OpH OpTQ Spec SpecQ cel
variable (w0 : World)
set_option maxRecDepth 100000 in
theorem emitR_spec (gm : Nat) (k : MH) (sub : Ms → OutD → Ms) (i b c B : Nat) (hB : B ≤ 899000) (hb : k.bs[i]? = some b) (m : Ms) (el : List ES) (o : OutD) (v : Value × Value × Value) (s : Sta) (hs : m.sts[i]? = some s) (hso : s.Says o c) (hpk : ∀ f ∈ o.frames, f.2.length ≤ 100000) (hfl : o.frames.length ≤ 100000) (hair : m.AirOk) (hevs : m.evs.length + o.frames.length + 2 ≤ B) (h6 : m.sts.length ≤ 6)
    (hsubD : ∀ f ∈ o.frames, f.1 ≠ 0 → ∀ (m' : Ms) (s' : Sta) (t : Nd), m.Kept m' i → m'.sts[i]? = some s' → s'.Sound c → s'.node = some t → m'.Did (sub (m'.mod i (·.run (t.brkF m'.now f.1))) (t.brkF m'.now f.1).out) i c 1)
    (hsub : ∀ f ∈ o.frames, f.1 ≠ 0 → ∀ (m' : Ms) (el' : List ES) (s' : Sta) (t : Nd) (v' : Value × Value × Value), m.Kept m' i → m'.sts[i]? = some s' → s'.Sound c → s'.node = some t → m'.AirOk → m'.evs.length ≤ B → Spec Tryz.prog w0 85 [ptr gm 0, .int .i64 (i : Int), outA (t.brkF m'.now f.1).out v'] (mshA gm k (m'.mod i (·.run (t.brkF m'.now f.1))) el' * outR (t.brkF m'.now f.1).out v') (fun _ : List ES => .tuple #[]) (fun new => mshA gm k (sub (m'.mod i (·.run (t.brkF m'.now f.1))) (t.brkF m'.now f.1).out) (el' ++ new) * evsO new)) :
    Spec Tryz.prog w0 85 [ptr gm 0, .int .i64 (i : Int), outA o v] (mshA gm k m el * outR o v) (fun _ : List ES => .tuple #[]) (fun new => mshA gm k (Ms.emitR sub i m o) (el ++ new) * evsO new) := by
  refine Spec.enter Tryz.func85 rfl Tryz.ntmps85 rfl fun G => ?_
  rw [star_assoc (mshA _ _ _ _)]
  refine WS_outR (o := o) (v := v) iI fun A1 c1 A2 c2 A3 c3 hv => ?_
  subst hv
  have hi := (List.getElem?_eq_some_iff.1 hs).1
  have hjl : s.journal.length + o.journal.length ≤ 900 := by
    obtain ⟨n, h1, h2, h3, h4, h5⟩ := hso.node
    have h6 := recsB_24 h2
    have h7 := hso.jour
    have h8 := congrArg List.length h4
    rw [List.length_append] at h8
    omega
  have hemit : Ms.emitR sub i m o = if o.none then m else if s.tears o then (m.mod i (·.torn o)).event ⟨i, 0, OutD.zero⟩ else o.frames.foldl (Ms.frameO sub i) ((m.mod i (·.write o)).event ⟨i, 0, o⟩) := by
    unfold Ms.emitR
    rw [hs]
  by_cases ho : o.none = true
  · rw [if_pos ho] at hemit
    rw [hemit]
    have hos : o.journal = [] ∧ o.frames = [] ∧ o.came = [] ∧ o.dropped = [] := by
      unfold OutD.none at ho
      simp only [Bool.and_eq_true, List.isEmpty_iff] at ho
      exact ⟨ho.1.1.1, ho.1.1.2, ho.1.2, ho.2⟩
    obtain ⟨J, Rp, fr, cm, dr⟩ := o
    obtain ⟨rfl, rfl, rfl, rfl⟩ := hos
    simp only [outA, argE]
    repeat' (first | (refine WS_seqK ?_; intro K hK) | (refine hK _ ?_; clear hK K) | refine stZ ?_ | (refine s2Z ?_ ?_ <;> intro hc <;> (try simp only [cS] at hc) <;> (try (exfalso; first | contradiction | omega))) | refine sbZ ?_ | refine sqZ ?_ | (refine shZ ?_; intro g))
    exact ret_none (.inl rfl) rfl ⟨[], rfl, by rw [List.append_nil, evsO, star_emp]; exact finE⟩
  rw [if_neg ho] at hemit
  refine WS_msh fun va ve hel => ?_
  refine WS_mlen fun hbl => ?_
  obtain ⟨R, e1, e2⟩ := stas_open hbl hb hs
  refine WS_sta e1 fun gn vj => ?_
  have p1 := torn_spec w0 b gn vj s o (.slice A1 o.frames.length c1, .slice A2 o.came.length c2, .slice A3 o.dropped.length c3) (by omega) hso.tear
  obtain ⟨J, Rp, fr, cm, dr⟩ := o
  simp only [outA, outR, argE] at p1 ⊢
  simp only at hpk hfl hevs hsubD hsub hjl hemit ho
  unfold mshS
  simp only [mshC]
  repeat' (first | (show WS _ _ _ (.seq (.seq (.region 1 _ _) _) _) _ _; refine WS_mid (fun τ => ∃ g5 : Nat, τ = ⟨[(5, ptr g5 0), (0, ptr gm 0), (0 + 1, .int .i64 (i : Int))], [], cel g5 35 [strV J, .bool Rp, .slice A1 fr.length c1, .slice A2 cm.length c2, .slice A3 dr.length c3] * (mshS gm m k va ve el b gn vj s R * (outR ⟨J, Rp, fr, cm, dr⟩ (.slice A1 fr.length c1, .slice A2 cm.length c2, .slice A3 dr.length c3) * G))⟩) ?_ ?_) | (refine WS_seqK ?_; intro K hK) | (refine hK _ ?_; clear hK K) | refine stZ ?_ | (refine s2Z ?_ ?_ <;> intro hc <;> (try simp only [cS] at hc) <;> (try (exfalso; first | contradiction | omega))) | refine sqZ ?_ | ((first | refine LS_binS rfl rfl iI rfl ?_ ?_ | refine LS_binN rfl rfl iI rfl ?_ ?_ | refine DL_binS rfl rfl iI rfl ?_ ?_) <;> intro hc) | (refine shZ ?_; intro g))
  rotate_left 1
  iterate 4 (exact ⟨_, ⟨g, rfl⟩, ⟨rfl, rfl, rfl, trivial⟩, rfl, by unfold mshS; simp only [mshC, outR]; exact finE⟩)
  rotate_left 1
  · exfalso
    apply ho
    have q1 : fr = [] := List.eq_nil_of_length_eq_zero (by omega)
    have q2 : cm = [] := List.eq_nil_of_length_eq_zero (by omega)
    have q3 : dr = [] := List.eq_nil_of_length_eq_zero (by omega)
    have q4 : J = [] := by assumption
    rw [q1, q2, q3, q4]
    rfl
  · rintro τ ⟨g5, rfl⟩
    have hbl6 : k.bs.length ≤ 6 := by omega
    have hell : el.length = m.evs.length := by rw [← hel]; simp
    have hilt : i < k.bs.length := by omega
    unfold mshS
    simp only [mshC]
    cases htr : s.tears ⟨J, Rp, fr, cm, dr⟩ with
    | true =>
      rw [htr] at p1 hemit
      simp only [if_true] at p1 hemit
      rw [hemit]
      repeat' (first | (refine WS_seqK ?_; intro K hK) | (refine hK _ ?_; clear hK K) | refine stZ ?_ | (refine s2Z ?_ ?_ <;> intro hc <;> (try simp only [cS] at hc) <;> (try (exfalso; first | contradiction | omega))) | refine sqZ ?_ | (refine s0Z ?_; intro g) | (refine LS_h (H_callX iI rfl p1 iI) rfl ?_; intro vj2) | (refine LS_h (H_buildSliceR evC [evBare (i : Int) 0] iI iI iI rfl rfl rfl rfl rfl iI rfl rfl rfl) rfl ?_; intro vx) | (refine LS_h (H_appendR rfl rfl iI iI rfl iI iI evC_one (by first | omega | (simp [be_length] <;> omega)) rfl) rfl ?_; intro va2))
      refine ret_none (.inl rfl) rfl ⟨[evBare (i : Int) 0], rfl, ?_⟩
      rw [star_assoc (mshA _ _ _ _)]
      refine Ent.msh va va2 (by rw [List.map_append, hel]; rfl) ?_
      refine Ent.sta gn vj2 (e2 _) ?_
      unfold mshS
      simp only [mshC, Ms.event, Ms.mod, amap_mod m i fun s => Sta.torn_addr s ⟨J, Rp, fr, cm, dr⟩, evsO, evO, outR, evBare, svV, slV', OutD.zero, star_emp]
      exact finE
    | false =>
      rw [htr] at p1 hemit
      simp only [Bool.false_eq_true, if_false] at p1 hemit
      rw [hemit]
      clear hemit
      simp only [staB, staC] at p1 ⊢
      repeat' (first | (show WS _ _ _ (.seq (.seq (.region 5 _ _) _) _) _ _; refine WS_mid (fun τ => ∃ vj3 : Value, τ = ⟨[(6, ptr b 0), (5, ptr g5 0), (0, ptr gm 0), (0 + 1, .int .i64 (i : Int))], [], cel g5 35 [strV J, .bool Rp, .slice A1 fr.length c1, .slice A2 cm.length c2, .slice A3 dr.length c3] * (mshS gm m k va ve el b gn vj3 { s with journal := if Rp then [] else s.journal } R * (outR ⟨J, Rp, fr, cm, dr⟩ (.slice A1 fr.length c1, .slice A2 cm.length c2, .slice A3 dr.length c3) * G))⟩) ?_ ?_) | (refine WS_seqK ?_; intro K hK) | (refine hK _ ?_; clear hK K) | refine stZ ?_ | (refine s2Z ?_ ?_ <;> intro hc <;> (try simp only [cS] at hc) <;> (try (exfalso; first | contradiction | omega))) | refine sqZ ?_ | (refine s0Z ?_; intro g) | (refine LS_h (H_callX iI rfl p1 iI) rfl ?_; intro vj2))
      rotate_left 2
      · rintro τ ⟨vj3, rfl⟩
        unfold mshS
        simp only [mshC, staB, staC, outR]
        have hJ0 : (if Rp = true then [] else s.journal).length ≤ 900 := (by split <;> (try simp only [List.length_nil]) <;> omega)
        repeat' (first | (show WS _ _ _ (.region 7 _ true) _ _; first | refine WS_drawK (.range 11) 7 [4, 6] (by decide +kernel) rfl ?_ | refine WS_drawN 6 5 (.range 11) 10 [4] (by decide +kernel) rfl rfl rfl iI iI ?_) | (show WS _ _ _ (.region 8 _ true) _ _; first | refine WS_drawK (.range 13) 9 [4, 6] (by decide +kernel) rfl ?_ | refine WS_drawN 0 5 (.range 13) 12 [4] (by decide +kernel) rfl rfl rfl iI iI ?_) | (refine WS_seqK ?_; intro K hK) | (refine hK _ ?_; clear hK K) | refine stZ ?_ | refine sqZ ?_ | (refine s0Z ?_; intro g) | (refine DL_h (H_appendS rfl rfl iI rfl iI iI (by first | omega | (simp [be_length] <;> omega)) rfl) rfl rfl rfl ?_; intro vj4) | (refine DL_h (H_buildSliceR evC [((⟨(i : Int), 0, ⟨J, Rp, fr, cm, dr⟩⟩, (A1, fr.length, c1), (A2, cm.length, c2), (A3, dr.length, c3)) : ES)] iI iI iI rfl rfl rfl rfl rfl iI rfl rfl rfl) rfl rfl rfl ?_; intro vx) | (refine DL_h (H_appendR rfl rfl iI iI rfl iI iI evC_one (by first | omega | (simp [be_length] <;> omega)) rfl) rfl rfl rfl ?_; intro ve4))
        obtain ⟨x, hx⟩ : ∃ x : ES, x = ((⟨(i : Int), 0, ⟨J, Rp, fr, cm, dr⟩⟩, (A1, fr.length, c1), (A2, cm.length, c2), (A3, dr.length, c3)) : ES) := ⟨_, rfl⟩
        obtain ⟨m1, hm1⟩ : ∃ m1, m1 = (m.mod i (·.write ⟨J, Rp, fr, cm, dr⟩)).event ⟨i, 0, ⟨J, Rp, fr, cm, dr⟩⟩ := ⟨_, rfl⟩
        have hk1 : m.Kept m1 i := by rw [hm1]; exact (Ms.Kept.mod (f := fun x => x.write ⟨J, Rp, fr, cm, dr⟩) fun s => rfl).trans (Ms.Kept.event _ _ _)
        have hs1 : m1.sts[i]? = some (s.write ⟨J, Rp, fr, cm, dr⟩) := by rw [hm1]; exact Ms.mod_at hs
        have hair1 : m1.AirOk := by
          refine ⟨by rw [hm1]; exact hair.few, fun f hf => ?_⟩
          rw [hk1.length]
          exact hair.each f (by rw [hm1] at hf; exact hf)
        have hev1 : m1.evs = m.evs ++ [⟨(i : Int), 0, ⟨J, Rp, fr, cm, dr⟩⟩] := by rw [hm1]; rfl
        have hel1 : (el ++ [x]).map (·.1) = m1.evs := by rw [List.map_append, hel, hev1, hx]; rfl
        rw [← hm1]
        refine WS_loop (fun kk τ => ∃ (j : Nat) (mj : Ms) (new : List ES), j + kk = fr.length ∧ mj = (fr.take j).foldl (Ms.frameO sub i) m1 ∧ m.Kept mj i ∧ (∃ sj, mj.sts[i]? = some sj ∧ sj.Sound c) ∧ mj.AirOk ∧ mj.evs.length ≤ m.evs.length + 1 + j ∧ τ = ⟨[(84, .int .i64 (j : Int)), (83, .int .i64 (fr.length : Int)), (82, .slice A1 fr.length c1), (6, ptr b 0), (0, ptr gm 0), (0 + 1, .int .i64 (i : Int))], [], mshA gm k mj (el ++ [x] ++ new) * (evsO new * (rows 48 2 txtC (.slice A1 fr.length c1) fr * (rows 70 2 txtC (.slice A2 cm.length c2) cm * (rows 166 1 intC (.slice A3 dr.length c3) dr * G))))⟩) ?_ ?_
        · refine ⟨fr.length, _, ⟨0, m1, [], by omega, rfl, hk1, ⟨_, hs1, hso.wrote⟩, hair1, by rw [hev1]; simp, rfl⟩, ⟨rfl, rfl, rfl, rfl, rfl, rfl, trivial⟩, rfl, ?_⟩
          rw [List.append_nil]
          refine Ent.msh va ve4 hel1 ?_
          refine Ent.sta gn vj4 (by rw [hm1]; exact e2 _) ?_
          have ham : amap 0 m1.sts = amap 0 m.sts := amap_eq _ _ 0 hk1.addrs
          have hma : m1.air = m.air := by rw [hm1]; rfl
          unfold mshS
          simp only [mshC, ham, hma, hk1.hears, hk1.now, evsO, emp_star, staB, staC, Sta.write, hx]
          exact finE
        · rintro kk τ ⟨j, mj, new, hjk, hmj, hkj, ⟨sj, hsj, hsoj⟩, hairj, hevj, rfl⟩
          rcases Nat.lt_or_ge j fr.length with hlt | hge
          · obtain ⟨⟨to, fb⟩, hz⟩ : ∃ z, fr[j]? = some z := ⟨_, List.getElem?_eq_getElem hlt⟩
            have hfm := List.mem_of_getElem? hz
            have hfb := hpk _ hfm
            have hnext := Ms.Did.frame (sub := sub) (n := 1) hsj hsoj (to, fb) hfb fun hz t ht => hsubD _ hfm hz mj sj t hkj hsj hsoj ht
            have htk : (fr.take (j + 1)).foldl (Ms.frameO sub i) m1 = Ms.frameO sub i mj (to, fb) := by rw [List.take_add_one, hz, Option.toList_some, List.foldl_append, ← hmj]; rfl
            have hD1 := hkj.trans hnext.kept
            have hD2 := hnext.here
            have hD3 := hnext.air hairj
            have hD4 := hnext.evs
            have hlj : mj.sts.length = m.sts.length := hkj.length
            simp only at hfb
            clear hnext hmj hm1 hk1 hs1 hair1 hev1 hel1
            refine WS_msh fun va1 ve1 helj => ?_
            refine WS_mlen fun hblj => ?_
            by_cases hto : to = 0
            · subst hto
              have hfo : Ms.frameO sub i mj ((0 : UInt32), fb) = Ms.castN i fb mj.sts.length mj := by unfold Ms.frameO; rw [if_pos rfl]
              rw [hfo] at hD1 hD2 hD3 hD4 htk
              have hcast := fun q hq => Ms.castN_keep (m := mj) (i := i) (b := fb) (by omega) hfb q hq
              have h00 : ((0 : UInt32), fb).1 = 0 := rfl
              simp only [mshP, mshC]
              repeat' (first | (show WS _ _ _ (.region 12 _ true) _ _; refine WS_drawA (.range 12) (by decide +kernel) rfl ?_) | (refine WS_seqK ?_; intro K hK) | (refine hK _ ?_; clear hK K) | refine stZ ?_ | (refine s2Z ?_ ?_ <;> intro hc <;> (try simp only [cS] at hc) <;> (try (exfalso; first | contradiction | omega))) | refine sqZ ?_ | ((first | refine' LQ ?zh rfl ?_ | refine' DL_q rfl rfl ?zh ?_); case zh => intro F'; first | exact Q_bin_t rfl rfl iI (by first | assumption | omega | decide | rfl) | exact Q_lookupOk rfl rfl iI iI iI iI iI) | ((refine' LS_h0 ?zh ?_); (case zh => exact H_storeA rfl rfl iI iI (by first | rfl | (simp only [List.all_cons, List.all_nil, *]; rfl)) rfl); intro g) | (refine LS_h (H_alloc iI) rfl ?_; intro g8))
              refine WS_loop (fun k3 τ => ∃ (q : Nat) (va' : Value), q + k3 = mj.sts.length ∧ τ = ⟨[(107, .int .i64 (q : Int)), (106, .int .i64 (k.bs.length : Int)), (8, ptr g8 0), (84, .int .i64 (j : Int)), (83, .int .i64 (fr.length : Int)), (82, .slice A1 fr.length c1), (6, ptr b 0), (0, ptr gm 0), (0 + 1, .int .i64 (i : Int))], [], cel gm 108 (mshC (Ms.castN i fb q mj) ⟨k.vs, k.bs, k.r, va', ve1⟩) * (rows 114 3 flC va' (Ms.castN i fb q mj).air * (cel g8 48 [u32 0, strV fb] * (rows 115 1 ptrC k.vs k.bs * (mp u32 i64 k.r (amap 0 mj.sts) * (stasQ k.bs mj.sts * (rows 68 7 evC ve1 (el ++ [x] ++ new) * (evsO new * (rows 48 2 txtC (.slice A1 fr.length c1) fr * (rows 70 2 txtC (.slice A2 cm.length c2) cm * (rows 166 1 intC (.slice A3 dr.length c3) dr * G))))))))))⟩) ?_ ?_
              · exact ⟨mj.sts.length, _, ⟨0, va1, by omega, rfl⟩, ⟨rfl, rfl, rfl, rfl, rfl, rfl, rfl, rfl, rfl, trivial⟩, rfl, by simp only [Ms.castN, mshC]; exact finE⟩
              · rintro k3 τ ⟨q, va', hqk, rfl⟩
                obtain ⟨q1, q2, q3, q4, q5⟩ := hcast q (by omega)
                rcases Nat.lt_or_ge q mj.sts.length with hltq | hgeq
                · have hq6 : (q : Int) < (k.bs.length : Int) := by omega
                  have hstep : Ms.castN i fb (q + 1) mj = if (Ms.castN i fb q mj).hear i q then (Ms.castN i fb q mj).fly ⟨i, q, fb⟩ else Ms.castN i fb q mj := rfl
                  have hairq := (q5 hairj).few
                  generalize Ms.castN i fb q mj = mq at *
                  have hg := hear_get mq ⟨k.vs, k.bs, k.r, va', ve1⟩ (i := i) (j := q) (by omega) (by omega)
                  have p7 := fly_spec w0 gm mq ⟨k.vs, k.bs, k.r, va', ve1⟩ ⟨i, q, fb⟩ hairq
                  simp only [flC] at p7
                  have hi6 : i < 6 := by omega
                  have hq66 : q < 6 := by omega
                  cases hh : mq.hear i q with
                  | true =>
                    rw [hh] at hg hstep
                    simp only [if_true] at hstep
                    repeat' (first | (refine WS_seqK ?_; intro K hK) | (refine hK _ ?_; clear hK K) | refine stZ ?_ | (refine s2Z ?_ ?_ <;> intro hc <;> (try simp only [cS] at hc) <;> (try (exfalso; first | contradiction | omega))) | ((refine' LQ ?zh rfl ?_); case zh => intro F'; first | exact Q_move rfl | exact Q_assign rfl | exact Q_nilCheck rfl | exact Q_fieldAddr rfl iI rfl | exact Q_load rfl iI iI rfl | exact Q_bin_t rfl rfl iI (by first | assumption | omega | decide | rfl) | exact Q_addI rfl rfl (by omega) | exact Q_build iI iI rfl rfl) | (refine' LQ ?zh rfl ?_; (case zh => intro F'; exact Q_indexArr rfl rfl iI iI iI (by assumption))) | (refine' LQ ?zh rfl ?_; (case zh => intro F'; exact Q_load rfl iI iI (by assumption))) | (refine LS_h (H_callX iI rfl p7 iI) rfl ?_; intro va2))
                    exact ⟨k3 - 1, _, by omega, ⟨q + 1, va2, by omega, rfl⟩, ⟨rfl, rfl, rfl, rfl, rfl, rfl, rfl, rfl, rfl, trivial⟩, rfl, by rw [hstep]; exact finE⟩
                  | false =>
                    rw [hh] at hg hstep
                    simp only [Bool.false_eq_true, if_false] at hstep
                    repeat' (first | (refine WS_seqK ?_; intro K hK) | (refine hK _ ?_; clear hK K) | refine stZ ?_ | (refine s2Z ?_ ?_ <;> intro hc <;> (try simp only [cS] at hc) <;> (try (exfalso; first | contradiction | omega))) | ((refine' LQ ?zh rfl ?_); case zh => intro F'; first | exact Q_move rfl | exact Q_assign rfl | exact Q_nilCheck rfl | exact Q_fieldAddr rfl iI rfl | exact Q_bin_t rfl rfl iI (by first | assumption | omega | decide | rfl) | exact Q_addI rfl rfl (by omega)) | (refine' LQ ?zh rfl ?_; (case zh => intro F'; exact Q_indexArr rfl rfl iI iI iI (by assumption))) | (refine' LQ ?zh rfl ?_; (case zh => intro F'; exact Q_load rfl iI iI (by assumption))))
                    exact ⟨k3 - 1, _, by omega, ⟨q + 1, va', by omega, rfl⟩, ⟨rfl, rfl, rfl, rfl, rfl, rfl, rfl, rfl, rfl, trivial⟩, rfl, by rw [hstep]; exact finE⟩
                · obtain rfl : q = mj.sts.length := by omega
                  have hq6 : ¬ (mj.sts.length : Int) < (k.bs.length : Int) := by omega
                  repeat' (first | (refine WS_seqK ?_; intro K hK) | (refine hK _ ?_; clear hK K) | refine stZ ?_ | (refine s2Z ?_ ?_ <;> intro hc <;> (try simp only [cS] at hc) <;> (try (exfalso; first | contradiction | omega))) | refine sqZ ?_ | ((refine' LQ ?zh rfl ?_); case zh => intro F'; exact Q_bin_f rfl rfl iI (by first | assumption | omega | decide | rfl)))
                  refine ⟨kk - 1, _, by omega, ⟨j + 1, Ms.castN i fb mj.sts.length mj, new, by omega, htk.symm, hD1, hD2, hD3, by omega, rfl⟩, ⟨rfl, rfl, rfl, rfl, rfl, rfl, trivial⟩, rfl, ?_⟩
                  refine Ent.msh va' ve1 (by rw [q4]; exact helj) ?_
                  simp only [mshP, q1]
                  exact finE
            · have hto' : ¬ (to, fb).1 = 0 := hto
              have hget := amap_get to mj.sts 0
              have hi6 : i < 6 := by omega
              obtain ⟨R2, e3, e4⟩ := stas_open hblj hb hsj
              refine WS_sta e3 fun gn2 vj5 => ?_
              unfold mshS
              have hfo : ¬ (((stFind mj.sts to).map fun j => mj.hear i j) = some true) → Ms.frameO sub i mj (to, fb) = match sj.node with | some s => sub (mj.mod i (·.run (s.brkF mj.now to))) (s.brkF mj.now to).out | none => mj := fun h => by
                unfold Ms.frameO
                rw [if_neg hto, if_neg h, hsj]
                rfl
              have hfy : ∀ jj, stFind mj.sts to = some jj → mj.hear i jj = true → Ms.frameO sub i mj (to, fb) = mj.fly ⟨i, jj, fb⟩ := fun jj h1 h2 => by
                unfold Ms.frameO
                rw [if_neg hto, if_pos (by rw [h1]; simp [h2]), h1]
                rfl
              simp only [mshC, staB, staC]
              cases hst : stFind mj.sts to with
              | none =>
                rw [hst] at hget
                simp only [Option.map_none] at hget
                have hfo' := hfo (by rw [hst]; simp)
                cases hn : sj.node with
                | none =>
                  rw [hn] at hfo'
                  simp only at hfo'
                  rw [hfo'] at hD1 hD2 hD3 hD4 htk
                  simp only [hn, ptrN, staN]
                  repeat' (first | (show WS _ _ _ (.region 12 _ true) _ _; refine WS_drawA (.range 12) (by decide +kernel) rfl ?_) | (refine WS_seqK ?_; intro K hK) | (refine hK _ ?_; clear hK K) | refine stZ ?_ | (refine s2Z ?_ ?_ <;> intro hc <;> (try simp only [cS] at hc) <;> (try (exfalso; first | contradiction | omega))) | refine sqZ ?_ | ((first | refine' LQ ?zh rfl ?_ | refine' DL_q rfl rfl ?zh ?_); case zh => intro F'; first | exact Q_bin_t rfl rfl iI (by first | assumption | omega | decide | rfl) | exact Q_bin_f rfl rfl iI (by first | assumption | omega | decide | rfl) | exact Q_lookupOk_n rfl rfl iI iI iI iI iI (by assumption)) | ((refine' LQ ?zh rfl ?_); case zh => intro F'; exact Q_bin rfl rfl iI) | ((refine' LS_h0 ?zh ?_); (case zh => exact H_storeA rfl rfl iI iI (by first | rfl | (simp only [List.all_cons, List.all_nil, *]; rfl)) rfl); intro g) | (refine LS_h (H_alloc iI) rfl ?_; intro g8))
                  refine ⟨kk - 1, _, by omega, ⟨j + 1, mj, new, by omega, htk.symm, hD1, hD2, hD3, by omega, rfl⟩, ⟨rfl, rfl, rfl, rfl, rfl, rfl, trivial⟩, rfl, ?_⟩
                  refine Ent.msh va1 ve1 helj ?_
                  refine Ent.sta gn2 vj5 e3 ?_
                  unfold mshS
                  simp only [mshC, staB, staC, hn, ptrN, staN]
                  exact finE
                | some tn =>
                  rw [hn] at hfo'
                  simp only at hfo'
                  rw [hfo'] at hD1 hD2 hD3 hD4 htk
                  have hrt := (hsoj.node tn hn).1
                  have p7 := nbroken_spec w0 gn2 tn mj.now to hrt
                  have p8 := fun v' => (hsub (to, fb) hfm hto mj (el ++ [x] ++ new) sj tn v' hkj hsj hsoj hn hairj (by omega)).conv (X' := cel gm 108 (mshC mj ⟨k.vs, k.bs, k.r, va1, ve1⟩) * (rows 115 1 ptrC k.vs k.bs * (mp u32 i64 k.r (amap 0 mj.sts) * (cel b 118 (staC (sj.run (tn.brkF mj.now to)) gn2 vj5) * (rows 5 1 byteC vj5 sj.journal * (nodI gn2 (tn.brkF mj.now to) * (R2 * (rows 114 3 flC va1 mj.air * (rows 68 7 evC ve1 (el ++ [x] ++ new) * outR (tn.brkF mj.now to).out v')))))))))
                    (fun Z => by
                      rw [star_assoc (mshA _ _ _ _)]
                      refine Ent.msh va1 ve1 helj ?_
                      refine Ent.sta gn2 vj5 (e4 _) ?_
                      unfold mshS
                      rw [show amap 0 (mj.mod i fun y => y.run (tn.brkF mj.now to)).sts = amap 0 mj.sts from amap_mod mj i fun s => rfl]
                      simp only [mshC, Ms.mod, staB, staC, Sta.run, ptrN, staN]
                      exact finE) (fun _ _ => Ent.refl _)
                  simp only at p8
                  generalize sub (mj.mod i fun y => y.run (tn.brkF mj.now to)) (tn.brkF mj.now to).out = mn at *
                  generalize tn.brkF mj.now to = t2 at *
                  simp only [outA, mshC, staC, Sta.run, ptrN] at p7 p8
                  simp only [hn, ptrN, staN]
                  repeat' (first | (show WS _ _ _ (.region 12 _ true) _ _; refine WS_drawA (.range 12) (by decide +kernel) rfl ?_) | (show WS _ _ _ (.region 23 _ true) _ _; refine WS_drawK (.range 14) 12 [5, 9, 11] (by decide +kernel) rfl ?_) | (refine WS_seqK ?_; intro K hK) | (refine hK _ ?_; clear hK K) | refine stZ ?_ | (refine s2Z ?_ ?_ <;> intro hc <;> (try simp only [cS] at hc) <;> (try (exfalso; first | contradiction | omega))) | refine sqZ ?_ | ((first | refine' LQ ?zh rfl ?_ | refine' DL_qp rfl rfl rfl ?zh ?_ | refine' DL_q rfl rfl ?zh ?_); case zh => intro F'; first | exact Q_bin_t rfl rfl iI (by first | assumption | omega | decide | rfl) | exact Q_bin_f rfl rfl iI (by first | assumption | omega | decide | rfl) | exact Q_lookupOk_n rfl rfl iI iI iI iI iI (by assumption)) | ((refine' LQ ?zh rfl ?_); case zh => intro F'; exact Q_bin rfl rfl iI) | ((refine' LS_h0 ?zh ?_); (case zh => exact H_storeA rfl rfl iI iI (by first | rfl | (simp only [List.all_cons, List.all_nil, *]; rfl)) rfl); intro g) | (refine LS_h (H_alloc iI) rfl ?_; intro g8) | (refine DL_h (H_callX iI rfl p7 iI) rfl rfl rfl ?_; intro x7) | (refine DL_h (H_callX iI rfl (p8 x7) iI) rfl rfl rfl ?_; intro new2))
                  refine ⟨kk - 1, _, by omega, ⟨j + 1, mn, new ++ new2, by omega, htk.symm, hD1, hD2, hD3, by omega, rfl⟩, ⟨rfl, rfl, rfl, rfl, rfl, rfl, trivial⟩, rfl, ?_⟩
                  rw [show el ++ [x] ++ (new ++ new2) = el ++ [x] ++ new ++ new2 by simp, evsO_append]
                  exact finE
              | some jj =>
                obtain ⟨sx, hsx, _⟩ := stFind_lt hst
                have hjj := (List.getElem?_eq_some_iff.1 hsx).1
                have hj6 : jj < 6 := by omega
                rw [hst] at hget
                simp only [Option.map_some] at hget
                replace hget : mget (amap 0 mj.sts) to = some ((jj : Nat) : Int) := by rw [hget]; simp
                have hg := hear_get mj ⟨k.vs, k.bs, k.r, va1, ve1⟩ hi6 hj6
                simp only [mshC] at hg
                cases hh : mj.hear i jj with
                | false =>
                  rw [hh] at hg
                  have hfo' := hfo (by rw [hst]; simp [hh])
                  cases hn : sj.node with
                  | none =>
                    rw [hn] at hfo'
                    simp only at hfo'
                    rw [hfo'] at hD1 hD2 hD3 hD4 htk
                    simp only [hn, ptrN, staN]
                    repeat' (first | (show WS _ _ _ (.region 12 _ true) _ _; refine WS_drawA (.range 12) (by decide +kernel) rfl ?_) | (refine WS_seqK ?_; intro K hK) | (refine hK _ ?_; clear hK K) | refine stZ ?_ | (refine s2Z ?_ ?_ <;> intro hc <;> (try simp only [cS] at hc) <;> (try (exfalso; first | contradiction | omega))) | ((first | refine' LQ ?zh rfl ?_ | refine' DL_q rfl rfl ?zh ?_); case zh => intro F'; first | exact Q_move rfl | exact Q_assign rfl | exact Q_nilCheck rfl | exact Q_fieldAddr rfl iI rfl | exact Q_load rfl iI iI rfl | exact Q_bin_t rfl rfl iI (by first | assumption | omega | decide | rfl) | exact Q_bin_f rfl rfl iI (by first | assumption | omega | decide | rfl) | exact Q_addI rfl rfl (by omega) | exact Q_extract rfl rfl | exact Q_pick_t rfl iI rfl | exact Q_index rfl rfl iI iI iI iI (by first | assumption | omega | (simp [be_length] <;> omega)) | exact Q_loadRA rfl iI iI iI (by assumption) | exact Q_lookupOk_s rfl rfl iI iI iI iI iI (by assumption)) | ((refine' LQ ?zh rfl ?_); case zh => intro F'; exact Q_bin rfl rfl iI) | ((refine' LS_h0 ?zh ?_); (case zh => exact H_storeA rfl rfl iI iI (by first | rfl | (simp only [List.all_cons, List.all_nil, *]; rfl)) rfl); intro g) | (refine LS_h (H_alloc iI) rfl ?_; intro g8) | (refine' LQ ?zh rfl ?_; (case zh => intro F'; exact Q_indexArr rfl rfl iI iI iI (by assumption))) | (refine' LQ ?zh rfl ?_; (case zh => intro F'; exact Q_load rfl iI iI (by assumption))))
                    refine ⟨kk - 1, _, by omega, ⟨j + 1, mj, new, by omega, htk.symm, hD1, hD2, hD3, by omega, rfl⟩, ⟨rfl, rfl, rfl, rfl, rfl, rfl, trivial⟩, rfl, ?_⟩
                    refine Ent.msh va1 ve1 helj ?_
                    refine Ent.sta gn2 vj5 e3 ?_
                    unfold mshS
                    simp only [mshC, staB, staC, hn, ptrN, staN]
                    exact finE
                  | some tn =>
                    rw [hn] at hfo'
                    simp only at hfo'
                    rw [hfo'] at hD1 hD2 hD3 hD4 htk
                    have hrt := (hsoj.node tn hn).1
                    have p7 := nbroken_spec w0 gn2 tn mj.now to hrt
                    have p8 := fun v' => (hsub (to, fb) hfm hto mj (el ++ [x] ++ new) sj tn v' hkj hsj hsoj hn hairj (by omega)).conv (X' := cel gm 108 (mshC mj ⟨k.vs, k.bs, k.r, va1, ve1⟩) * (rows 115 1 ptrC k.vs k.bs * (mp u32 i64 k.r (amap 0 mj.sts) * (cel b 118 (staC (sj.run (tn.brkF mj.now to)) gn2 vj5) * (rows 5 1 byteC vj5 sj.journal * (nodI gn2 (tn.brkF mj.now to) * (R2 * (rows 114 3 flC va1 mj.air * (rows 68 7 evC ve1 (el ++ [x] ++ new) * outR (tn.brkF mj.now to).out v')))))))))
                      (fun Z => by
                        rw [star_assoc (mshA _ _ _ _)]
                        refine Ent.msh va1 ve1 helj ?_
                        refine Ent.sta gn2 vj5 (e4 _) ?_
                        unfold mshS
                        rw [show amap 0 (mj.mod i fun y => y.run (tn.brkF mj.now to)).sts = amap 0 mj.sts from amap_mod mj i fun s => rfl]
                        simp only [mshC, Ms.mod, staB, staC, Sta.run, ptrN, staN]
                        exact finE) (fun _ _ => Ent.refl _)
                    simp only at p8
                    generalize sub (mj.mod i fun y => y.run (tn.brkF mj.now to)) (tn.brkF mj.now to).out = mn at *
                    generalize tn.brkF mj.now to = t2 at *
                    simp only [outA, mshC, staC, Sta.run, ptrN] at p7 p8
                    simp only [hn, ptrN, staN]
                    repeat' (first | (show WS _ _ _ (.region 12 _ true) _ _; refine WS_drawA (.range 12) (by decide +kernel) rfl ?_) | (show WS _ _ _ (.region 23 _ true) _ _; refine WS_drawK (.range 14) 12 [5, 9, 11] (by decide +kernel) rfl ?_) | (refine WS_seqK ?_; intro K hK) | (refine hK _ ?_; clear hK K) | refine stZ ?_ | (refine s2Z ?_ ?_ <;> intro hc <;> (try simp only [cS] at hc) <;> (try (exfalso; first | contradiction | omega))) | ((first | refine' LQ ?zh rfl ?_ | refine' DL_qp rfl rfl rfl ?zh ?_ | refine' DL_q rfl rfl ?zh ?_); case zh => intro F'; first | exact Q_move rfl | exact Q_assign rfl | exact Q_nilCheck rfl | exact Q_fieldAddr rfl iI rfl | exact Q_load rfl iI iI rfl | exact Q_bin_t rfl rfl iI (by first | assumption | omega | decide | rfl) | exact Q_bin_f rfl rfl iI (by first | assumption | omega | decide | rfl) | exact Q_addI rfl rfl (by omega) | exact Q_extract rfl rfl | exact Q_pick_t rfl iI rfl | exact Q_index rfl rfl iI iI iI iI (by first | assumption | omega | (simp [be_length] <;> omega)) | exact Q_loadRA rfl iI iI iI (by assumption) | exact Q_lookupOk_s rfl rfl iI iI iI iI iI (by assumption)) | ((refine' LQ ?zh rfl ?_); case zh => intro F'; exact Q_bin rfl rfl iI) | ((refine' LS_h0 ?zh ?_); (case zh => exact H_storeA rfl rfl iI iI (by first | rfl | (simp only [List.all_cons, List.all_nil, *]; rfl)) rfl); intro g) | (refine LS_h (H_alloc iI) rfl ?_; intro g8) | (refine' LQ ?zh rfl ?_; (case zh => intro F'; exact Q_indexArr rfl rfl iI iI iI (by assumption))) | (refine' LQ ?zh rfl ?_; (case zh => intro F'; exact Q_load rfl iI iI (by assumption))) | (refine DL_h (H_callX iI rfl p7 iI) rfl rfl rfl ?_; intro x7) | (refine DL_h (H_callX iI rfl (p8 x7) iI) rfl rfl rfl ?_; intro new2))
                    refine ⟨kk - 1, _, by omega, ⟨j + 1, mn, new ++ new2, by omega, htk.symm, hD1, hD2, hD3, by omega, rfl⟩, ⟨rfl, rfl, rfl, rfl, rfl, rfl, trivial⟩, rfl, ?_⟩
                    rw [show el ++ [x] ++ (new ++ new2) = el ++ [x] ++ new ++ new2 by simp, evsO_append]
                    exact finE
                | true =>
                  rw [hh] at hg
                  rw [hfy jj hst hh] at hD1 hD2 hD3 hD4 htk
                  have p7 := fly_spec w0 gm mj ⟨k.vs, k.bs, k.r, va1, ve1⟩ ⟨i, jj, fb⟩ hairj.few
                  simp only [flC, mshC] at p7
                  repeat' (first | (show WS _ _ _ (.region 12 _ true) _ _; refine WS_drawA (.range 12) (by decide +kernel) rfl ?_) | (refine WS_seqK ?_; intro K hK) | (refine hK _ ?_; clear hK K) | refine stZ ?_ | (refine s2Z ?_ ?_ <;> intro hc <;> (try simp only [cS] at hc) <;> (try (exfalso; first | contradiction | omega))) | ((first | refine' LQ ?zh rfl ?_ | refine' DL_q rfl rfl ?zh ?_); case zh => intro F'; first | exact Q_move rfl | exact Q_assign rfl | exact Q_nilCheck rfl | exact Q_fieldAddr rfl iI rfl | exact Q_load rfl iI iI rfl | exact Q_bin_t rfl rfl iI (by first | assumption | omega | decide | rfl) | exact Q_bin_f rfl rfl iI (by first | assumption | omega | decide | rfl) | exact Q_addI rfl rfl (by omega) | exact Q_extract rfl rfl | exact Q_pick_t rfl iI rfl | exact Q_build iI iI rfl rfl | exact Q_index rfl rfl iI iI iI iI (by first | assumption | omega | (simp [be_length] <;> omega)) | exact Q_loadRA rfl iI iI iI (by assumption) | exact Q_lookupOk_s rfl rfl iI iI iI iI iI (by assumption)) | ((refine' LS_h0 ?zh ?_); (case zh => exact H_storeA rfl rfl iI iI (by first | rfl | (simp only [List.all_cons, List.all_nil, *]; rfl)) rfl); intro g) | (refine LS_h (H_alloc iI) rfl ?_; intro g8) | (refine' LQ ?zh rfl ?_; (case zh => intro F'; exact Q_indexArr rfl rfl iI iI iI (by assumption))) | (refine' LQ ?zh rfl ?_; (case zh => intro F'; exact Q_load rfl iI iI (by assumption))) | (refine LS_h (H_callX iI rfl p7 iI) rfl ?_; intro va2))
                  refine ⟨kk - 1, _, by omega, ⟨j + 1, mj.fly ⟨i, jj, fb⟩, new, by omega, htk.symm, hD1, hD2, hD3, by omega, rfl⟩, ⟨rfl, rfl, rfl, rfl, rfl, rfl, trivial⟩, rfl, ?_⟩
                  refine Ent.msh va2 ve1 helj ?_
                  refine Ent.sta (m := mj.fly ⟨i, jj, fb⟩) gn2 vj5 e3 ?_
                  unfold mshS
                  rw [show (mj.fly ⟨i, jj, fb⟩).sts = mj.sts from rfl]
                  simp only [mshC, staB, staC]
                  exact finE
          · obtain rfl : j = fr.length := by omega
            rw [List.take_length] at hmj
            have hj1 : ¬ (fr.length : Int) < (fr.length : Int) := by omega
            repeat' (first | (refine WS_seqK ?_; intro K hK) | (refine hK _ ?_; clear hK K) | refine stZ ?_ | (refine s2Z ?_ ?_ <;> intro hc <;> (try simp only [cS] at hc) <;> (try (exfalso; first | contradiction | omega))) | refine sbZ ?_)
            refine ret_none (.inr rfl) rfl ⟨x :: new, rfl, ?_⟩
            rw [← hmj, show el ++ x :: new = el ++ [x] ++ new by simp, evsO, hx]
            simp only [evO, outR, svV, slV']
            exact finE
      · exact ⟨_, ⟨.slice none 0 0, rfl⟩, ⟨rfl, rfl, rfl, rfl, trivial⟩, rfl, by unfold mshS; simp only [mshC, staB, staC, outR, hc, if_true]; exact finE⟩
      · exact ⟨_, ⟨vj2, rfl⟩, ⟨rfl, rfl, rfl, rfl, trivial⟩, rfl, by unfold mshS; simp only [mshC, staB, staC, outR, hc, Bool.false_eq_true, if_false]; exact finE⟩
theorem emit0_spec (gm : Nat) (k : MH) (i b c : Nat) (hb : k.bs[i]? = some b) (m : Ms) (el : List ES) (o : OutD) (v : Value × Value × Value) (s : Sta) (hs : m.sts[i]? = some s) (hso : s.Says o c) (hpk : ∀ f ∈ o.frames, f.2.length ≤ 100000) (hfl : o.frames.length ≤ 100) (h0 : ∀ f ∈ o.frames, f.1 = 0) (hair : m.AirOk) (hevs : m.evs.length ≤ 890000) (h6 : m.sts.length ≤ 6) :
  Spec Tryz.prog w0 85 [ptr gm 0, .int .i64 (i : Int), outA o v] (mshA gm k m el * outR o v) (fun _ : List ES => .tuple #[]) (fun new => mshA gm k (Ms.emit0 i m o) (el ++ new) * evsO new) :=
 emitR_spec w0 gm k (fun m _ => m) i b c 899000 (by omega) hb m el o v s hs hso hpk (by omega) hair (by omega) h6 (fun f hf hz => absurd (h0 f hf) hz) (fun f hf hz => absurd (h0 f hf) hz)
theorem brkF_few (t : Nd) (now : UInt64) (nb : UInt32) : (t.brkF now nb).out.frames.length ≤ 1 := by
 have h := (Nd.Step.brk (t.begin now) nb).frames
 rw [Nd.begin_frames] at h
 obtain ⟨_, _, _, _, _, _, _, e8, _⟩ := ((t.begin now).brk nb).done_same
 unfold Nd.brkF
 rw [e8]
 simpa using h
theorem emit_spec (gm : Nat) (k : MH) (i b c : Nat) (hb : k.bs[i]? = some b) (m : Ms) (el : List ES) (o : OutD) (v : Value × Value × Value) (s : Sta) (hs : m.sts[i]? = some s) (hso : s.Says o c) (hpk : ∀ f ∈ o.frames, f.2.length ≤ 100000) (hfl : o.frames.length ≤ 100000) (hair : m.AirOk) (hevs : m.evs.length + o.frames.length + 2 ≤ 890000) (h6 : m.sts.length ≤ 6) :
  Spec Tryz.prog w0 85 [ptr gm 0, .int .i64 (i : Int), outA o v] (mshA gm k m el * outR o v) (fun _ : List ES => .tuple #[]) (fun new => mshA gm k (Ms.emit i m o) (el ++ new) * evsO new) := by
 refine emitR_spec w0 gm k (Ms.emit0 i) i b c 890000 (by omega) hb m el o v s hs hso hpk hfl hair hevs h6 (fun f hf hz m' s' t _ h1 h2 ht => ?_) (fun f hf hz m' el' s' t v' hk h1 h2 ht ha he => ?_)
 ·have hw := (h2.node t ht).1.wentBrk m'.now f.1
  exact Ms.Did.run (Ms.Did.emit0 (Ms.mod_at h1) (h2.says ht hw) hw.pks.le (Nd.brkF_all _ _ _))
 ·have hw := (h2.node t ht).1.wentBrk m'.now f.1
  have hk2 : m'.Kept (m'.mod i (·.run (t.brkF m'.now f.1))) i := Ms.Kept.mod (f := fun x => x.run (t.brkF m'.now f.1)) fun s => rfl
  refine emit0_spec w0 gm k i b c hb _ el' _ v' _ (Ms.mod_at h1) (h2.says ht hw) hw.pks.le (by have := brkF_few t m'.now f.1; omega) (Nd.brkF_all _ _ _) ⟨ha.few, fun x hx => ?_⟩ he (by rw [hk2.length, hk.length]; exact h6)
  rw [hk2.length]
  exact ha.each x hx
end

section
open Go.RowKit
structure Ms.Fine (m : Ms) (c : Nat) : Prop where
  short : m.sts.length ≤ 6
  sound : ∀ (i : Nat) s, m.sts[i]? = some s → s.Sound c
  air : m.AirOk
@[irreducible] def evB : Nat := 42501
theorem evB_eq : evB = 42501 := by unfold evB; rfl
structure Ms.Told (m mq : Ms) (q c : Nat) : Prop where
  now : mq.now = m.now
  hears : mq.hears = m.hears
  addrs : mq.sts.map (·.addr) = m.sts.map (·.addr)
  later : ∀ i, q ≤ i → mq.sts[i]? = m.sts[i]?
  sound : ∀ (i : Nat) s, mq.sts[i]? = some s → s.Sound (c + 1)
  air : mq.AirOk
  evs : mq.evs.length ≤ m.evs.length + q * evB
theorem Ms.Told.length {m mq : Ms} {q c : Nat} (h : m.Told mq q c) : mq.sts.length = m.sts.length := by
 have := congrArg List.length h.addrs
 simpa using this
theorem Ms.Told.zero {m : Ms} {c : Nat} (h : m.Fine c) : m.Told m 0 c := by
 constructor
 ·rfl
 ·rfl
 ·rfl
 ·exact fun _ _ => rfl
 ·exact fun i s hs => (h.sound i s hs).mono (Nat.le_succ c)
 ·exact h.air
 ·rw [Nat.zero_mul]; exact Nat.le_refl _
theorem Ms.tickN_told {m : Ms} {c : Nat} (h : m.Fine c) (hc : c ≤ 8500) (hn : m.now.toNat ≤ 4611686018427387904) : ∀ q, q ≤ m.sts.length → m.Told (Ms.tickN q m) q c
 | 0, _ => Ms.Told.zero h
 | q + 1, hq => by
  have ih := Ms.tickN_told h hc hn q (by omega)
  have hlater := ih.later q (Nat.le_refl _)
  obtain ⟨s, hs⟩ : ∃ s, m.sts[q]? = some s := ⟨_, List.getElem?_eq_getElem (by omega)⟩
  rw [hs] at hlater
  have hso := h.sound q s hs
  unfold Ms.tickN
  rw [hlater]
  simp only [Option.bind_some]
  cases ht : s.node with
  | none =>
   have h1 := ih.evs
   have h2 : (Ms.tickN q m).evs.length ≤ m.evs.length + (q + 1) * evB := by rw [Nat.add_mul]; omega
   exact ⟨ih.now, ih.hears, ih.addrs, fun i hi => ih.later i (by omega), ih.sound, ih.air, h2⟩
  | some t =>
   simp only
   rw [ih.now]
   have hrt := (hso.node t ht).1
   have hw := hrt.wentTick hc hn
   have hsay := (hso.mono (Nat.le_succ c)).says ht hw
   have hfr := Nd.tickF_frames hrt hc hn
   have hD := Ms.Did.run (Ms.Did.emit (Ms.mod_at (f := (·.run (t.tickF m.now))) hlater) hsay hw.pks.le)
   exact ⟨hD.kept.now.trans ih.now, hD.kept.hears.trans ih.hears, hD.kept.addrs.trans ih.addrs, fun i hi => (hD.kept.other i (by omega)).trans (ih.later i (by omega)), fun i s' hs' => by
    by_cases e : i = q
    ·subst e
     obtain ⟨s2, h1, h2⟩ := hD.here
     rw [h1] at hs'
     cases hs'
     exact h2
    ·rw [hD.kept.other i e] at hs'
     exact ih.sound i s' hs', hD.air ih.air, by have := hD.evs; have := ih.evs; have := evB_eq; rw [Nat.add_mul]; omega⟩
theorem Sta.run_tear (s : Sta) (t : Nd) : (s.run t).tear = s.tear := rfl
theorem Sta.run_armed (s : Sta) (t : Nd) : (s.run t).armed = s.armed := rfl
theorem Sta.run_journal (s : Sta) (t : Nd) : (s.run t).journal = s.journal := rfl
attribute [local irreducible] WS LS OpQ OpT OpH OpTQ Spec SpecQ cel
variable (w0 : World)
theorem emitX_spec (gm : Nat) (k : MH) (i b c : Nat) (hb : k.bs[i]? = some b) (m : Ms) (el : List ES) (o : OutD) (v : Value × Value × Value) (s : Sta) (f : Sta → Sta) (t' : Nd) (hfa : ∀ s, (f s).addr = s.addr) (hn : (f s).node = some t') (hs : m.sts[i]? = some s) (hso : (f s).Says o c) (hpk : ∀ f ∈ o.frames, f.2.length ≤ 100000) (hfl : o.frames.length ≤ 100000) (hair : m.AirOk) (hevs : m.evs.length + o.frames.length + 2 ≤ 890000) (h6 : m.sts.length ≤ 6)
  (hel : el.map (·.1) = m.evs) (R : HProp) (e2 : stasQ k.bs (m.sts.modify i f) = staP b (f s) * R) (va ve : Value) (gn : Nat) (vj : Value) :
  Spec Tryz.prog w0 85 [ptr gm 0, .int .i64 (i : Int), outA o v] (cel gm 108 (mshC m ⟨k.vs, k.bs, k.r, va, ve⟩) * (rows 115 1 ptrC k.vs k.bs * (mp u32 i64 k.r (amap 0 m.sts) * (cel b 118 [u32 s.addr, ptr gn 0, vj, .int .i64 (f s).tear, .bool (f s).armed] * (rows 5 1 byteC vj (f s).journal * (nodI gn t' * (R * (rows 114 3 flC va m.air * (rows 68 7 evC ve el * outR o v)))))))))
   (fun _ : List ES => .tuple #[]) (fun new => mshA gm k (Ms.emit i (m.mod i f) o) (el ++ new) * evsO new) := by
 have hk : m.Kept (m.mod i f) i := Ms.Kept.mod hfa
 refine (emit_spec w0 gm k i b c hb (m.mod i f) el o v (f s) (Ms.mod_at hs) hso hpk hfl ⟨hair.few, fun x hx => by rw [hk.length]; exact hair.each x hx⟩ hevs (by rw [hk.length]; exact h6)).conv (fun Z => ?_) (fun _ _ => Ent.refl _)
 rw [star_assoc (mshA _ _ _ _)]
 refine Ent.msh va ve hel ?_
 refine Ent.sta (m := m.mod i f) gn vj e2 ?_
 unfold mshS
 rw [show amap 0 (m.mod i f).sts = amap 0 m.sts from amap_mod m i hfa]
 simp only [mshC, Ms.mod, staB, staC, hn, ptrN, staN, hfa]
 exact finE
set_option maxRecDepth 100000 in
theorem mtickM_spec (gm : Nat) (k : MH) (m : Ms) (el : List ES) (n : UInt64) (c : Nat) (hf : m.Fine c) (hc : c ≤ 8500) (hn : (m.now + n).toNat ≤ 4611686018427387904) (hev : m.evs = []) : Spec Tryz.prog w0 40 [ptr gm 0, u64 n] (mshA gm k m el) (fun _ : List ES => .tuple #[]) (fun new => mshA gm k (m.tick n) (el ++ new) * evsO new) := by
  refine Spec.enter Tryz.func40 rfl Tryz.ntmps40 rfl fun G => ?_
  obtain ⟨m1, hm1⟩ : ∃ m1 : Ms, m1 = { m with now := m.now + n } := ⟨_, rfl⟩
  have htick : m.tick n = Ms.tickN m1.sts.length m1 := by rw [hm1]; rfl
  have hf1 : m1.Fine c := by rw [hm1]; exact ⟨hf.short, hf.sound, ⟨hf.air.few, hf.air.each⟩⟩
  have hn1 : m1.now.toNat ≤ 4611686018427387904 := by rw [hm1]; exact hn
  have hev1 : m1.evs = [] := by rw [hm1]; exact hev
  have h6 := hf1.short
  rw [htick]
  refine WS_msh fun va ve hel => ?_
  refine WS_mlen fun hbl => ?_
  have hbl1 : k.bs.length = m1.sts.length := by rw [hm1]; exact hbl
  have hel1 : el.map (·.1) = m1.evs := by rw [hm1]; exact hel
  simp only [mshP, mshC, argE]
  repeat' (first | (refine WS_seqK ?_; intro K hK) | (refine hK _ ?_; clear hK K) | refine stZ ?_ | refine sqZ ?_ | ((refine' LQ ?zh rfl ?_); case zh => intro F'; exact Q_bin rfl rfl iI) | (refine s0Z ?_; intro g))
  refine WS_loop (fun kk τ => ∃ (q : Nat) (new : List ES), q + kk = m1.sts.length ∧ τ = ⟨[(19, .int .i64 (q : Int)), (18, .int .i64 (k.bs.length : Int)), (17, k.vs), (0, ptr gm 0)], [], mshA gm k (Ms.tickN q m1) (el ++ new) * (evsO new * G)⟩) ?_ ?_
  · refine ⟨m1.sts.length, _, ⟨0, [], by omega, rfl⟩, ⟨rfl, rfl, rfl, rfl, trivial⟩, rfl, ?_⟩
    rw [List.append_nil]
    refine Ent.msh va ve hel1 ?_
    rw [hm1]
    simp only [Ms.tickN, mshP, mshC, evsO, emp_star]
    exact finE
  · clear hel hel1 hbl htick
    rintro kk τ ⟨q, new, hqk, rfl⟩
    have hT := Ms.tickN_told hf1 hc hn1 q (by omega)
    rcases Nat.lt_or_ge q m1.sts.length with hlt | hge
    · obtain ⟨s, hs⟩ : ∃ s, m1.sts[q]? = some s := ⟨_, List.getElem?_eq_getElem hlt⟩
      have hso := hf1.sound q s hs
      have hsq := (hT.later q (Nat.le_refl _)).trans hs
      have hstep : Ms.tickN (q + 1) m1 = match s.node with | some t => Ms.emit q ((Ms.tickN q m1).mod q (·.run (t.tickF (Ms.tickN q m1).now))) (t.tickF (Ms.tickN q m1).now).out | none => Ms.tickN q m1 := by
        show (match ((Ms.tickN q m1).sts[q]?).bind (·.node) with | some s => _ | none => _) = _
        rw [hsq]
        rfl
      rw [hT.now] at hstep
      have hlq := hT.length
      have hairq := hT.air
      have hevq := hT.evs
      have hsoq := hT.sound q s hsq
      rw [hev1, List.length_nil, Nat.zero_add, evB_eq] at hevq
      have hnq := hT.now
      clear hT
      generalize Ms.tickN q m1 = mq at *
      refine WS_msh fun va1 ve1 hel => ?_
      refine WS_mlen fun hblq => ?_
      obtain ⟨b, hb⟩ : ∃ b, k.bs[q]? = some b := ⟨_, List.getElem?_eq_getElem (by omega)⟩
      obtain ⟨R, e1, e2⟩ := stas_open hblq hb hsq
      refine WS_sta e1 fun gn vj => ?_
      unfold mshS
      have hq1 : (q : Int) < (k.bs.length : Int) := by omega
      simp only [mshC, staB, staC, hnq]
      cases ht : s.node with
      | none =>
        rw [ht] at hstep
        simp only at hstep
        simp only [ptrN, staN]
        repeat' (first | (refine WS_seqK ?_; intro K hK) | (refine hK _ ?_; clear hK K) | refine stZ ?_ | (refine s2Z ?_ ?_ <;> intro hc <;> (try simp only [cS] at hc) <;> (try (exfalso; first | contradiction | omega))) | refine sqZ ?_ | ((refine' LQ ?zh rfl ?_); case zh => intro F'; exact Q_bin_t rfl rfl iI (by first | assumption | omega | decide | rfl)) | ((refine' LQ ?zh rfl ?_); case zh => intro F'; exact Q_bin rfl rfl iI))
        refine ⟨kk - 1, _, by omega, ⟨q + 1, new, by omega, rfl⟩, ⟨rfl, rfl, rfl, rfl, trivial⟩, rfl, ?_⟩
        rw [hstep]
        refine Ent.msh va1 ve1 hel ?_
        refine Ent.sta gn vj e1 ?_
        unfold mshS
        simp only [mshC, staB, staC, ht, ptrN, staN, hnq]
        exact finE
      | some t =>
        rw [ht] at hstep
        simp only at hstep
        have hrt := (hso.node t ht).1
        have hw := hrt.wentTick hc hn1
        have hsay := (hso.mono (Nat.le_succ c)).says ht hw
        have hfr := Nd.tickF_frames hrt hc hn1
        have p1 := ntick_spec w0 gn t m1.now hrt hc hn1
        have p2 := fun v => emitX_spec w0 gm k q b (c + 1) hb mq (el ++ new) (t.tickF m1.now).out v s (·.run (t.tickF m1.now)) (t.tickF m1.now) (fun _ => rfl) rfl hsq hsay hw.pks.le (by omega) hairq (by rw [hlq] at *; omega) (by omega) hel R (e2 _) va1 ve1 gn vj
        simp only [ptrN, staN]
        generalize t.tickF m1.now = t2 at *
        simp only [outA, mshC, Sta.run_tear, Sta.run_armed, Sta.run_journal, hnq] at p1 p2
        repeat' (first | (show WS _ _ _ (.region 5 _ true) _ _; refine WS_drawK (.range 12) 10 [5, 9] (by decide +kernel) rfl ?_) | (refine WS_seqK ?_; intro K hK) | (refine hK _ ?_; clear hK K) | refine stZ ?_ | (refine s2Z ?_ ?_ <;> intro hc <;> (try simp only [cS] at hc) <;> (try (exfalso; first | contradiction | omega))) | refine sqZ ?_ | ((first | refine' LQ ?zh rfl ?_ | refine' DL_qp rfl rfl rfl ?zh ?_ | refine' DL_q rfl rfl ?zh ?_); case zh => intro F'; exact Q_bin_t rfl rfl iI (by first | assumption | omega | decide | rfl)) | ((refine' LQ ?zh rfl ?_); case zh => intro F'; exact Q_bin rfl rfl iI) | (refine DL_h (H_callX iI rfl p1 iI) rfl rfl rfl ?_; intro x7) | (refine DL_h (H_callX iI rfl (p2 x7) iI) rfl rfl rfl ?_; intro new2))
        refine ⟨kk - 1, _, by omega, ⟨q + 1, new ++ new2, by omega, rfl⟩, ⟨rfl, rfl, rfl, rfl, trivial⟩, rfl, ?_⟩
        rw [hstep, show el ++ (new ++ new2) = el ++ new ++ new2 by simp, evsO_append]
        exact finE
    · obtain rfl : q = m1.sts.length := by omega
      have hq1 : ¬ (m1.sts.length : Int) < (k.bs.length : Int) := by omega
      repeat' (first | (refine WS_seqK ?_; intro K hK) | (refine hK _ ?_; clear hK K) | refine stZ ?_ | (refine s2Z ?_ ?_ <;> intro hc <;> (try simp only [cS] at hc) <;> (try (exfalso; first | contradiction | omega))) | refine sbZ ?_)
      exact ret_none (.inr rfl) rfl ⟨new, rfl, finE⟩
end

section
open Go.RowKit
section
variable {P : Program} {n : Frm} {w0 : World} {E : Env} {D : List Deferred} {H F F1 F2 : HProp} {Q : Exit → St → Prop} {l l' : List Oper}
theorem WS_drawRL {id : Nat} (t : Nat) (idx : List Nat) (cp : Nat) (bs : List Nat) {g off : Nat} {bt : TypeId} {cs : List Value} (hs : statD P l idx (inB bs) cp = true) (hl : permL l idx = some l') (hx : E.get t = some (ptr g off)) (hR : LimbB H g bt cs F) (h : DL P n w0 l.toArray Q D (cel g bt cs) F (inB bs) cp 0 false l' E emp) : WS P n w0 (.region id l.toArray true) Q ⟨E, D, H⟩ :=
 WS_draw idx l' (cel g bt cs) F emp (inB bs) cp hs (by rw [hR.eq, star_emp]) (permL_eq hl) h
instance (priority := low) own_in (G X H F : HProp) [h : Own H X F] : Own (H * G) X (F * G) := ⟨by rw [h.eq, star_assoc]⟩
theorem Q_loadSta {d : Option Tmp} {ty : TypeId} {pos : String} {after : Array Edge} {gu : Option (Nat × Bool)} {x : Operand} {t : TypeId} {b : Nat} {s : Sta} (hx : E.ev x = some (ptr b 0)) (hl : Own H (staP b s) F) (ht : Scal P t) : OpQ P n w0 ⟨d, .load t x, ty, pos, after, gu⟩ E H (u32 s.addr) := fun a w se hs => by
 have h1 := hs.cast hl.eq
 unfold staP at h1
 obtain ⟨y, h2⟩ := h1.ex
 unfold staB staC at h2
 rw [star_assoc] at h2
 exact Q_load (cs := staC s y.1 y.2) hx ⟨rfl⟩ ht rfl a w se h2
end
theorem stas_open2 {bs : List Nat} {sts : List Sta} {i b j b2 : Nat} {s s2 : Sta} (hl : bs.length = sts.length) (hb : bs[i]? = some b) (hs : sts[i]? = some s) (hb2 : bs[j]? = some b2) (hs2 : sts[j]? = some s2) (hij : i ≠ j) : ∃ R, stasQ bs sts = staP b s * (staP b2 s2 * R) ∧ ∀ f : Sta → Sta, stasQ bs (sts.modify i f) = staP b (f s) * (staP b2 s2 * R) := by
 obtain ⟨R1, e1, e2, e3⟩ := zrow_hole staP hb hs
 have hge : ∀ {α : Type} (l : List α), (l.eraseIdx i)[if j < i then j else j - 1]? = l[j]? := fun l => by
  rw [List.getElem?_eraseIdx]
  by_cases h : j < i
  ·simp [h]
  ·rw [if_neg h, if_neg (by omega)]
   congr 1
   omega
 obtain ⟨R, d1, _, _⟩ := zrow_hole staP ((hge bs).trans hb2) ((hge sts).trans hs2)
 rw [e3] at d1
 subst d1
 refine ⟨R, by rw [stasQ_eq hl, e1], fun f => ?_⟩
 have hm : sts.modify i f = sts.set i (f s) := modify_set hs f
 have hbs : bs.set i b = bs := by
  apply List.ext_getElem?
  intro j
  rw [List.getElem?_set]
  split
  ·rename_i e; subst e; obtain ⟨h1, h2⟩ := List.getElem?_eq_some_iff.1 hb; simp [h1, h2]
  ·rfl
 have := e2 b (f s)
 rw [hbs] at this
 rw [hm, stasQ_eq (by simpa using hl), this]
theorem rcvF_few {t : Nd} {c : Nat} (h : t.Rest c) (now : UInt64) (src : UInt32) (f : Str) : (t.rcvF now src f).out.frames.length ≤ 6 := by
 have h := (Nd.Step.rcv (h.inv.begin now) now src f).frames
 rw [Nd.begin_frames] at h
 obtain ⟨_, _, _, _, _, _, _, e8, _⟩ := ((t.begin now).rcv now src f).done_same
 unfold Nd.rcvF
 rw [e8]
 simpa using h
def opC (o : OpD) : List Value := [.int .i64 o.kind, .int .i64 o.a, .int .i64 o.b, .int .i64 o.n, .bool o.on, strV o.text]
def opA (o : OpD) : Value := .agg (opC o).toArray
theorem Ms.AirOk.erase {m : Ms} (h : m.AirOk) (k : Nat) : Ms.AirOk { m with air := m.air.eraseIdx k } := by
 refine ⟨?_, fun x hx => h.each x ((List.eraseIdx_sublist _ _).subset hx)⟩
 show (m.air.eraseIdx k).length ≤ 48
 have := h.few
 rw [List.length_eraseIdx]; split <;> omega
attribute [local irreducible] WS LS OpQ OpT OpH OpTQ Spec SpecQ cel
variable (w0 : World)
set_option maxRecDepth 100000 in
theorem mframe_spec (gm : Nat) (k : MH) (m : Ms) (el : List ES) (o : OpD) (kk c : Nat) (hf : m.Fine c) (hkk : kk < m.air.length) (hb : -9223372036854775808 ≤ o.n ∧ o.n ≤ 9223372036854775807) (hev : m.evs = []) : Spec Tryz.prog w0 39 [ptr gm 0, opA o, .int .i64 (kk : Int)] (mshA gm k m el) (fun _ : List ES => .tuple #[]) (fun new => mshA gm k (m.frame o kk) (el ++ new) * evsO new) := by
  obtain ⟨f, hfl⟩ : ∃ f, m.air[kk]? = some f := ⟨_, List.getElem?_eq_getElem hkk⟩
  obtain ⟨a1, a2, a3⟩ := hf.air.each _ (List.mem_of_getElem? hfl)
  have h6 := hf.short
  have hfew := hf.air.few
  obtain ⟨s, hs⟩ : ∃ s, m.sts[f.dst]? = some s := ⟨_, List.getElem?_eq_getElem a2⟩
  obtain ⟨s1, hs1⟩ : ∃ s, m.sts[f.src]? = some s := ⟨_, List.getElem?_eq_getElem a1⟩
  have p1 := fun v => delete_spec w0 v m.air kk hkk (by omega)
  obtain ⟨kind, oa, ob, on_, oo, ot⟩ := o
  simp only at hb
  refine Spec.enter Tryz.func39 rfl Tryz.ntmps39 rfl fun G => ?_
  refine WS_msh fun va ve hel => ?_
  refine WS_mlen fun hbl => ?_
  obtain ⟨b, hbb⟩ : ∃ b, k.bs[f.dst]? = some b := ⟨_, List.getElem?_eq_getElem (by omega)⟩
  obtain ⟨b1, hbb1⟩ : ∃ b, k.bs[f.src]? = some b := ⟨_, List.getElem?_eq_getElem (by omega)⟩
  unfold Ms.frame
  rw [hfl]
  simp only [opA, opC, argE]
  by_cases k4 : kind = 4
  · subst k4
    rw [if_pos rfl, hs]
    simp only [Option.bind_some]
    have hso := hf.sound f.dst s hs
    rw [hs1]
    by_cases hij : f.dst = f.src
    · obtain rfl : b = b1 := by rw [hij, hbb1] at hbb; exact (Option.some.inj hbb).symm
      obtain rfl : s = s1 := by rw [hij, hs1] at hs; exact (Option.some.inj hs).symm
      obtain ⟨R, e1, e2⟩ := stas_open hbl hbb hs
      refine WS_sta e1 fun gn vj => ?_
      unfold mshS
      simp only [mshC, staB, staC]
      cases ht : s.node with
      | none =>
        simp only [ptrN, staN]
        repeat' (first | (show WS _ _ _ (.region 5 _ true) _ _; refine WS_drawA (.range 9) (by decide +kernel) rfl ?_) | (refine WS_seqK ?_; intro K hK) | (refine hK _ ?_; clear hK K) | refine stZ ?_ | (refine s2Z ?_ ?_ <;> intro hc <;> (try simp only [cS] at hc) <;> (try (exfalso; first | contradiction | omega))) | refine sqZ ?_ | ((first | refine' LQ ?zh rfl ?_ | refine' DL_q rfl rfl ?zh ?_); case zh => intro F'; exact Q_bin_t rfl rfl iI (by first | assumption | omega | decide | rfl)) | ((refine' LQ ?zh rfl ?_); case zh => intro F'; exact Q_bin rfl rfl iI) | (refine shZ ?_; intro g) | (refine s0Z ?_; intro g) | ((refine' LS_h0 ?zh ?_); (case zh => exact H_storeA rfl rfl iI iI (by first | rfl | (simp only [List.all_cons, List.all_nil, *]; rfl)) rfl); intro g) | (refine LS_h (H_callX iI rfl (p1 _) iI) rfl ?_; intro va2))
        refine ret_none (.inr rfl) rfl ⟨[], rfl, ?_⟩
        rw [List.append_nil, star_assoc (mshA _ _ _ _)]
        refine Ent.msh va2 ve hel ?_
        refine Ent.sta (m := { m with air := m.air.eraseIdx kk }) gn vj e1 ?_
        unfold mshS
        simp only [mshC, staB, staC, ht, ptrN, staN, evsO, emp_star]
        exact finE
      | some t =>
        have hrt := (hso.node t ht).1
        have hw := hrt.wentRcv m.now s.addr f.bytes
        have hsay := hso.says ht hw
        have hfr := rcvF_few hrt m.now s.addr f.bytes
        have p2 := fun v => nrcv_spec w0 gn t m.now s.addr f.bytes hrt (by omega) v (rows 5 1 byteC v f.bytes)
        have p3 := fun va2 v => emitX_spec w0 gm k f.dst b c hbb { m with air := m.air.eraseIdx kk } el (t.rcvF m.now s.addr f.bytes).out v s (·.run (t.rcvF m.now s.addr f.bytes)) (t.rcvF m.now s.addr f.bytes) (fun _ => rfl) rfl hs hsay hw.pks.le (by omega) (hf.air.erase kk) (by rw [hev]; simp only [List.length_nil]; omega) h6 hel R (e2 _) va2 ve gn vj
        simp only [ptrN, staN, Option.map_some, Option.getD_some]
        generalize t.rcvF m.now s.addr f.bytes = t2 at *
        simp only [outA, mshC, Sta.run_tear, Sta.run_armed, Sta.run_journal, star_assoc] at p2 p3 ⊢
        repeat' (first | (show WS _ _ _ (.region 5 _ true) _ _; refine WS_drawA (.range 9) (by decide +kernel) rfl ?_) | (refine WS_seqK ?_; intro K hK) | (refine hK _ ?_; clear hK K) | refine stZ ?_ | (refine s2Z ?_ ?_ <;> intro hc <;> (try simp only [cS] at hc) <;> (try (exfalso; first | contradiction | omega))) | refine sqZ ?_ | ((first | refine' LQ ?zh rfl ?_ | refine' DL_qp rfl rfl rfl ?zh ?_ | refine' DL_q rfl rfl ?zh ?_); case zh => intro F'; exact Q_bin_t rfl rfl iI (by first | assumption | omega | decide | rfl)) | ((refine' LQ ?zh rfl ?_); case zh => intro F'; exact Q_bin rfl rfl iI) | (refine shZ ?_; intro g) | (refine s0Z ?_; intro g) | ((refine' LS_h0 ?zh ?_); (case zh => exact H_storeA rfl rfl iI iI (by first | rfl | (simp only [List.all_cons, List.all_nil, *]; rfl)) rfl); intro g) | (refine LS_h (H_callX iI rfl (p1 _) iI) rfl ?_; intro va2) | (show WS _ _ _ (.region 7 _ true) _ _; refine WS_drawRL 6 (.range 27) 25 [6, 10, 14, 17, 18, 21] (by decide +kernel) rfl rfl iI ?_) | (refine DL_h (H_convB rfl iI iI iI (by omega)) rfl rfl rfl ?_; intro vb) | (refine DL_h (H_callX iI rfl (p2 _) iI) rfl rfl rfl ?_; intro x7) | (refine DL_h (H_callX iI rfl (p3 va2 x7) iI) rfl rfl rfl ?_; intro new2))
        exact ret_none (.inr rfl) rfl ⟨new2, rfl, finE⟩
    · obtain ⟨R, e1, e2⟩ := stas_open2 hbl hbb hs hbb1 hs1 hij
      refine WS_sta e1 fun gn vj => ?_
      unfold mshS
      simp only [mshC, staB, staC]
      cases ht : s.node with
      | none =>
        simp only [ptrN, staN]
        repeat' (first | (show WS _ _ _ (.region 5 _ true) _ _; refine WS_drawA (.range 9) (by decide +kernel) rfl ?_) | (refine WS_seqK ?_; intro K hK) | (refine hK _ ?_; clear hK K) | refine stZ ?_ | (refine s2Z ?_ ?_ <;> intro hc <;> (try simp only [cS] at hc) <;> (try (exfalso; first | contradiction | omega))) | refine sqZ ?_ | ((first | refine' LQ ?zh rfl ?_ | refine' DL_q rfl rfl ?zh ?_); case zh => intro F'; exact Q_bin_t rfl rfl iI (by first | assumption | omega | decide | rfl)) | ((refine' LQ ?zh rfl ?_); case zh => intro F'; exact Q_bin rfl rfl iI) | (refine shZ ?_; intro g) | (refine s0Z ?_; intro g) | ((refine' LS_h0 ?zh ?_); (case zh => exact H_storeA rfl rfl iI iI (by first | rfl | (simp only [List.all_cons, List.all_nil, *]; rfl)) rfl); intro g) | (refine LS_h (H_callX iI rfl (p1 _) iI) rfl ?_; intro va2))
        refine ret_none (.inr rfl) rfl ⟨[], rfl, ?_⟩
        rw [List.append_nil, star_assoc (mshA _ _ _ _)]
        refine Ent.msh va2 ve hel ?_
        refine Ent.sta (m := { m with air := m.air.eraseIdx kk }) gn vj e1 ?_
        unfold mshS
        simp only [mshC, staB, staC, ht, ptrN, staN, evsO, emp_star]
        exact finE
      | some t =>
        have hrt := (hso.node t ht).1
        have hw := hrt.wentRcv m.now s1.addr f.bytes
        have hsay := hso.says ht hw
        have hfr := rcvF_few hrt m.now s1.addr f.bytes
        have p2 := fun v => nrcv_spec w0 gn t m.now s1.addr f.bytes hrt (by omega) v (rows 5 1 byteC v f.bytes)
        have p3 := fun va2 v => emitX_spec w0 gm k f.dst b c hbb { m with air := m.air.eraseIdx kk } el (t.rcvF m.now s1.addr f.bytes).out v s (·.run (t.rcvF m.now s1.addr f.bytes)) (t.rcvF m.now s1.addr f.bytes) (fun _ => rfl) rfl hs hsay hw.pks.le (by omega) (hf.air.erase kk) (by rw [hev]; simp only [List.length_nil]; omega) h6 hel (staP b1 s1 * R) (e2 _) va2 ve gn vj
        simp only [ptrN, staN, Option.map_some, Option.getD_some]
        generalize t.rcvF m.now s1.addr f.bytes = t2 at *
        simp only [outA, mshC, Sta.run_tear, Sta.run_armed, Sta.run_journal, star_assoc] at p2 p3 ⊢
        repeat' (first | (show WS _ _ _ (.region 5 _ true) _ _; refine WS_drawA (.range 9) (by decide +kernel) rfl ?_) | (refine WS_seqK ?_; intro K hK) | (refine hK _ ?_; clear hK K) | refine stZ ?_ | (refine s2Z ?_ ?_ <;> intro hc <;> (try simp only [cS] at hc) <;> (try (exfalso; first | contradiction | omega))) | refine sqZ ?_ | ((first | refine' LQ ?zh rfl ?_ | refine' DL_qp rfl rfl rfl ?zh ?_ | refine' DL_q rfl rfl ?zh ?_); case zh => intro F'; exact Q_bin_t rfl rfl iI (by first | assumption | omega | decide | rfl)) | ((first | refine' LQ ?zh rfl ?_ | refine' DL_qp rfl rfl rfl ?zh ?_); case zh => intro F'; exact Q_bin rfl rfl iI) | (refine shZ ?_; intro g) | (refine s0Z ?_; intro g) | ((refine' LS_h0 ?zh ?_); (case zh => exact H_storeA rfl rfl iI iI (by first | rfl | (simp only [List.all_cons, List.all_nil, *]; rfl)) rfl); intro g) | (refine LS_h (H_callX iI rfl (p1 _) iI) rfl ?_; intro va2) | (show WS _ _ _ (.region 7 _ true) _ _; refine WS_drawRL 6 (.range 27) 25 [6, 10, 14, 17, 18, 21] (by decide +kernel) rfl rfl iI ?_) | (refine' DL_qp rfl rfl rfl ?zh ?_; (case zh => intro F'; exact Q_loadSta (s := s1) (b := b1) rfl iI iI)) | (refine DL_h (H_convB rfl iI iI iI (by omega)) rfl rfl rfl ?_; intro vb) | (refine DL_h (H_callX iI rfl (p2 _) iI) rfl rfl rfl ?_; intro x7) | (refine DL_h (H_callX iI rfl (p3 va2 x7) iI) rfl rfl rfl ?_; intro new2))
        exact ret_none (.inr rfl) rfl ⟨new2, rfl, finE⟩
  · rw [if_neg k4]
    by_cases k5 : kind = 5
    · subst k5
      rw [if_pos rfl]
      simp only [mshP, mshC]
      repeat' (first | (refine WS_seqK ?_; intro K hK) | (refine hK _ ?_; clear hK K) | refine stZ ?_ | (refine s2Z ?_ ?_ <;> intro hc <;> (try simp only [cS] at hc) <;> (try (exfalso; first | contradiction | omega))) | refine sqZ ?_ | ((refine' LQ ?zh rfl ?_); case zh => intro F'; first | exact Q_bin_t rfl rfl iI (by first | assumption | omega | decide | rfl) | exact Q_bin_f rfl rfl iI (by first | assumption | omega | decide | rfl)) | (refine shZ ?_; intro g) | (refine s0Z ?_; intro g) | ((refine' LS_h0 ?zh ?_); (case zh => exact H_storeA rfl rfl iI iI (by first | rfl | (simp only [List.all_cons, List.all_nil, *]; rfl)) rfl); intro g) | (refine LS_h (H_callX iI rfl (p1 _) iI) rfl ?_; intro va2))
      refine ret_none (.inr rfl) rfl ⟨[], rfl, ?_⟩
      rw [List.append_nil, star_assoc (mshA _ _ _ _)]
      refine Ent.msh va2 ve hel ?_
      simp only [mshP, mshC, evsO, emp_star]
      exact finE
    · rw [if_neg k5]
      by_cases k6 : kind = 6
      · subst k6
        rw [if_pos rfl]
        have p4 := fly_spec w0 gm m ⟨k.vs, k.bs, k.r, va, ve⟩ f hfew
        simp only [flC, mshC] at p4
        simp only [mshP, mshC]
        repeat' (first | (refine WS_seqK ?_; intro K hK) | (refine hK _ ?_; clear hK K) | refine stZ ?_ | (refine s2Z ?_ ?_ <;> intro hc <;> (try simp only [cS] at hc) <;> (try (exfalso; first | contradiction | omega))) | refine sqZ ?_ | ((refine' LQ ?zh rfl ?_); case zh => intro F'; first | exact Q_bin_t rfl rfl iI (by first | assumption | omega | decide | rfl) | exact Q_bin_f rfl rfl iI (by first | assumption | omega | decide | rfl)) | (refine shZ ?_; intro g) | ((refine' LS_h0 ?zh ?_); (case zh => exact H_storeA rfl rfl iI iI (by first | rfl | (simp only [List.all_cons, List.all_nil, *]; rfl)) rfl); intro g) | (refine LS_h (H_callX iI rfl p4 iI) rfl ?_; intro va2))
        refine ret_none (.inr rfl) rfl ⟨[], rfl, ?_⟩
        rw [List.append_nil, star_assoc (mshA _ _ _ _)]
        refine Ent.msh va2 ve hel ?_
        simp only [mshP, mshC, evsO, emp_star]
        rw [show (m.fly f).sts = m.sts from rfl]
        exact finE
      · rw [if_neg k6]
        by_cases k7 : kind = 7
        · subst k7
          by_cases hn0 : 0 ≤ on_
          · rw [if_pos ⟨rfl, hn0⟩]
            obtain ⟨q, hq⟩ : ∃ q, q = f.bytes.length - min on_.toNat f.bytes.length := ⟨_, rfl⟩
            rw [← hq]
            haveI : AsNat ((f.bytes.length : Int) - min on_ (f.bytes.length : Int)) q := ⟨by omega⟩
            simp only [mshP, mshC]
            repeat' (first | (show WS _ _ _ (.region 14 _ true) _ _; refine WS_drawK (.range 21) 20 [3, 6, 8, 9, 11, 13, 14, 15, 17, 18, 19] (by decide +kernel) rfl ?_) | (refine WS_seqK ?_; intro K hK) | (refine hK _ ?_; clear hK K) | refine stZ ?_ | (refine s2Z ?_ ?_ <;> intro hc <;> (try simp only [cS] at hc) <;> (try (exfalso; first | contradiction | omega))) | refine sqZ ?_ | ((first | refine' LQ ?zh rfl ?_ | refine' DL_qp rfl rfl rfl ?zh ?_ | refine' DL_q rfl rfl ?zh ?_); case zh => intro F'; first | exact Q_bin_t rfl rfl iI (by first | assumption | omega | decide | rfl) | exact Q_bin_f rfl rfl iI (by first | assumption | omega | decide | rfl) | exact Q_sliceS_h rfl rfl iI iI (by first | assumption | omega)) | (refine shZ ?_; intro g) | ((first | refine' LS_h0 ?zh ?_ | refine' DL_h0 ?zh rfl rfl ?_); (case zh => exact H_storeA rfl rfl iI iI (by first | rfl | (simp only [List.all_cons, List.all_nil, *]; rfl)) rfl); intro g) | (refine' DL_h0 ?zh rfl rfl ?_; (case zh => exact H_storeR ({ f with bytes := f.bytes.take q } : Fl) rfl rfl iI iI iI rfl hfl rfl); intro g))
            refine ret_none (.inr rfl) rfl ⟨[], rfl, ?_⟩
            rw [List.append_nil, star_assoc (mshA _ _ _ _)]
            refine Ent.msh va ve hel ?_
            simp only [mshP, mshC, evsO, emp_star]
            exact finE
          · rw [if_neg (fun h => hn0 h.2)]
            simp only [mshP, mshC]
            repeat' (first | (refine WS_seqK ?_; intro K hK) | (refine hK _ ?_; clear hK K) | refine stZ ?_ | (refine s2Z ?_ ?_ <;> intro hc <;> (try simp only [cS] at hc) <;> (try (exfalso; first | contradiction | omega))) | refine sqZ ?_ | ((refine' LQ ?zh rfl ?_); case zh => intro F'; first | exact Q_bin_t rfl rfl iI (by first | assumption | omega | decide | rfl) | exact Q_bin_f rfl rfl iI (by first | assumption | omega | decide | rfl)) | (refine shZ ?_; intro g) | ((refine' LS_h0 ?zh ?_); (case zh => exact H_storeA rfl rfl iI iI (by first | rfl | (simp only [List.all_cons, List.all_nil, *]; rfl)) rfl); intro g))
            refine ret_none (.inr rfl) rfl ⟨[], rfl, ?_⟩
            rw [List.append_nil, star_assoc (mshA _ _ _ _)]
            refine Ent.msh va ve hel ?_
            simp only [mshP, mshC, evsO, emp_star]
            exact finE
        · rw [if_neg (fun h => k7 h.1)]
          simp only [mshP, mshC]
          repeat' (first | (refine WS_seqK ?_; intro K hK) | (refine hK _ ?_; clear hK K) | refine stZ ?_ | (refine s2Z ?_ ?_ <;> intro hc <;> (try simp only [cS] at hc) <;> (try (exfalso; first | contradiction | omega))) | refine sqZ ?_ | ((refine' LQ ?zh rfl ?_); case zh => intro F'; exact Q_bin_f rfl rfl iI (by first | assumption | omega | decide | rfl)) | (refine shZ ?_; intro g) | ((refine' LS_h0 ?zh ?_); (case zh => exact H_storeA rfl rfl iI iI (by first | rfl | (simp only [List.all_cons, List.all_nil, *]; rfl)) rfl); intro g))
          refine ret_none (.inr rfl) rfl ⟨[], rfl, ?_⟩
          rw [List.append_nil, star_assoc (mshA _ _ _ _)]
          refine Ent.msh va ve hel ?_
          simp only [mshP, mshC, evsO, emp_star]
          exact finE
end

end Go.Proofs.YtapoehkdnglahabGreat

