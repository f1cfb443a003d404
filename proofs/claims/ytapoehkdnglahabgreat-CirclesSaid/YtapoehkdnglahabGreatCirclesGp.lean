/- A part of what Circles needs. -/
import Derived.Test.YtapoehkdnglahabGreatCirclesGo
set_option maxHeartbeats 32000000
set_option linter.unusedVariables false
set_option linter.unusedSimpArgs false
set_option linter.unusedSectionVars false
namespace Go.Proofs.YtapoehkdnglahabGreat
section
open Go.RowKit
theorem Q_convT64 {P : Program} {n : Frm} {w0 : World} {E : Env} {H : HProp} {d : Option Tmp} {ty : TypeId} {pos : String} {after : Array Edge} {gu : Option (Nat × Bool)} {x : Operand} {src t : TypeId} {m : Int} {ds : TypeDesc} (hx : E.ev x = some (.int .i64 m)) (hm : 0 ≤ m ∧ m ≤ 60000) (hs : Und P src ds) (hd : Und P t (.int .u64)) : OpQ P n w0 ⟨d, .convert src t x, ty, pos, after, gu⟩ E H (u64 (UInt64.ofNat m.toNat)) :=
  Q_convI hx hs hd (by
    rw [wrap_u64, UInt64.toNat_ofNat']
    rw [Nat.mod_eq_of_lt (by omega)]
    omega)
structure OpD.Ok (o : OpD) : Prop where
  n : -9223372036854775808 ≤ o.n ∧ o.n ≤ 9223372036854775807
  text : o.kind = 8 → o.text.length ≤ 100000
theorem Ms.do_frame {m : Ms} {o : OpD} (h : o.kind = 4 ∨ o.kind = 5 ∨ o.kind = 6 ∨ o.kind = 7) : m.do_ o = if 0 ≤ o.a ∧ 0 < m.air.length then Ms.frame { m with evs := [] } o (o.a.toNat % m.air.length) else { m with evs := [] } := by
  unfold Ms.do_; rw [if_pos h]
theorem Ms.do_tick {m : Ms} {o : OpD} (h : o.kind = 3) : m.do_ o = if 1 ≤ o.n ∧ o.n ≤ 60000 then Ms.tick { m with evs := [] } (UInt64.ofNat o.n.toNat) else { m with evs := [] } := by
  unfold Ms.do_; rw [if_neg (by omega), if_pos h]
theorem Ms.do_node {m : Ms} {o : OpD} (h : o.kind = 1 ∨ o.kind = 2 ∨ o.kind = 8 ∨ o.kind = 9 ∨ o.kind = 10 ∨ o.kind = 11) : m.do_ o = Ms.nodeOp { m with evs := [] } o := by
  unfold Ms.do_; rw [if_neg (by omega), if_neg (by omega), if_pos h]
theorem Ms.do_none {m : Ms} {o : OpD} (h1 : ¬ (o.kind = 4 ∨ o.kind = 5 ∨ o.kind = 6 ∨ o.kind = 7)) (h2 : ¬ o.kind = 3) (h3 : ¬ (o.kind = 1 ∨ o.kind = 2 ∨ o.kind = 8 ∨ o.kind = 9 ∨ o.kind = 10 ∨ o.kind = 11)) : m.do_ o = { m with evs := [] } := by
  unfold Ms.do_; rw [if_neg h1, if_neg h2, if_neg h3]
attribute [local irreducible] WS LS OpQ OpT OpH OpTQ Spec SpecQ cel
variable (w0 : World)
theorem mnode_spec (gm : Nat) (k : MH) (m : Ms) (el : List ES) (o : OpD) (c : Nat) (hf : m.Fine c) (hc : c ≤ 8500) (hn : m.now.toNat ≤ 4611686018427387904) (hk : o.kind = 1 ∨ o.kind = 2 ∨ o.kind = 8 ∨ o.kind = 9 ∨ o.kind = 10 ∨ o.kind = 11) (ho : o.Ok) (hev : m.evs = []) : Spec Tryz.prog w0 41 [ptr gm 0, opA o] (mshA gm k m el) (fun _ : List ES => .tuple #[]) (fun new => mshA gm k (m.nodeOp o) (el ++ new) * evsO new) := by
  cases hb : m.bars o with
  | true => rw [Ms.nodeOp_bar hb]; exact mnodeBar_spec w0 gm k m el o c hf hk hev hb
  | false =>
    rcases hk with h | h | h | h | h | h
    · exact mlink_spec w0 gm k m el o c hf hev hb h
    · exact mtext_spec w0 gm k m el o c hf hc hn hev hb h
    · exact mhear_spec w0 gm k m el o c hf (ho.text h) hev hb h
    · exact mstop_spec w0 gm k m el o c hf hev hb h
    · exact marm_spec w0 gm k m el o c hf ho.n.2 hev hb h
    · exact mboot_spec w0 gm k m el o c hf hev hb h
set_option maxRecDepth 100000 in
theorem mdo_spec (gm : Nat) (k : MH) (m : Ms) (o : OpD) (c : Nat) (hf : m.Fine c) (hc : c ≤ 8500) (hn : m.now.toNat + 60000 ≤ 4611686018427387904) (ho : o.Ok) : Spec Tryz.prog w0 19 [ptr gm 0, opA o] (mshI gm k m) (fun x : Value × List ES => x.1) (fun x => pure' (x.2.map (·.1) = (m.do_ o).evs) * (mshI gm k (m.do_ o) * (rows 68 7 evC x.1 x.2 * evsO x.2))) := by
  obtain ⟨kind, oa, ob, on_, oo, ot⟩ := o
  have hon := ho.n
  simp only at hon
  have hfew := hf.air.few
  have hf1 : Ms.Fine { m with evs := [] } c := ⟨hf.short, hf.sound, ⟨hf.air.few, hf.air.each⟩⟩
  refine Spec.enter Tryz.func19 rfl Tryz.ntmps19 rfl fun G => ?_
  unfold mshI
  refine WS_hex fun y => ?_
  obtain ⟨va, ve⟩ := y
  have hpk : ∀ Z, Ent ((cel gm 108 (mshC m ⟨k.vs, k.bs, k.r, va, .slice none 0 0⟩) * (rows 115 1 ptrC k.vs k.bs * (mp u32 i64 k.r (amap 0 m.sts) * (stasQ k.bs m.sts * rows 114 3 flC va m.air)))) * Z) (mshA gm k { m with evs := [] } [] * Z) := fun Z => by
    refine Ent.msh va (.slice none 0 0) rfl ?_
    simp only [mshP, mshC]
    exact finE
  simp only [mshC] at hpk
  rw [star_assoc, star_assoc, star_assoc, star_assoc]
  simp only [mshC, opA, opC, argE]
  by_cases hF : kind = 4 ∨ kind = 5 ∨ kind = 6 ∨ kind = 7
  · have hdo := Ms.do_frame (m := m) (o := ⟨kind, oa, ob, on_, oo, ot⟩) hF
    simp only at hdo
    by_cases h1 : 0 ≤ oa ∧ 0 < m.air.length
    · rw [if_pos h1] at hdo
      obtain ⟨h1, h2⟩ := h1
      have hmod : oa % (m.air.length : Int) = ((oa.toNat % m.air.length : Nat) : Int) := by
        rw [Int.natCast_emod, Int.toNat_of_nonneg h1]
      have h3 : 0 ≤ oa ∧ 0 < (m.air.length : Int) := ⟨h1, by omega⟩
      have h4 : (0 : Int) < (m.air.length : Int) := by omega
      have p1 := (mframe_spec w0 gm k { m with evs := [] } [] ⟨kind, oa, ob, on_, oo, ot⟩ (oa.toNat % m.air.length) c hf1 (Nat.mod_lt _ h2) ho.n rfl).conv (hpk) (fun _ _ => Ent.refl _)
      rw [← hmod] at p1
      simp only [opA, opC] at p1
      generalize Ms.frame { m with evs := [] } ⟨kind, oa, ob, on_, oo, ot⟩ (oa.toNat % m.air.length) = m2 at *
      repeat' (first | (show WS _ _ _ (.region 8 _ true) _ _; refine WS_drawK (.range 11) 10 [1, 3, 7, 8] (by decide +kernel) rfl ?_) | (refine WS_seqK ?_; intro K hK) | (refine hK _ ?_; clear hK K) | refine stZ ?_ | (refine s2Z ?_ ?_ <;> intro hc <;> (try simp only [cS] at hc) <;> (try (exfalso; first | contradiction | omega))) | refine sqZ ?_ | ((first | refine' LQ ?zh rfl ?_ | refine' DL_qp rfl rfl rfl ?zh ?_ | refine' DL_q rfl rfl ?zh ?_); case zh => intro F'; first | exact Q_bin_t rfl rfl iI (by first | assumption | omega | decide | rfl) | exact Q_remI rfl rfl (by omega)) | ((first | refine LS_binS rfl rfl iI rfl ?_ ?_ | refine LS_binN rfl rfl iI rfl ?_ ?_ | refine DL_binS rfl rfl iI rfl ?_ ?_) <;> intro hc) | (refine shZ ?_; intro g) | (refine s0Z ?_; intro g) | (refine DL_h (H_callX iI rfl p1 iI) rfl rfl rfl ?_; intro new))
      all_goals
        simp only [star_assoc, emp_star, star_emp]
        unfold mshA
        refine LS_hex fun y => ?_
        rw [star_assoc]
        refine LS_pureI iI fun hel => ?_
        rw [List.nil_append] at hel
        simp only [List.nil_append, mshP, mshC, star_assoc]
        repeat' (first | (refine hK _ ?_; clear hK K) | refine stZ ?_ | refine sqZ ?_)
        refine ret_tmp (.inl rfl) rfl rfl ⟨(y.2, new), rfl, ?_⟩
        rw [pure'_true (by rw [hdo]; exact hel), hdo]
        simp only [mshI, mshC, emp_star, star_assoc]
        refine Ent.hexI (y.1, y.2) ?_
        simp only [mshC, star_assoc]
        exact finE
    · rw [if_neg h1] at hdo
      have h4 : 0 ≤ oa → ¬ (0 : Int) < (m.air.length : Int) := fun h h' => h1 ⟨h, by omega⟩
      repeat' (first | (refine WS_seqK ?_; intro K hK) | (refine hK _ ?_; clear hK K) | refine stZ ?_ | (refine s2Z ?_ ?_ <;> intro hc <;> (try simp only [cS] at hc) <;> (try (exfalso; first | contradiction | omega))) | refine sqZ ?_ | ((refine' LQ ?zh rfl ?_); case zh => intro F'; first | exact Q_bin_t rfl rfl iI (by first | assumption | omega | decide | rfl) | exact Q_bin_f rfl rfl iI (by first | assumption | omega | decide | rfl)) | ((first | refine LS_binS rfl rfl iI rfl ?_ ?_ | refine LS_binN rfl rfl iI rfl ?_ ?_ | refine DL_binS rfl rfl iI rfl ?_ ?_) <;> intro hc) | (refine shZ ?_; intro g) | (refine s0Z ?_; intro g))
      all_goals
        refine ret_tmp (.inl rfl) rfl rfl ⟨(.slice none 0 0, []), rfl, ?_⟩
        rw [pure'_true (by rw [hdo]; rfl), hdo]
        simp only [mshI, mshC, evsO, emp_star, star_assoc]
        refine Ent.hexI (va, .slice none 0 0) ?_
        simp only [mshC, star_assoc]
        exact finE
  · by_cases h3 : kind = 3
    · have hdo := Ms.do_tick (m := m) (o := ⟨kind, oa, ob, on_, oo, ot⟩) h3
      simp only at hdo
      by_cases h1 : 1 ≤ on_ ∧ on_ ≤ 60000
      · rw [if_pos h1] at hdo
        obtain ⟨h1, h2⟩ := h1
        have p1 := (mtickM_spec w0 gm k { m with evs := [] } [] (UInt64.ofNat on_.toNat) c hf1 hc (by
          rw [UInt64.toNat_add]
          refine Nat.le_trans (Nat.mod_le _ _) ?_
          have : (UInt64.ofNat on_.toNat).toNat ≤ 60000 := by
            rw [UInt64.toNat_ofNat']
            exact Nat.le_trans (Nat.mod_le _ _) (by omega)
          show m.now.toNat + _ ≤ _
          omega) rfl).conv (hpk) (fun _ _ => Ent.refl _)
        generalize Ms.tick { m with evs := [] } (UInt64.ofNat on_.toNat) = m2 at *
        repeat' (first | (refine WS_seqK ?_; intro K hK) | (refine hK _ ?_; clear hK K) | refine stZ ?_ | (refine s2Z ?_ ?_ <;> intro hc <;> (try simp only [cS] at hc) <;> (try (exfalso; first | contradiction | omega))) | refine sqZ ?_ | ((refine' LQ ?zh rfl ?_); case zh => intro F'; first | exact Q_bin_t rfl rfl iI (by first | assumption | omega | decide | rfl) | exact Q_bin_f rfl rfl iI (by first | assumption | omega | decide | rfl)) | (refine shZ ?_; intro g) | (refine s0Z ?_; intro g) | (refine' LQ ?zh rfl ?_; (case zh => intro F'; exact Q_convT64 rfl (by omega) iI iI)) | (refine LS_h (H_callX iI rfl p1 iI) rfl ?_; intro new))
        simp only [star_assoc, emp_star, star_emp]
        unfold mshA
        refine LS_hex fun y => ?_
        rw [star_assoc]
        refine LS_pureI iI fun hel => ?_
        rw [List.nil_append] at hel
        simp only [List.nil_append, mshP, mshC, star_assoc]
        repeat' (first | (refine hK _ ?_; clear hK K) | refine stZ ?_ | refine sqZ ?_)
        refine ret_tmp (.inl rfl) rfl rfl ⟨(y.2, new), rfl, ?_⟩
        rw [pure'_true (by rw [hdo]; exact hel), hdo]
        simp only [mshI, mshC, emp_star, star_assoc]
        refine Ent.hexI (y.1, y.2) ?_
        simp only [mshC, star_assoc]
        exact finE
      · rw [if_neg h1] at hdo
        repeat' (first | (refine WS_seqK ?_; intro K hK) | (refine hK _ ?_; clear hK K) | refine stZ ?_ | (refine s2Z ?_ ?_ <;> intro hc <;> (try simp only [cS] at hc) <;> (try (exfalso; first | contradiction | omega))) | refine sqZ ?_ | ((refine' LQ ?zh rfl ?_); case zh => intro F'; first | exact Q_bin_t rfl rfl iI (by first | assumption | omega | decide | rfl) | exact Q_bin_f rfl rfl iI (by first | assumption | omega | decide | rfl)) | ((first | refine LS_binS rfl rfl iI rfl ?_ ?_ | refine LS_binN rfl rfl iI rfl ?_ ?_ | refine DL_binS rfl rfl iI rfl ?_ ?_) <;> intro hc) | (refine shZ ?_; intro g) | (refine s0Z ?_; intro g))
        all_goals
          refine ret_tmp (.inl rfl) rfl rfl ⟨(.slice none 0 0, []), rfl, ?_⟩
          rw [pure'_true (by rw [hdo]; rfl), hdo]
          simp only [mshI, mshC, evsO, emp_star, star_assoc]
          refine Ent.hexI (va, .slice none 0 0) ?_
          simp only [mshC, star_assoc]
          exact finE
    · by_cases hN : kind = 1 ∨ kind = 2 ∨ kind = 8 ∨ kind = 9 ∨ kind = 10 ∨ kind = 11
      · have hdo := Ms.do_node (m := m) (o := ⟨kind, oa, ob, on_, oo, ot⟩) hN
        have p1 := (mnode_spec w0 gm k { m with evs := [] } [] ⟨kind, oa, ob, on_, oo, ot⟩ c hf1 hc (by show m.now.toNat ≤ _; omega) hN ho rfl).conv (hpk) (fun _ _ => Ent.refl _)
        simp only [opA, opC] at p1
        generalize Ms.nodeOp { m with evs := [] } ⟨kind, oa, ob, on_, oo, ot⟩ = m2 at *
        repeat' (first | (refine WS_seqK ?_; intro K hK) | (refine hK _ ?_; clear hK K) | refine stZ ?_ | (refine s2Z ?_ ?_ <;> intro hc <;> (try simp only [cS] at hc) <;> (try (exfalso; first | contradiction | omega))) | refine sqZ ?_ | ((refine' LQ ?zh rfl ?_); case zh => intro F'; first | exact Q_bin_t rfl rfl iI (by first | assumption | omega | decide | rfl) | exact Q_bin_f rfl rfl iI (by first | assumption | omega | decide | rfl)) | ((first | refine LS_binS rfl rfl iI rfl ?_ ?_ | refine LS_binN rfl rfl iI rfl ?_ ?_ | refine DL_binS rfl rfl iI rfl ?_ ?_) <;> intro hc) | (refine shZ ?_; intro g) | (refine s0Z ?_; intro g) | (refine LS_h (H_callX iI rfl p1 iI) rfl ?_; intro new))
        all_goals
          simp only [star_assoc, emp_star, star_emp]
          unfold mshA
          refine LS_hex fun y => ?_
          rw [star_assoc]
          refine LS_pureI iI fun hel => ?_
          rw [List.nil_append] at hel
          simp only [List.nil_append, mshP, mshC, star_assoc]
          repeat' (first | (refine hK _ ?_; clear hK K) | refine stZ ?_ | refine sqZ ?_)
          refine ret_tmp (.inl rfl) rfl rfl ⟨(y.2, new), rfl, ?_⟩
          rw [pure'_true (by rw [hdo]; exact hel), hdo]
          simp only [mshI, mshC, emp_star, star_assoc]
          refine Ent.hexI (y.1, y.2) ?_
          simp only [mshC, star_assoc]
          exact finE
      · have hdo := Ms.do_none (m := m) (o := ⟨kind, oa, ob, on_, oo, ot⟩) hF h3 hN
        repeat' (first | (refine WS_seqK ?_; intro K hK) | (refine hK _ ?_; clear hK K) | refine stZ ?_ | (refine s2Z ?_ ?_ <;> intro hc <;> (try simp only [cS] at hc) <;> (try (exfalso; first | contradiction | omega))) | refine sqZ ?_ | ((refine' LQ ?zh rfl ?_); case zh => intro F'; exact Q_bin_f rfl rfl iI (by first | assumption | omega | decide | rfl)) | (refine shZ ?_; intro g) | (refine s0Z ?_; intro g))
        refine ret_tmp (.inl rfl) rfl rfl ⟨(.slice none 0 0, []), rfl, ?_⟩
        rw [pure'_true (by rw [hdo]; rfl), hdo]
        simp only [mshI, mshC, evsO, emp_star, star_assoc]
        refine Ent.hexI (va, .slice none 0 0) ?_
        simp only [mshC, star_assoc]
        exact finE
end

section
open Go.RowKit
section
variable {P : Program} {n : Frm} {w0 : World} {E : Env} {D : List Deferred} {F : HProp} {c : Code} {Q : Exit → St → Prop} {g : Nat} {k : MH} {m : Ms}
theorem WS_mshI (h : ∀ va ve, k.bs.length = m.sts.length → WS P n w0 c Q ⟨E, D, cel g 108 (mshC m ⟨k.vs, k.bs, k.r, va, ve⟩) * (rows 115 1 ptrC k.vs k.bs * (mp u32 i64 k.r (amap 0 m.sts) * (stasQ k.bs m.sts * (rows 114 3 flC va m.air * F))))⟩) : WS P n w0 c Q ⟨E, D, mshI g k m * F⟩ := by
  unfold mshI
  refine WS_hex fun y => ?_
  have h2 := h y.1 y.2
  by_cases hl : k.bs.length = m.sts.length
  · rw [star_assoc, star_assoc, star_assoc, star_assoc]
    exact h2 hl
  · intro a w gd
    exfalso
    have e : (cel g 108 (mshC m ⟨k.vs, k.bs, k.r, y.1, y.2⟩) * (rows 115 1 ptrC k.vs k.bs * (mp u32 i64 k.r (amap 0 m.sts) * (stasQ k.bs m.sts * rows 114 3 flC y.1 m.air)))) * F = pure' (k.bs.length = m.sts.length) * (cel g 108 (mshC m ⟨k.vs, k.bs, k.r, y.1, y.2⟩) * (rows 115 1 ptrC k.vs k.bs * (mp u32 i64 k.r (amap 0 m.sts) * (zrow staP k.bs m.sts * (rows 114 3 flC y.1 m.air * F))))) := by
      unfold stasQ
      ac_rfl
    exact hl (gd.sat.cast e).pure.1
theorem Ent.mshI {H : HProp} (va ve : Value) (e : Ent H (cel g 108 (mshC m ⟨k.vs, k.bs, k.r, va, ve⟩) * (rows 115 1 ptrC k.vs k.bs * (mp u32 i64 k.r (amap 0 m.sts) * (stasQ k.bs m.sts * (rows 114 3 flC va m.air * F)))))) : Ent H (mshI g k m * F) := by
  unfold Go.Proofs.YtapoehkdnglahabGreat.mshI
  refine Ent.hexI (p := fun x : Value × Value => cel g 108 (mshC m ⟨k.vs, k.bs, k.r, x.1, x.2⟩) * (rows 115 1 ptrC k.vs k.bs * (mp u32 i64 k.r (amap 0 m.sts) * (stasQ k.bs m.sts * rows 114 3 flC x.1 m.air)))) (va, ve) ?_
  rw [star_assoc, star_assoc, star_assoc, star_assoc]
  exact e
theorem staP_I {b : Nat} {s : Sta} {H : HProp} (gn : Nat) (vj : Value) (e : Ent H (staB b gn vj s * F)) : Ent H (staP b s * F) := Ent.hexI (p := fun x : Nat × Value => staB b x.1 x.2 s) (gn, vj) e
end
theorem Ms.at_cases (m : Ms) (i : Int) : (m.at_ i = none ∧ (i < 0 ∨ (m.sts.length : Int) ≤ i)) ∨ ∃ (j : Nat) (s : Sta), i = (j : Int) ∧ m.sts[j]? = some s ∧ m.at_ i = some s := by
  by_cases h : i < 0 ∨ (m.sts.length : Int) ≤ i
  · exact .inl ⟨Ms.at_out h, h⟩
  · obtain ⟨j, rfl⟩ : ∃ j : Nat, i = (j : Int) := ⟨i.toNat, by omega⟩
    exact .inr ⟨j, _, rfl, List.getElem?_eq_getElem (by omega), (m.at_nat j).trans (List.getElem?_eq_getElem (by omega))⟩
attribute [local irreducible] WS LS OpQ OpT OpH OpTQ Spec SpecQ cel
variable (w0 : World)
set_option maxRecDepth 100000 in
theorem mruns_spec (gm : Nat) (k : MH) (m : Ms) (i : Int) (h6 : m.sts.length ≤ 6) : Spec Tryz.prog w0 22 [ptr gm 0, .int .i64 i] (mshI gm k m) (fun x : Unit => .bool ((m.at_ i).bind (·.node)).isSome) (fun x => mshI gm k m * emp) := by
  refine Spec.enter Tryz.func22 rfl Tryz.ntmps22 rfl fun G => ?_
  refine WS_mshI fun va ve hbl => ?_
  simp only [argE]
  rcases m.at_cases i with ⟨hat, hi⟩ | ⟨j, s, rfl, hs, hat⟩
  · have p1 := stationNo_spec w0 gm m ⟨k.vs, k.bs, k.r, va, ve⟩ i (by show i < 0 ∨ (k.bs.length : Int) ≤ i; omega) (by show k.bs.length ≤ 6; omega)
    rw [hat]
    simp only [mshC] at p1 ⊢
    repeat' (first | (refine WS_seqK ?_; intro K hK) | (refine hK _ ?_; clear hK K) | refine stZ ?_ | (refine s2Z ?_ ?_ <;> intro hc <;> (try simp only [cS] at hc) <;> (try (exfalso; first | contradiction | omega))) | refine sqZ ?_ | ((refine' LQ ?zh rfl ?_); case zh => intro F'; exact Q_bin rfl rfl iI) | (refine LS_h (H_callX iI rfl p1 iI) rfl ?_; intro u1))
    refine ret_tmp (.inl rfl) rfl rfl ⟨(), rfl, ?_⟩
    rw [star_assoc (mshI _ _ _)]
    refine Ent.mshI va ve ?_
    simp only [mshC, emp_star]
    exact finE
  · obtain ⟨b, hb⟩ : ∃ b, k.bs[j]? = some b := ⟨_, List.getElem?_eq_getElem (by have := (List.getElem?_eq_some_iff.1 hs).1; omega)⟩
    have p1 := station_spec w0 gm m ⟨k.vs, k.bs, k.r, va, ve⟩ j b hb (by show k.bs.length ≤ 6; omega)
    obtain ⟨R, e1, e2⟩ := stas_open hbl hb hs
    rw [hat, e1]
    simp only [mshC] at p1 ⊢
    have hopen : ∀ (c : Code) (Q : Exit → St → Prop) (n : Frm) (E : Env), (∀ gn vj, WS Tryz.prog n w0 c Q ⟨E, [], staB b gn vj s * (cel gm 108 (mshC m ⟨k.vs, k.bs, k.r, va, ve⟩) * (rows 115 1 ptrC k.vs k.bs * (mp u32 i64 k.r (amap 0 m.sts) * (R * (rows 114 3 flC va m.air * G)))))⟩) → WS Tryz.prog n w0 c Q ⟨E, [], cel gm 108 (mshC m ⟨k.vs, k.bs, k.r, va, ve⟩) * (rows 115 1 ptrC k.vs k.bs * (mp u32 i64 k.r (amap 0 m.sts) * (staP b s * R * (rows 114 3 flC va m.air * G))))⟩ := fun c Q n E h => by
      have e : cel gm 108 (mshC m ⟨k.vs, k.bs, k.r, va, ve⟩) * (rows 115 1 ptrC k.vs k.bs * (mp u32 i64 k.r (amap 0 m.sts) * (staP b s * R * (rows 114 3 flC va m.air * G)))) = (hex fun x : Nat × Value => staB b x.1 x.2 s) * (cel gm 108 (mshC m ⟨k.vs, k.bs, k.r, va, ve⟩) * (rows 115 1 ptrC k.vs k.bs * (mp u32 i64 k.r (amap 0 m.sts) * (R * (rows 114 3 flC va m.air * G))))) := by
        show _ = staP b s * _
        ac_rfl
      rw [e]
      exact WS_hex fun x => h x.1 x.2
    simp only [mshC] at hopen
    refine hopen _ _ _ _ fun gn vj => ?_
    clear hopen
    simp only [staB, staC]
    have hfin : ∀ (H Z : HProp), Ent H (staB b gn vj s * (cel gm 108 (mshC m ⟨k.vs, k.bs, k.r, va, ve⟩) * (rows 115 1 ptrC k.vs k.bs * (mp u32 i64 k.r (amap 0 m.sts) * (R * (rows 114 3 flC va m.air * Z)))))) → Ent H (mshI gm k m * Z) := fun H Z h => by
      refine Ent.mshI va ve ?_
      rw [e1]
      refine h.trans ?_
      have e : cel gm 108 (mshC m ⟨k.vs, k.bs, k.r, va, ve⟩) * (rows 115 1 ptrC k.vs k.bs * (mp u32 i64 k.r (amap 0 m.sts) * (staP b s * R * (rows 114 3 flC va m.air * Z)))) = staP b s * (cel gm 108 (mshC m ⟨k.vs, k.bs, k.r, va, ve⟩) * (rows 115 1 ptrC k.vs k.bs * (mp u32 i64 k.r (amap 0 m.sts) * (R * (rows 114 3 flC va m.air * Z))))) := by ac_rfl
      rw [e]
      exact staP_I gn vj (Ent.refl _)
    simp only [mshC, staB, staC] at hfin
    simp only [Option.bind_some]
    cases ht : s.node with
    | none =>
      simp only [ht, ptrN, staN] at hfin ⊢
      repeat' (first | (refine WS_seqK ?_; intro K hK) | (refine hK _ ?_; clear hK K) | refine stZ ?_ | (refine s2Z ?_ ?_ <;> intro hc <;> (try simp only [cS] at hc) <;> (try (exfalso; first | contradiction | omega))) | refine sqZ ?_ | ((refine' LQ ?zh rfl ?_); case zh => intro F'; exact Q_bin rfl rfl iI) | (refine LS_h (H_callX iI rfl p1 iI) rfl ?_; intro u1))
      refine ret_tmp (.inl rfl) rfl rfl ⟨(), rfl, ?_⟩
      rw [star_assoc (mshI _ _ _), emp_star]
      refine hfin _ _ ?_
      exact finE
    | some t =>
      simp only [ht, ptrN, staN] at hfin ⊢
      repeat' (first | (refine WS_seqK ?_; intro K hK) | (refine hK _ ?_; clear hK K) | refine stZ ?_ | (refine s2Z ?_ ?_ <;> intro hc <;> (try simp only [cS] at hc) <;> (try (exfalso; first | contradiction | omega))) | refine sqZ ?_ | ((refine' LQ ?zh rfl ?_); case zh => intro F'; exact Q_bin rfl rfl iI) | (refine LS_h (H_callX iI rfl p1 iI) rfl ?_; intro u1))
      refine ret_tmp (.inl rfl) rfl rfl ⟨(), rfl, ?_⟩
      rw [star_assoc (mshI _ _ _), emp_star]
      refine hfin _ _ ?_
      exact finE
set_option maxRecDepth 100000 in
theorem mroutesI_spec (gm : Nat) (k : MH) (m : Ms) (i : Int) (h6 : m.sts.length ≤ 6) (ok : ∀ (j : Nat) s t, m.sts[j]? = some s → s.node = some t → TabOk t.ls) : Spec Tryz.prog w0 21 [ptr gm 0, .int .i64 i] (mshI gm k m) (fun x : Value × List LnS => x.1) (fun x => mshI gm k m * (pure' (x.2.map (·.1) = ((((m.at_ i).bind (·.node)).map fun t : Nd => listT t.ls).getD [])) * (rows 53 7 routeS x.1 x.2 * befs x.2))) := by
  refine Spec.enter Tryz.func21 rfl Tryz.ntmps21 rfl fun G => ?_
  refine WS_mshI fun va ve hbl => ?_
  simp only [argE]
  rcases m.at_cases i with ⟨hat, hi⟩ | ⟨j, s, rfl, hs, hat⟩
  · have p1 := stationNo_spec w0 gm m ⟨k.vs, k.bs, k.r, va, ve⟩ i (by show i < 0 ∨ (k.bs.length : Int) ≤ i; omega) (by show k.bs.length ≤ 6; omega)
    rw [hat]
    simp only [mshC] at p1 ⊢
    repeat' (first | (refine WS_seqK ?_; intro K hK) | (refine hK _ ?_; clear hK K) | refine stZ ?_ | (refine s2Z ?_ ?_ <;> intro hc <;> (try simp only [cS] at hc) <;> (try (exfalso; first | contradiction | omega))) | refine sqZ ?_ | ((refine' LQ ?zh rfl ?_); case zh => intro F'; exact Q_bin rfl rfl iI) | (refine LS_h (H_callX iI rfl p1 iI) rfl ?_; intro u1))
    refine ret_tmp (.inl rfl) rfl rfl ⟨(.slice none 0 0, []), rfl, ?_⟩
    rw [star_assoc (mshI _ _ _)]
    refine Ent.mshI va ve ?_
    rw [pure'_true (by rfl)]
    simp only [mshC, befs, emp_star]
    exact finE
  · obtain ⟨b, hb⟩ : ∃ b, k.bs[j]? = some b := ⟨_, List.getElem?_eq_getElem (by have := (List.getElem?_eq_some_iff.1 hs).1; omega)⟩
    have p1 := station_spec w0 gm m ⟨k.vs, k.bs, k.r, va, ve⟩ j b hb (by show k.bs.length ≤ 6; omega)
    obtain ⟨R, e1, e2⟩ := stas_open hbl hb hs
    rw [hat, e1]
    simp only [mshC] at p1 ⊢
    have hopen : ∀ (c : Code) (Q : Exit → St → Prop) (n : Frm) (E : Env), (∀ gn vj, WS Tryz.prog n w0 c Q ⟨E, [], staB b gn vj s * (cel gm 108 (mshC m ⟨k.vs, k.bs, k.r, va, ve⟩) * (rows 115 1 ptrC k.vs k.bs * (mp u32 i64 k.r (amap 0 m.sts) * (R * (rows 114 3 flC va m.air * G)))))⟩) → WS Tryz.prog n w0 c Q ⟨E, [], cel gm 108 (mshC m ⟨k.vs, k.bs, k.r, va, ve⟩) * (rows 115 1 ptrC k.vs k.bs * (mp u32 i64 k.r (amap 0 m.sts) * (staP b s * R * (rows 114 3 flC va m.air * G))))⟩ := fun c Q n E h => by
      have e : cel gm 108 (mshC m ⟨k.vs, k.bs, k.r, va, ve⟩) * (rows 115 1 ptrC k.vs k.bs * (mp u32 i64 k.r (amap 0 m.sts) * (staP b s * R * (rows 114 3 flC va m.air * G)))) = (hex fun x : Nat × Value => staB b x.1 x.2 s) * (cel gm 108 (mshC m ⟨k.vs, k.bs, k.r, va, ve⟩) * (rows 115 1 ptrC k.vs k.bs * (mp u32 i64 k.r (amap 0 m.sts) * (R * (rows 114 3 flC va m.air * G))))) := by
        show _ = staP b s * _
        ac_rfl
      rw [e]
      exact WS_hex fun x => h x.1 x.2
    simp only [mshC] at hopen
    refine hopen _ _ _ _ fun gn vj => ?_
    clear hopen
    simp only [staB, staC]
    have hfin : ∀ (H Z : HProp), Ent H (staB b gn vj s * (cel gm 108 (mshC m ⟨k.vs, k.bs, k.r, va, ve⟩) * (rows 115 1 ptrC k.vs k.bs * (mp u32 i64 k.r (amap 0 m.sts) * (R * (rows 114 3 flC va m.air * Z)))))) → Ent H (mshI gm k m * Z) := fun H Z h => by
      refine Ent.mshI va ve ?_
      rw [e1]
      refine h.trans ?_
      have e : cel gm 108 (mshC m ⟨k.vs, k.bs, k.r, va, ve⟩) * (rows 115 1 ptrC k.vs k.bs * (mp u32 i64 k.r (amap 0 m.sts) * (staP b s * R * (rows 114 3 flC va m.air * Z)))) = staP b s * (cel gm 108 (mshC m ⟨k.vs, k.bs, k.r, va, ve⟩) * (rows 115 1 ptrC k.vs k.bs * (mp u32 i64 k.r (amap 0 m.sts) * (R * (rows 114 3 flC va m.air * Z))))) := by ac_rfl
      rw [e]
      exact staP_I gn vj (Ent.refl _)
    simp only [mshC, staB, staC] at hfin
    simp only [Option.bind_some]
    cases ht : s.node with
    | none =>
      simp only [ht, ptrN, staN] at hfin ⊢
      repeat' (first | (refine WS_seqK ?_; intro K hK) | (refine hK _ ?_; clear hK K) | refine stZ ?_ | (refine s2Z ?_ ?_ <;> intro hc <;> (try simp only [cS] at hc) <;> (try (exfalso; first | contradiction | omega))) | refine sqZ ?_ | ((refine' LQ ?zh rfl ?_); case zh => intro F'; exact Q_bin rfl rfl iI) | (refine LS_h (H_callX iI rfl p1 iI) rfl ?_; intro u1))
      refine ret_tmp (.inl rfl) rfl rfl ⟨(.slice none 0 0, []), rfl, ?_⟩
      rw [star_assoc (mshI _ _ _)]
      refine hfin _ _ ?_
      rw [pure'_true (by rfl)]
      simp only [befs, emp_star]
      exact finE
    | some t =>
      have p2 := nroutes_spec w0 gn t (ok j s t hs ht)
      simp only [ht, ptrN, staN] at hfin ⊢
      repeat' (first | (refine WS_seqK ?_; intro K hK) | (refine hK _ ?_; clear hK K) | refine stZ ?_ | (refine s2Z ?_ ?_ <;> intro hc <;> (try simp only [cS] at hc) <;> (try (exfalso; first | contradiction | omega))) | refine sqZ ?_ | ((refine' LQ ?zh rfl ?_); case zh => intro F'; exact Q_bin rfl rfl iI) | (refine LS_h (H_callX iI rfl p1 iI) rfl ?_; intro u1) | (refine LS_h (H_callX iI rfl p2 iI) rfl ?_; intro x2))
      refine ret_tmp (.inl rfl) rfl rfl ⟨x2, rfl, ?_⟩
      rw [star_assoc (mshI _ _ _)]
      refine hfin _ _ ?_
      simp only [Option.map_some, Option.getD_some]
      exact finE
end

section
open Go.RowKit
instance zeroMesh : Zero Tryz.prog 108 (.agg #[.slice none 0 0, .map none, .bool false, .bool false, .bool false, .bool false, .bool false, .bool false, .bool false, .bool false, .bool false, .bool false, .bool false, .bool false, .bool false, .bool false, .bool false, .bool false, .bool false, .bool false, .bool false, .bool false, .bool false, .bool false, .bool false, .bool false, .bool false, .bool false, .bool false, .bool false, .bool false, .bool false, .bool false, .bool false, .bool false, .bool false, .bool false, .bool false, .slice none 0 0, .int .u64 0, .slice none 0 0]) [.slice none 0 0, .map none, .bool false, .bool false, .bool false, .bool false, .bool false, .bool false, .bool false, .bool false, .bool false, .bool false, .bool false, .bool false, .bool false, .bool false, .bool false, .bool false, .bool false, .bool false, .bool false, .bool false, .bool false, .bool false, .bool false, .bool false, .bool false, .bool false, .bool false, .bool false, .bool false, .bool false, .bool false, .bool false, .bool false, .bool false, .bool false, .bool false, .slice none 0 0, .int .u64 0, .slice none 0 0] := ⟨by kernel_rfl, rfl⟩
theorem H_convBs {P : Program} {n : Frm} {w0 : World} {E : Env} {H : HProp} {d : Option Tmp} {ty : TypeId} {pos : String} {after : Array Edge} {gu : Option (Nat × Bool)} {x : Operand} {src dst e : TypeId} {l : Str} (hx : E.ev x = some (strV l)) (hs : Und P src .string) (hd : Und P dst (.slice e)) (he : Und P e (.int .u8)) (hn : l.length ≤ 1000000) : OpH P n w0 ⟨d, .convert src dst x, ty, pos, after, gu⟩ E H (fun y : SV => slV' y) (fun y => rows e 1 byteC (slV' y) l * H) := by
  refine OpH.mk' (pre := emp) (post := fun y : SV => rows e 1 byteC (slV' y) l) ?_ emp_star.symm
  intro G a w K Q s hs' hK
  rw [emp_star] at hs'
  obtain ⟨pre, post0, F, hop, hH, hp⟩ := H_convB (H := G) (P := P) (n := n) (w0 := w0) (d := d) (ty := ty) (pos := pos) (after := after) (gu := gu) hx hs hd he hn
  refine hop F a w K Q s (hs'.cast hH) fun x w' hx' => ?_
  have h2 := hx'.cast (hp x).symm
  obtain ⟨A, c, rfl⟩ := rows_form h2
  exact hK (A, l.length, c) w' h2
theorem newSta_sound (a : UInt32) : (newSta a).Sound 0 := by
  have h : Sta.Says ⟨a, some (Nd.new a [] 0), [], 0, false⟩ (Nd.newO a [] 0) 0 := ⟨⟨_, rfl, Nd.new_rest _ _ _, Nd.new_self _ _ _, Nd.new_joins _ _ _, Nd.new_ne _ _ _⟩, by simp, by simp⟩
  have hw := h.wrote
  have e : Sta.write ⟨a, some (Nd.new a [] 0), [], 0, false⟩ (Nd.newO a [] 0) = newSta a := by
    unfold Sta.write newSta
    split <;> simp
  rw [e] at hw
  exact hw
theorem amap_snoc (s : Sta) : ∀ (sts : List Sta) (k : Nat), stFind sts s.addr = none → mset (amap k sts) s.addr ((k + sts.length : Nat) : Int) = amap k (sts ++ [s])
  | [], k, _ => rfl
  | x :: r, k, h => by
    simp only [stFind] at h
    by_cases e : x.addr = s.addr
    · rw [if_pos e] at h; cases h
    · rw [if_neg e] at h
      have h' : stFind r s.addr = none := by
        cases hr : stFind r s.addr with
        | none => rfl
        | some j => rw [hr] at h; cases h
      have ih := amap_snoc s r (k + 1) h'
      simp only [amap, List.cons_append, mset_cons, if_neg e, List.length_cons]
      rw [← ih]
      congr 2
      omega
theorem stFind_none {l : List UInt32} {a : UInt32} (h : a ∉ l) : stFind (l.map newSta) a = none := by
  induction l with
  | nil => rfl
  | cons x r ih =>
    simp only [List.map_cons, stFind]
    rw [if_neg (fun e => h (by rw [← e]; exact List.mem_cons_self)), ih (fun h' => h (List.mem_cons_of_mem _ h'))]
    rfl
theorem stasQ_snoc {bs : List Nat} {sts : List Sta} (b : Nat) (s : Sta) (h : bs.length = sts.length) : stasQ (bs ++ [b]) (sts ++ [s]) = staP b s * stasQ bs sts := by
  rw [stasQ_eq (by simp [h]), stasQ_eq h, zrow_snoc b s h]
attribute [local irreducible] WS LS OpQ OpT OpH OpTQ Spec SpecQ cel
variable (w0 : World)
set_option maxRecDepth 100000 in
theorem mnewM_spec (l : List UInt32) (hl : 0 < l.length ∧ l.length ≤ 6) (h0 : ∀ a ∈ l, a ≠ 0) (hn : l.Nodup) (v : Value) (X : HProp) [hX : Rdr w0 X v UInt32 1 wordC l] :
    Spec Tryz.prog w0 26 [v] X (fun x : Nat × MH => .tuple #[ptr x.1 0, .int .i64 0]) (fun x => mshI x.1 x.2 (Ms.new l) * X) := by
  refine Spec.enter Tryz.func26 rfl Tryz.ntmps26 rfl fun G => ?_
  simp only [argE]
  have h1 : ¬ (l.length : Int) = 0 := by omega
  have h2 : ¬ (6 : Int) < (l.length : Int) := by omega
  repeat' (first | (refine WS_seqK ?_; intro K hK) | (refine hK _ ?_; clear hK K) | refine stZ ?_ | (refine s2Z ?_ ?_ <;> intro hc <;> (try simp only [cS] at hc) <;> (try (exfalso; first | contradiction | omega))) | refine sbZ ?_ | refine sqZ ?_ | (refine LS_h (H_makeMap u32 i64) rfl ?_; intro r) | (refine LS_h (H_box rfl) rfl ?_; intro gm))
  refine WS_loop (fun kk τ => ∃ (q : Nat) (vs : Value) (bs : List Nat), q + kk = l.length ∧ bs.length = q ∧ τ = ⟨[(24, .int .i64 (q : Int)), (23, .int .i64 (l.length : Int)), (22, v), (4, ptr gm 0), (0, v)], [], cel gm 108 (mshC (Ms.new []) ⟨vs, bs, r, .slice none 0 0, .slice none 0 0⟩) * (rows 115 1 ptrC vs bs * (mp u32 i64 r (amap 0 ((l.take q).map newSta)) * (stasQ bs ((l.take q).map newSta) * (X * G))))⟩) ?_ ?_
  · refine ⟨l.length, _, ⟨0, .slice none 0 0, [], by omega, rfl, rfl⟩, ⟨rfl, rfl, rfl, rfl, rfl, trivial⟩, rfl, ?_⟩
    rw [List.take_zero, List.map_nil, stasQ_eq rfl]
    show Ent (cel gm 108 (mshC (Ms.new []) ⟨.slice none 0 0, [], r, .slice none 0 0, .slice none 0 0⟩) * (mp u32 i64 r [] * (X * G))) (cel gm 108 (mshC (Ms.new []) ⟨.slice none 0 0, [], r, .slice none 0 0, .slice none 0 0⟩) * (rows 115 1 ptrC (.slice none 0 0) [] * (mp u32 i64 r [] * (emp * (X * G)))))
    rw [emp_star]
    exact finE
  · rintro kk τ ⟨q, vs, bs, hqk, hbq, rfl⟩
    rcases Nat.lt_or_ge q l.length with hlt | hge
    · obtain ⟨a, ha⟩ : ∃ a, l[q]? = some a := ⟨_, List.getElem?_eq_getElem hlt⟩
      have hmem := List.mem_of_getElem? ha
      have ha0 : ¬ a = 0 := h0 a hmem
      have hnot : a ∉ l.take q := by
        intro h
        have hd : a ∈ l.drop q := List.mem_of_getElem? (i := 0) (by rw [List.getElem?_drop, Nat.add_zero, ha])
        have hn' : (l.take q ++ l.drop q).Nodup := by rw [List.take_append_drop]; exact hn
        exact (List.nodup_append.1 hn').2.2 a h a hd rfl
      have hfind : stFind ((l.take q).map newSta) (newSta a).addr = none := stFind_none hnot
      have hget : mget (amap 0 ((l.take q).map newSta)) a = none := by rw [amap_get]; show (stFind _ (newSta a).addr).map _ = none; rw [hfind]; rfl
      have hsnoc := amap_snoc (newSta a) ((l.take q).map newSta) 0 hfind
      rw [show ((0 + ((l.take q).map newSta).length : Nat) : Int) = (q : Int) by simp; omega] at hsnoc
      have htk : (l.take (q + 1)).map newSta = (l.take q).map newSta ++ [newSta a] := by
        rw [List.take_add_one, ha]; simp
      have hblen : bs.length = ((l.take q).map newSta).length := by rw [hbq]; simp; omega
      have hq1 : (q : Int) < (l.length : Int) := by omega
      have hbs6 : bs.length ≤ 6 := by omega
      have hjl : (Nd.newO a [] 0).journal.length ≤ 1000000 := by have := (newSta_sound a).jour; show (newSta a).journal.length ≤ _; omega
      have p4 := (nnew_spec w0 a [] (by simp) 0 (.slice none 0 0) (rows 5 1 byteC (.slice none 0 0) [])).rein (fun y : Nat × SV × SV × SV => (y.1, svV y.2)) (fun x => (x.1, svOf3 x.2)) (fun x w F hx => by rw [star_assoc, star_assoc, star_left_comm] at hx; show (x.1, svV (svOf3 x.2)) = x; rw [outR_form hx])
      have p5 := p4.conv (X' := emp) (fun Z => by rw [emp_star]; exact Ent.nil _ _ _ _ _) (fun _ _ => Ent.refl _)
      clear p4
      have hns : newSta a = ⟨a, some (Nd.new a [] 0), (Nd.newO a [] 0).journal, 0, false⟩ := rfl
      generalize Nd.new a [] 0 = t2 at *
      generalize Nd.newO a [] 0 = o2 at *
      simp only [outA, svV, slV'] at p5
      simp only [mshC]
      repeat' (first | (refine WS_seqK ?_; intro K hK) | (refine hK _ ?_; clear hK K) | refine stZ ?_ | (refine s2Z ?_ ?_ <;> intro hc <;> (try simp only [cS] at hc) <;> (try (exfalso; first | contradiction | omega))) | refine sbZ ?_ | refine sqZ ?_ | ((first | refine' LQ ?zh rfl ?_ | refine' DL_qp rfl rfl rfl ?zh ?_ | refine' DL_q rfl rfl ?zh ?_); case zh => intro F'; exact Q_lookupOk_n rfl rfl iI iI iI iI iI (by assumption)) | ((first | refine' LS_h ?zh rfl ?_ | refine' DL_h ?zh rfl rfl rfl ?_); (case zh => exact H_alloc iI); intro g) | (refine s0Z ?_; intro g) | ((first | refine' LS_h0 ?zh ?_ | refine' DL_h0 ?zh rfl rfl ?_); (case zh => exact H_mapUpdate rfl rfl rfl iI iI iI iI iI); intro g) | (refine LS_h (H_callX iI rfl p5 ⟨emp_star.symm⟩) rfl ?_; intro x5) | (show WS _ _ _ (.region 12 _ true) _ _; refine WS_drawK (.range 17) 13 [4, 8] (by decide +kernel) rfl ?_) | (refine DL_h (H_convBs rfl iI iI iI hjl) rfl rfl rfl ?_; intro vb) | (refine DL_h (H_box rfl) rfl rfl rfl ?_; intro bx) | (refine DL_h (H_buildSliceR ptrC [bx] iI iI iI rfl rfl rfl rfl rfl iI rfl rfl rfl) rfl rfl rfl ?_; intro vx) | (refine DL_h (H_appendR rfl rfl iI iI rfl iI iI ptrC_one (by first | omega | (simp [be_length] <;> omega)) rfl) rfl rfl rfl ?_; intro va))
      refine ⟨kk - 1, _, by omega, ⟨q + 1, va, bs ++ [bx], by omega, by simp [hbq], rfl⟩, ⟨rfl, rfl, rfl, rfl, rfl, trivial⟩, rfl, ?_⟩
      rw [htk, stasQ_snoc bx (newSta a) hblen, ← hsnoc, star_assoc (staP _ _)]
      simp only [star_assoc, emp_star, star_emp]
      refine Ent.trans (F := staB bx x5.1 (slV' vb) (newSta a) * (cel gm 108 (mshC (Ms.new []) ⟨va, bs ++ [bx], r, .slice none 0 0, .slice none 0 0⟩) * (rows 115 1 ptrC va (bs ++ [bx]) * (mp u32 i64 r (mset (amap 0 ((l.take q).map newSta)) a (q : Int)) * (stasQ bs ((l.take q).map newSta) * (X * G)))))) (by rw [hns]; simp only [staB, staC, ptrN, staN, mshC, star_assoc]; exact finE) ?_
      refine Ent.trans (staP_I (F := cel gm 108 (mshC (Ms.new []) ⟨va, bs ++ [bx], r, .slice none 0 0, .slice none 0 0⟩) * (rows 115 1 ptrC va (bs ++ [bx]) * (mp u32 i64 r (mset (amap 0 ((l.take q).map newSta)) a (q : Int)) * (stasQ bs ((l.take q).map newSta) * (X * G))))) x5.1 (slV' vb) (Ent.refl _)) ?_
      show Ent _ (cel gm 108 (mshC (Ms.new []) ⟨va, bs ++ [bx], r, .slice none 0 0, .slice none 0 0⟩) * (rows 115 1 ptrC va (bs ++ [bx]) * (mp u32 i64 r (mset (amap 0 ((l.take q).map newSta)) a (q : Int)) * (staP bx (newSta a) * (stasQ bs ((l.take q).map newSta) * (X * G))))))
      exact finE
    · obtain rfl : q = l.length := by omega
      have hq1 : ¬ (l.length : Int) < (l.length : Int) := by omega
      repeat' (first | (refine WS_seqK ?_; intro K hK) | (refine hK _ ?_; clear hK K) | refine stZ ?_ | (refine s2Z ?_ ?_ <;> intro hc <;> (try simp only [cS] at hc) <;> (try (exfalso; first | contradiction | omega))) | refine sbZ ?_ | refine sqZ ?_)
      refine ret_tmp2 (.inl rfl) rfl rfl rfl ⟨(gm, ⟨vs, bs, r, .slice none 0 0, .slice none 0 0⟩), rfl, ?_⟩
      rw [List.take_length, star_assoc (mshI _ _ _)]
      refine Ent.mshI (.slice none 0 0) (.slice none 0 0) ?_
      show Ent _ (cel gm 108 (mshC (Ms.new []) ⟨vs, bs, r, .slice none 0 0, .slice none 0 0⟩) * (rows 115 1 ptrC vs bs * (mp u32 i64 r (amap 0 (l.map newSta)) * (stasQ bs (l.map newSta) * (rows 114 3 flC (.slice none 0 0) [] * (X * G))))))
      exact finE
end

section
theorem Ms.Fine.mono {m : Ms} {c d : Nat} (h : m.Fine c) (hd : c ≤ d) : m.Fine d := ⟨h.short, fun i s hs => (h.sound i s hs).mono hd, h.air⟩
theorem Ms.Fine.did {m m' : Ms} {i c d n : Nat} (h : m.Fine c) (hD : m.Did m' i d n) (hc : c ≤ d) : m'.Fine d := by
  refine ⟨by rw [hD.kept.length]; exact h.short, fun j s hs => ?_, hD.air h.air⟩
  by_cases e : j = i
  · subst e
    obtain ⟨s2, h1, h2⟩ := hD.here
    rw [h1] at hs
    cases hs
    exact h2
  · rw [hD.kept.other j e] at hs
    exact (h.sound j s hs).mono hc
theorem Ms.Fine.mod {m : Ms} {i c : Nat} {f : Sta → Sta} (h : m.Fine c) (hf : ∀ s, s.Sound c → (f s).Sound c) : (m.mod i f).Fine c := by
  refine ⟨by show (m.sts.modify i f).length ≤ 6; rw [List.length_modify]; exact h.short, fun j s hs => ?_, ⟨h.air.few, fun x hx => ?_⟩⟩
  · have hs' : (m.sts.modify i f)[j]? = some s := hs
    rw [List.getElem?_modify] at hs'
    by_cases e : i = j
    · subst e
      cases hq : m.sts[i]? with
      | none => rw [hq] at hs'; simp at hs'
      | some q =>
        rw [hq] at hs'
        simp at hs'
        rw [← hs']
        exact hf q (h.sound i q hq)
    · cases hq : m.sts[j]? with
      | none => rw [hq] at hs'; simp at hs'
      | some q =>
        rw [hq] at hs'
        simp [e] at hs'
        rw [← hs']
        exact h.sound j q hq
  · show x.src < (m.sts.modify i f).length ∧ x.dst < (m.sts.modify i f).length ∧ _
    rw [List.length_modify]
    exact h.air.each x hx
theorem Sta.Sound.stop {s : Sta} {c : Nat} (h : s.Sound c) : s.stop.Sound c := ⟨(fun n hn => by cases hn), h.jour, h.tear⟩
theorem Sta.Sound.arm {s : Sta} {c : Nat} (h : s.Sound c) {n : Int} (hn : n ≤ 9223372036854775807) : (s.arm n).Sound c := ⟨h.node, h.jour, by show 0 ≤ max 0 n ∧ max 0 n ≤ 9223372036854775807; omega⟩
theorem Ms.Fine.clear {m : Ms} {c : Nat} (h : m.Fine c) : Ms.Fine { m with evs := [] } c := ⟨h.short, h.sound, ⟨h.air.few, h.air.each⟩⟩
theorem Ms.Fine.frame {m : Ms} {c : Nat} (h : m.Fine c) (o : OpD) (k : Nat) : (m.frame o k).Fine c := by
  unfold Ms.frame
  cases hf : m.air[k]? with
  | none => exact h
  | some f =>
    obtain ⟨a1, a2, a3⟩ := h.air.each f (List.mem_of_getElem? hf)
    have he : Ms.Fine { m with air := m.air.eraseIdx k } c := ⟨h.short, h.sound, h.air.erase k⟩
    simp only
    split
    · cases hs : m.sts[f.dst]? with
      | none => exact he
      | some s =>
        simp only [Option.bind_some]
        cases ht : s.node with
        | none => exact he
        | some t =>
          have hso := h.sound _ s hs
          have hrt := (hso.node t ht).1
          have hw := hrt.wentRcv m.now (((m.sts[f.src]?).map fun x : Sta => x.addr).getD 0) f.bytes
          have hD := Ms.Did.run (m := { m with air := m.air.eraseIdx k }) (i := f.dst) (Ms.Did.emit (Ms.mod_at hs) (hso.says ht hw) hw.pks.le)
          exact he.did hD (Nat.le_refl _)
    · split
      · exact he
      · split
        · exact ⟨h.short, h.sound, h.air.fly a1 a2 a3⟩
        · split
          · refine ⟨h.short, h.sound, ⟨?_, fun x hx => ?_⟩⟩
            · show (m.air.set k _).length ≤ 48
              rw [List.length_set]; exact h.air.few
            · rcases List.mem_or_eq_of_mem_set hx with hx | rfl
              · exact h.air.each x hx
              · refine ⟨a1, a2, ?_⟩
                show (f.bytes.take _).length ≤ 100000
                rw [List.length_take]; omega
          · exact h
theorem Ms.Fine.tick {m : Ms} {c : Nat} (h : m.Fine c) (hc : c ≤ 8500) (n : UInt64) (hn : (m.now + n).toNat ≤ 4611686018427387904) : (m.tick n).Fine (c + 1) := by
  have h1 : Ms.Fine { m with now := m.now + n } c := ⟨h.short, h.sound, ⟨h.air.few, h.air.each⟩⟩
  have hT := Ms.tickN_told h1 hc hn m.sts.length (Nat.le_refl _)
  exact ⟨by show (Ms.tickN m.sts.length { m with now := m.now + n }).sts.length ≤ 6; rw [hT.length]; exact h.short, hT.sound, hT.air⟩
theorem Ms.Fine.node {m : Ms} {c : Nat} (h : m.Fine c) (hc : c ≤ 8500) (hn : m.now.toNat ≤ 4611686018427387904) {o : OpD} (ho : o.Ok) (hk : o.kind = 1 ∨ o.kind = 2 ∨ o.kind = 8 ∨ o.kind = 9 ∨ o.kind = 10 ∨ o.kind = 11) : (m.nodeOp o).Fine (c + 1) := by
  have hev : ∀ e, (m.event e).Fine (c + 1) := fun e => ⟨h.short, fun i s hs => (h.sound i s hs).mono (Nat.le_succ c), ⟨h.air.few, h.air.each⟩⟩
  cases hb : m.bars o with
  | true => rw [Ms.nodeOp_bar hb]; exact hev _
  | false =>
    obtain ⟨i, s, e1, hs, hw, hj⟩ := Ms.bars_false hb
    have hat : m.at_ o.a = some s := by rw [e1, m.at_nat]; exact hs
    have hso := h.sound i s hs
    rcases hk with hk | hk | hk | hk | hk | hk
    · rw [Ms.nodeOp_link hb hk]
      split
      · exact ⟨h.short, fun i s hs => (h.sound i s hs).mono (Nat.le_succ c), ⟨h.air.few, h.air.each⟩⟩
      · exact h.mono (Nat.le_succ c)
    · obtain ⟨j, s2, e2, hs2⟩ := hj (.inr (.inl hk))
      cases ht : s.node with
      | none => rw [ht, hk] at hw; exact absurd (hw (by decide)) (fun h : true = false => by cases h)
      | some t =>
        rw [Ms.nodeOp_send hb hk hat ht (by rw [e2, m.at_nat]; exact hs2)]
        split
        · rename_i he
          have hrt := (hso.node t ht).1
          have hw := hrt.wentSend hn s2.addr o.text (by unfold Nd.sendE at he; split at he; cases he; omega)
          rw [e1, Int.toNat_natCast]
          exact h.did (Ms.Did.run (Ms.Did.emit (Ms.mod_at hs) ((hso.mono (Nat.le_succ c)).says ht hw) hw.pks.le)) (Nat.le_succ c)
        · exact hev _
    · obtain ⟨j, s2, e2, hs2⟩ := hj (.inr (.inr hk))
      cases ht : s.node with
      | none => rw [ht, hk] at hw; exact absurd (hw (by decide)) (fun h : true = false => by cases h)
      | some t =>
        rw [Ms.nodeOp_rcv hb hk hat ht (by rw [e2, m.at_nat]; exact hs2)]
        have hrt := (hso.node t ht).1
        have hw := hrt.wentRcv m.now s2.addr o.text
        rw [e1, Int.toNat_natCast]
        exact (h.did (Ms.Did.run (Ms.Did.emit (Ms.mod_at hs) (hso.says ht hw) hw.pks.le)) (Nat.le_refl c)).mono (Nat.le_succ c)
    · rw [Ms.nodeOp_stop hb hk]
      exact (h.mod fun s hs => hs.stop).mono (Nat.le_succ c)
    · rw [Ms.nodeOp_arm hb hk]
      exact (h.mod fun s hs => hs.arm ho.n.2).mono (Nat.le_succ c)
    · rw [Ms.nodeOp_boot hb hk hat, e1, Int.toNat_natCast]
      have hD := Ms.Did.emit (m := m.mod i (Sta.boot m.now)) (i := i) (c := c) (o := Nd.newO s.addr s.journal m.now) (Ms.mod_at (f := Sta.boot m.now) hs) (hso.boot m.now) (by rw [(Nd.new_frames s.addr s.journal m.now).1]; simp)
      have hk2 : m.Kept (m.mod i (Sta.boot m.now)) i := Ms.Kept.mod (fun _ => rfl)
      have hD2 : m.Did (Ms.emit i (m.mod i (Sta.boot m.now)) (Nd.newO s.addr s.journal m.now)) i c (1 + (Nd.newO s.addr s.journal m.now).frames.length) := ⟨hk2.trans hD.kept, hD.here, fun ha => hD.air ⟨ha.few, fun x hx => by rw [hk2.length]; exact ha.each x hx⟩, hD.evs⟩
      exact (h.did hD2 (Nat.le_refl c)).mono (Nat.le_succ c)
theorem Ms.Fine.do_ {m : Ms} {c : Nat} (h : m.Fine c) (hc : c ≤ 8500) (hn : m.now.toNat + 60000 ≤ 4611686018427387904) {o : OpD} (ho : o.Ok) : (m.do_ o).Fine (c + 1) := by
  have h1 := h.clear
  by_cases hF : o.kind = 4 ∨ o.kind = 5 ∨ o.kind = 6 ∨ o.kind = 7
  · rw [Ms.do_frame hF]
    split
    · exact (h1.frame _ _).mono (Nat.le_succ c)
    · exact h1.mono (Nat.le_succ c)
  · by_cases hT : o.kind = 3
    · rw [Ms.do_tick hT]
      split
      · rename_i hr
        refine h1.tick hc _ ?_
        rw [UInt64.toNat_add]
        refine Nat.le_trans (Nat.mod_le _ _) ?_
        have : (UInt64.ofNat o.n.toNat).toNat ≤ 60000 := by
          rw [UInt64.toNat_ofNat']
          exact Nat.le_trans (Nat.mod_le _ _) (by omega)
        show m.now.toNat + _ ≤ _
        omega
      · exact h1.mono (Nat.le_succ c)
    · by_cases hN : o.kind = 1 ∨ o.kind = 2 ∨ o.kind = 8 ∨ o.kind = 9 ∨ o.kind = 10 ∨ o.kind = 11
      · rw [Ms.do_node hN]
        exact h1.node hc (by show m.now.toNat ≤ _; omega) ho hN
      · rw [Ms.do_none hF hT hN]
        exact h1.mono (Nat.le_succ c)
def Ms.Same (m m' : Ms) : Prop := m'.now = m.now ∧ m'.sts.map (·.addr) = m.sts.map (·.addr)
theorem Ms.Same.did {m m' : Ms} {i d n : Nat} (hD : m.Did m' i d n) : m.Same m' := ⟨hD.kept.now, hD.kept.addrs⟩
theorem Ms.Same.mod {m : Ms} {i : Nat} {f : Sta → Sta} (hf : ∀ s, (f s).addr = s.addr) : m.Same (m.mod i f) := ⟨rfl, (Ms.Kept.mod (i := i) hf).addrs⟩
theorem Ms.Fine.frame_same {m : Ms} {c : Nat} (h : m.Fine c) (o : OpD) (k : Nat) : m.Same (m.frame o k) := by
  unfold Ms.frame
  cases hf : m.air[k]? with
  | none => exact ⟨rfl, rfl⟩
  | some f =>
    simp only
    split
    · cases hs : m.sts[f.dst]? with
      | none => exact ⟨rfl, rfl⟩
      | some s =>
        simp only [Option.bind_some]
        cases ht : s.node with
        | none => exact ⟨rfl, rfl⟩
        | some t =>
          have hso := h.sound _ s hs
          have hrt := (hso.node t ht).1
          have hw := hrt.wentRcv m.now (((m.sts[f.src]?).map fun x : Sta => x.addr).getD 0) f.bytes
          have hD := Ms.Did.run (m := { m with air := m.air.eraseIdx k }) (i := f.dst) (Ms.Did.emit (Ms.mod_at hs) (hso.says ht hw) hw.pks.le)
          exact ⟨hD.kept.now, hD.kept.addrs⟩
    · split
      · exact ⟨rfl, rfl⟩
      · split
        · exact ⟨rfl, rfl⟩
        · split
          · exact ⟨rfl, rfl⟩
          · exact ⟨rfl, rfl⟩
theorem Ms.Fine.node_same {m : Ms} {c : Nat} (h : m.Fine c) (hn : m.now.toNat ≤ 4611686018427387904) {o : OpD} (hk : o.kind = 1 ∨ o.kind = 2 ∨ o.kind = 8 ∨ o.kind = 9 ∨ o.kind = 10 ∨ o.kind = 11) : m.Same (m.nodeOp o) := by
  cases hb : m.bars o with
  | true => rw [Ms.nodeOp_bar hb]; exact ⟨rfl, rfl⟩
  | false =>
    obtain ⟨i, s, e1, hs, hw, hj⟩ := Ms.bars_false hb
    have hat : m.at_ o.a = some s := by rw [e1, m.at_nat]; exact hs
    have hso := h.sound i s hs
    rcases hk with hk | hk | hk | hk | hk | hk
    · rw [Ms.nodeOp_link hb hk]
      split <;> exact ⟨rfl, rfl⟩
    · obtain ⟨j, s2, e2, hs2⟩ := hj (.inr (.inl hk))
      cases ht : s.node with
      | none => rw [ht, hk] at hw; exact absurd (hw (by decide)) (fun h : true = false => by cases h)
      | some t =>
        rw [Ms.nodeOp_send hb hk hat ht (by rw [e2, m.at_nat]; exact hs2)]
        split
        · rename_i he
          have hrt := (hso.node t ht).1
          have hw := hrt.wentSend hn s2.addr o.text (by unfold Nd.sendE at he; split at he; cases he; omega)
          rw [e1, Int.toNat_natCast]
          exact Ms.Same.did (Ms.Did.run (Ms.Did.emit (Ms.mod_at hs) ((hso.mono (Nat.le_succ c)).says ht hw) hw.pks.le))
        · exact ⟨rfl, rfl⟩
    · obtain ⟨j, s2, e2, hs2⟩ := hj (.inr (.inr hk))
      cases ht : s.node with
      | none => rw [ht, hk] at hw; exact absurd (hw (by decide)) (fun h : true = false => by cases h)
      | some t =>
        rw [Ms.nodeOp_rcv hb hk hat ht (by rw [e2, m.at_nat]; exact hs2)]
        have hrt := (hso.node t ht).1
        have hw := hrt.wentRcv m.now s2.addr o.text
        rw [e1, Int.toNat_natCast]
        exact Ms.Same.did (Ms.Did.run (Ms.Did.emit (Ms.mod_at hs) (hso.says ht hw) hw.pks.le))
    · rw [Ms.nodeOp_stop hb hk]
      exact Ms.Same.mod fun _ => rfl
    · rw [Ms.nodeOp_arm hb hk]
      exact Ms.Same.mod fun _ => rfl
    · rw [Ms.nodeOp_boot hb hk hat, e1, Int.toNat_natCast]
      have hD := Ms.Did.emit (m := m.mod i (Sta.boot m.now)) (i := i) (c := c) (o := Nd.newO s.addr s.journal m.now) (Ms.mod_at (f := Sta.boot m.now) hs) (hso.boot m.now) (by rw [(Nd.new_frames s.addr s.journal m.now).1]; simp)
      have hk2 : m.Kept (m.mod i (Sta.boot m.now)) i := Ms.Kept.mod (fun _ => rfl)
      exact ⟨(hk2.trans hD.kept).now, (hk2.trans hD.kept).addrs⟩
theorem Ms.Fine.do_same {m : Ms} {c : Nat} (h : m.Fine c) (hc : c ≤ 8500) (hn : m.now.toNat + 60000 ≤ 4611686018427387904) (o : OpD) : (m.do_ o).now.toNat ≤ m.now.toNat + 60000 ∧ (m.do_ o).sts.map (·.addr) = m.sts.map (·.addr) := by
  have h1 := h.clear
  have fin : ∀ m', Ms.Same { m with evs := [] } m' → m'.now.toNat ≤ m.now.toNat + 60000 ∧ m'.sts.map (·.addr) = m.sts.map (·.addr) := fun m' hs => ⟨by rw [hs.1]; exact Nat.le_add_right _ _, hs.2⟩
  by_cases hF : o.kind = 4 ∨ o.kind = 5 ∨ o.kind = 6 ∨ o.kind = 7
  · rw [Ms.do_frame hF]
    split
    · exact fin _ (h1.frame_same _ _)
    · exact fin _ ⟨rfl, rfl⟩
  · by_cases hT : o.kind = 3
    · rw [Ms.do_tick hT]
      split
      · rename_i hr
        have h2 : (UInt64.ofNat o.n.toNat).toNat ≤ 60000 := by
          rw [UInt64.toNat_ofNat']
          exact Nat.le_trans (Nat.mod_le _ _) (by omega)
        have h3 : (m.now + UInt64.ofNat o.n.toNat).toNat ≤ m.now.toNat + 60000 := by
          rw [UInt64.toNat_add]
          exact Nat.le_trans (Nat.mod_le _ _) (by omega)
        have h4 : Ms.Fine { m with now := m.now + UInt64.ofNat o.n.toNat, evs := [] } c := ⟨h.short, h.sound, ⟨h.air.few, h.air.each⟩⟩
        have hT := Ms.tickN_told h4 hc (by show (m.now + UInt64.ofNat o.n.toNat).toNat ≤ _; omega) m.sts.length (Nat.le_refl _)
        refine ⟨?_, hT.addrs⟩
        show (Ms.tickN m.sts.length { m with now := m.now + UInt64.ofNat o.n.toNat, evs := [] }).now.toNat ≤ _
        rw [hT.now]
        exact h3
      · exact fin _ ⟨rfl, rfl⟩
    · by_cases hN : o.kind = 1 ∨ o.kind = 2 ∨ o.kind = 8 ∨ o.kind = 9 ∨ o.kind = 10 ∨ o.kind = 11
      · rw [Ms.do_node hN]
        exact fin _ (h1.node_same (by show m.now.toNat ≤ _; omega) hN)
      · rw [Ms.do_none hF hT hN]
        exact fin _ ⟨rfl, rfl⟩
theorem Ms.new_fine {l : List UInt32} (h : l.length ≤ 6) : (Ms.new l).Fine 0 := by
  refine ⟨by show (l.map newSta).length ≤ 6; simpa using h, fun i s hs => ?_, ⟨by show ([] : List Fl).length ≤ 48; simp, fun f hf => by cases hf⟩⟩
  have hs' : (l.map newSta)[i]? = some s := hs
  rw [List.getElem?_map] at hs'
  cases hq : l[i]? with
  | none => rw [hq] at hs'; cases hs'
  | some a => rw [hq] at hs'; cases hs'; exact newSta_sound a
end

section
open Go.RowKit
theorem Q_convT32 {P : Program} {n : Frm} {w0 : World} {E : Env} {H : HProp} {d : Option Tmp} {ty : TypeId} {pos : String} {after : Array Edge} {gu : Option (Nat × Bool)} {x : Operand} {src t : TypeId} {m : Int} {ds : TypeDesc} (k : Nat) (hx : E.ev x = some (.int .i64 m)) (hm : m = (k : Int)) (hk : k ≤ 1000000) (hs : Und P src ds) (hd : Und P t (.int .u32)) : OpQ P n w0 ⟨d, .convert src t x, ty, pos, after, gu⟩ E H (u32 (UInt32.ofNat k)) :=
  Q_convI hx hs hd (by
    subst hm
    rw [wrap_u32, UInt32.toNat_ofNat', Nat.mod_eq_of_lt (by omega)]
    omega)
def adr (i : Nat) : UInt32 := UInt32.ofNat (10 * i + 10)
def adrs (q : Nat) : List UInt32 := (List.range q).map adr
theorem adrs_len (q : Nat) : (adrs q).length = q := by simp [adrs]
theorem adrs_succ (q : Nat) : adrs (q + 1) = adrs q ++ [adr q] := by simp [adrs, List.range_succ]
theorem adr_toNat {i : Nat} (hi : i ≤ 1000) : (adr i).toNat = 10 * i + 10 := by
  unfold adr
  rw [UInt32.toNat_ofNat', Nat.mod_eq_of_lt (by omega)]
theorem adr_inj {i j : Nat} (hi : i ≤ 1000) (hj : j ≤ 1000) (h : adr i = adr j) : i = j := by
  have h2 := congrArg UInt32.toNat h
  rw [adr_toNat hi, adr_toNat hj] at h2
  omega
theorem adr_ne {i : Nat} (hi : i ≤ 1000) : adr i ≠ 0 := fun h => by
  have h2 := congrArg UInt32.toNat h
  rw [adr_toNat hi] at h2
  have h3 : (0 : UInt32).toNat = 0 := rfl
  omega
theorem adrs_nodup {q : Nat} (hq : q ≤ 1000) : (adrs q).Nodup := by
  induction q with
  | zero => exact List.nodup_nil
  | succ q ih =>
    rw [adrs_succ]
    refine List.nodup_append.2 ⟨ih (by omega), by simp, fun a ha b hb => ?_⟩
    simp at hb
    subst hb
    rintro rfl
    simp only [adrs, List.mem_map, List.mem_range] at ha
    obtain ⟨i, hi, e⟩ := ha
    have := adr_inj (by omega) (by omega) e
    omega
attribute [local irreducible] WS LS OpQ OpT OpH OpTQ Spec SpecQ cel
variable (w0 : World)
theorem keepPick_spec (n m : Int) (hn : -9223372036854775808 ≤ n ∧ n ≤ 9223372036854775807) (hm : 0 < m ∧ m ≤ 1000) : Spec Tryz.prog w0 17 [.int .i64 n, .int .i64 m] emp (fun _ : Unit => .int .i64 ((if n < 0 then -(n + 1) else n) % m)) (fun _ => emp) := by
  refine Spec.enter Tryz.func17 rfl Tryz.ntmps17 rfl fun G => ?_
  simp only [argE]
  by_cases h : n < 0
  · rw [if_pos h]
    repeat' (first | (refine WS_seqK ?_; intro K hK) | (refine hK _ ?_; clear hK K) | refine stZ ?_ | (refine s2Z ?_ ?_ <;> intro hc <;> (try simp only [cS] at hc) <;> (try (exfalso; first | contradiction | omega))) | refine sbZ ?_ | refine sqZ ?_ | ((refine' LQ ?zh rfl ?_); case zh => intro F'; first | exact Q_remI rfl rfl (by omega) | exact Q_negI rfl (by omega)))
    exact ret_tmp (.inl rfl) rfl rfl ⟨(), rfl, finE⟩
  · rw [if_neg h]
    repeat' (first | (refine WS_seqK ?_; intro K hK) | (refine hK _ ?_; clear hK K) | refine stZ ?_ | (refine s2Z ?_ ?_ <;> intro hc <;> (try simp only [cS] at hc) <;> (try (exfalso; first | contradiction | omega))) | refine sbZ ?_ | refine sqZ ?_ | ((refine' LQ ?zh rfl ?_); case zh => intro F'; exact Q_remI rfl rfl (by omega)))
    exact ret_tmp (.inl rfl) rfl rfl ⟨(), rfl, finE⟩
set_option maxRecDepth 100000 in
theorem keepRow_spec (q : Nat) (hq : 0 < q ∧ q ≤ 6) : Spec Tryz.prog w0 18 [.int .i64 (q : Int)] emp (fun x : Nat × MH => ptr x.1 0) (fun x => mshI x.1 x.2 (Ms.new (adrs q))) := by
  refine Spec.enter Tryz.func18 rfl Tryz.ntmps18 rfl fun G => ?_
  simp only [argE]
  repeat' (first | (refine WS_seqK ?_; intro K hK) | (refine hK _ ?_; clear hK K) | refine stZ ?_ | refine sqZ ?_)
  refine WS_loop (fun kk τ => ∃ (i : Nat) (v : Value), i + kk = q ∧ τ = ⟨[(4, .int .i64 (i : Int)), (3, v), (0, .int .i64 (q : Int))], [], rows 26 1 wordC v (adrs i) * G⟩) ?_ ?_
  · exact ⟨q, _, ⟨0, .slice none 0 0, by omega, rfl⟩, ⟨rfl, rfl, rfl, trivial⟩, rfl, by show Ent (emp * G) (rows 26 1 wordC (.slice none 0 0) [] * G); exact finE⟩
  · rintro kk τ ⟨i, v, hik, rfl⟩
    have hlen := adrs_len i
    rcases Nat.lt_or_ge i q with hlt | hge
    · have h1 : (i : Int) < (q : Int) := by omega
      repeat' (first | (refine WS_seqK ?_; intro K hK) | (refine hK _ ?_; clear hK K) | refine stZ ?_ | (refine s2Z ?_ ?_ <;> intro hc <;> (try simp only [cS] at hc) <;> (try (exfalso; first | contradiction | omega))) | refine sbZ ?_ | refine sqZ ?_ | (refine' LQ ?zh rfl ?_; (case zh => intro F'; exact Q_convT32 (10 * i + 10) rfl (by omega) (by omega) iI iI)) | (refine LS_h (H_buildSliceR wordC [adr i] iI iI iI rfl rfl rfl rfl rfl iI rfl rfl rfl) rfl ?_; intro vx) | (refine LS_h (H_appendR rfl rfl iI iI rfl iI iI wordC_one (by simp only [List.length_cons, List.length_nil]; omega) rfl) rfl ?_; intro va))
      refine ⟨kk - 1, _, by omega, ⟨i + 1, va, by omega, rfl⟩, ⟨rfl, rfl, rfl, trivial⟩, rfl, ?_⟩
      rw [adrs_succ]
      exact finE
    · obtain rfl : i = q := by omega
      have h1 : ¬ (i : Int) < (i : Int) := by omega
      have p1 := mnewM_spec w0 (adrs i) (by omega) (fun a ha => by
        simp only [adrs, List.mem_map, List.mem_range] at ha
        obtain ⟨j, hj, rfl⟩ := ha
        exact adr_ne (by omega)) (adrs_nodup (by omega)) v (rows 26 1 wordC v (adrs i))
      repeat' (first | (refine WS_seqK ?_; intro K hK) | (refine hK _ ?_; clear hK K) | refine stZ ?_ | (refine s2Z ?_ ?_ <;> intro hc <;> (try simp only [cS] at hc) <;> (try (exfalso; first | contradiction | omega))) | refine sbZ ?_ | refine sqZ ?_ | (refine LS_h (H_callX iI rfl p1 iI) rfl ?_; intro x))
      exact ret_tmp (.inl rfl) rfl rfl ⟨x, rfl, finE⟩
end

section
def Ms.lines (m : Ms) (i : Int) : List Ln := ((((m.at_ i).bind (·.node)).map fun t : Nd => listT t.ls).getD [])
theorem Ms.addr_at {m : Ms} {q i : Nat} {s : Sta} {f : Nat → UInt32} (h : m.sts.map (·.addr) = (List.range q).map f) (hs : m.sts[i]? = some s) : s.addr = f i ∧ i < q := by
  have h1 : (m.sts.map (·.addr))[i]? = some s.addr := by rw [List.getElem?_map, hs]; rfl
  rw [h, List.getElem?_map] at h1
  cases hq : (List.range q)[i]? with
  | none => rw [hq] at h1; cases h1
  | some j =>
    rw [hq] at h1
    obtain ⟨h2, h3⟩ := List.getElem?_eq_some_iff.1 hq
    rw [List.getElem_range] at h3
    subst h3
    rw [List.length_range] at h2
    exact ⟨(Option.some.inj h1).symm, h2⟩
end

section
open Go.RowKit
instance : FixLen opC 6 := ⟨fun _ => rfl⟩
structure OpsOk (l : List OpD) : Prop where
  n : ∀ o ∈ l, -9223372036854775808 ≤ o.n ∧ o.n ≤ 9223372036854775807
structure BndI (q i : Nat) (m : Ms) : Prop where
  fine : m.Fine i
  now : m.now.toNat ≤ i * 60000
  addrs : m.sts.map (·.addr) = (List.range q).map adr
theorem BndI.len {q i : Nat} {m : Ms} (h : BndI q i m) : m.sts.length = q := by
  have := congrArg List.length h.addrs
  simpa using this
theorem BndI.new {q : Nat} (hq : q ≤ 6) : BndI q 0 (Ms.new (adrs q)) := by
  refine ⟨Ms.new_fine (by rw [adrs_len]; exact hq), by show (0 : UInt64).toNat ≤ _; simp, ?_⟩
  show ((adrs q).map newSta).map (·.addr) = _
  rw [List.map_map]
  show (adrs q).map (fun a => a) = _
  simp [adrs]
theorem BndI.step {q i : Nat} {m : Ms} (h : BndI q i m) (hi : i < 4096) {o : OpD} (ho : o.Ok) : BndI q (i + 1) (m.do_ o) := by
  have hn := h.now
  have h1 := h.fine.do_ (by omega) (by omega) ho
  have h2 := h.fine.do_same (by omega) (by omega) o
  exact ⟨h1, by omega, h2.2.trans h.addrs⟩
theorem BndI.skip {q i : Nat} {m : Ms} (h : BndI q i m) : BndI q (i + 1) m := ⟨h.fine.mono (Nat.le_succ i), Nat.le_trans h.now (Nat.mul_le_mul_right _ (Nat.le_succ i)), h.addrs⟩
end

section
open Go.ChangeShapes Go.WideShapes Go.ChangeAt Go.RowKit Go.Deep
theorem dec_op : Dec 64 opC (fun _ o => i64R o.n) := fun {H enc w base spare held n c y} h => by
  obtain ⟨hl, ys, m, _, _, hf⟩ := struct_cells Tryz.underlying64 (by kernel_rfl) (by kernel_rfl) h
  obtain ⟨v0, y0, e0, _, t0⟩ := hf 0 _ rfl
  obtain ⟨v1, y1, e1, _, t1⟩ := hf 1 _ rfl
  obtain ⟨v2, y2, e2, _, t2⟩ := hf 2 _ rfl
  obtain ⟨v3, y3, e3, _, t3⟩ := hf 3 _ rfl
  obtain ⟨v4, y4, e4, _, t4⟩ := hf 4 _ rfl
  obtain ⟨v5, y5, e5, _, t5⟩ := hf 5 _ rfl
  obtain ⟨a0, q0, _⟩ := dec_i64 Tryz.underlying3 t0
  obtain ⟨a1, q1, _⟩ := dec_i64 Tryz.underlying3 t1
  obtain ⟨a2, q2, _⟩ := dec_i64 Tryz.underlying3 t2
  obtain ⟨a3, q3, k3⟩ := dec_i64 Tryz.underlying3 t3
  obtain ⟨a4, q4, _⟩ := dec_bool Tryz.underlying4 t4
  obtain ⟨a5, q5, _⟩ := dec_str Tryz.underlying9 t5
  refine ⟨⟨a0, a1, a2, a3, a4, a5⟩, ?_, k3⟩
  simp only [i64C, boolC, strC, List.cons.injEq, and_true] at q0 q1 q2 q3 q4 q5
  subst q0; subst q1; subst q2; subst q3; subst q4; subst q5
  match c, hl with
  | [c0, c1, c2, c3, c4, c5], _ => simp at e0 e1 e2 e3 e4 e5; subst e0; subst e1; subst e2; subst e3; subst e4; subst e5; rfl
end

section
theorem dec_out {p q : Pk} (h : Pk.dec p.out = some q) : q = p ∧ p.Fits := by
  by_cases hf : p.Fits
  · rw [Pk.out_fit hf, Pk.dec_bytes hf] at h
    exact ⟨(Option.some.inj h).symm, hf⟩
  · rw [Pk.out_not hf] at h
    cases h
variable {T : Str → UInt32 → UInt32 → Prop} {a : UInt32} {B : Str → Nat}
end

section
def lenF (k n : UInt8) : Nat := if k = 1 then 25 else if k = 2 then 21 else if k = 3 then 5 + 8 * n.toNat else 17 + n.toNat
theorem dec_lenF {s : List UInt8} {q : Pk} (h : Pk.dec s = some q) : s.length = lenF (byteAt s 1) (byteAt s 4) ∧ 13 ≤ s.length := by
  unfold Pk.dec at h
  split at h
  · rename_i t k f z n l
    split at h
    · unfold Pk.body at h
      have e1 : byteAt (t :: k :: f :: z :: n :: l) 1 = k := rfl
      have e4 : byteAt (t :: k :: f :: z :: n :: l) 4 = n := rfl
      rw [e1, e4]
      simp only [List.length_cons]
      repeat' split at h
      all_goals first
        | (cases h; done)
        | (rename_i hk hc; subst hk; simp [lenF]; omega)
        | (rename_i hk hc; subst hk; obtain ⟨hc1, hc2⟩ := hc; simp [lenF]; omega)
    · cases h
  · cases h
def Stub (b : Str) : Prop := b = [] ∨ ∃ e q n, Pk.dec e = some q ∧ b = e.take n
theorem Stub.take {b : Str} (h : Stub b) (n : Nat) : Stub (b.take n) := by
  rcases h with rfl | ⟨e, q, k, h1, rfl⟩
  · exact .inl (by simp)
  · exact .inr ⟨e, q, min n k, h1, by rw [List.take_take]⟩
theorem Stub.out (p : Pk) : Stub p.out := by
  by_cases h : p.Fits
  · rw [Pk.out_fit h]
    exact .inr ⟨p.bytes, p, p.bytes.length, Pk.dec_bytes h, by simp⟩
  · rw [Pk.out_not h]; exact .inl rfl
theorem Stub.less {b : Str} (h : Stub b) {n : Nat} (hn : n < b.length) : Pk.dec (b.take n) = none := by
  rcases h with rfl | ⟨e, q, k, h1, rfl⟩
  · simp at hn
  · cases h2 : Pk.dec ((e.take k).take n) with
    | none => rfl
    | some r =>
      rw [List.length_take] at hn
      rw [List.take_take, Nat.min_eq_left (by omega)] at h2
      obtain ⟨a1, a2⟩ := dec_lenF h1
      obtain ⟨b1, b2⟩ := dec_lenF h2
      rw [List.length_take] at b1 b2
      have e' : ∀ i, i < n → byteAt (e.take n) i = byteAt e i := fun i hi => by simp only [byteAt]; rw [List.getElem?_take, if_pos hi]
      rw [e' 1 (by omega), e' 4 (by omega)] at b1
      omega
variable {T : Str → UInt32 → UInt32 → Prop}
theorem out_part {o : OutD} (h : o.Pks) : ∀ f ∈ o.frames, Stub f.2 := by
  obtain ⟨l, hl⟩ := h
  intro f hf
  rw [hl] at hf
  obtain ⟨x, _, rfl⟩ := List.mem_map.1 hf
  exact Stub.out x.2
def sends (o : OpD) : Str → Nat := fun x => if o.kind = 2 ∧ o.text = x then 1 else 0
end

section
def Ln.r (l : Ln) : Int := l.rk * 1000 - l.hops
def rankL (ls : List Ln) (d : UInt32) : Int := match lget ls d with
  | some l => l.r
  | none => -1000000
theorem lfind_map {f : Ln → Ln} (hf : ∀ l, (f l).dest = l.dest) (ls : List Ln) (d : UInt32) : lfind (ls.map f) d = lfind ls d := by
  induction ls with
  | nil => rfl
  | cons l r ih => simp only [List.map_cons, lfind, hf, ih]
theorem lget_map {f : Ln → Ln} (hf : ∀ l, (f l).dest = l.dest) (ls : List Ln) (d : UInt32) : lget (ls.map f) d = (lget ls d).map f := by
  unfold lget
  rw [lfind_map hf]
  cases lfind ls d with
  | none => rfl
  | some i => simp
theorem lget_set_other {ls : List Ln} {i : Nat} {l x : Ln} {e : UInt32} (hl : ls[i]? = some l) (hd : x.dest = l.dest) (he : e ≠ l.dest) : lget (ls.set i x) e = lget ls e := by
  unfold lget
  rw [lfind_set hl hd]
  cases hf : lfind ls e with
  | none => rfl
  | some j =>
    obtain ⟨y, hy, hye⟩ := lfind_some hf
    have : i ≠ j := fun h => by subst h; rw [hl] at hy; cases hy; exact he hye.symm
    simp only [Option.bind_some]
    rw [List.getElem?_set_ne this]
theorem lget_lmod {f : Ln → Ln} (hf : ∀ l, (f l).dest = l.dest) (ls : List Ln) (d e : UInt32) : lget (lmod ls d f) e = if e = d then (lget ls d).map f else lget ls e := by
  cases h : lfind ls d with
  | none =>
    rw [lmod_none h, lget_none h]
    split
    · rename_i h1; rw [h1, lget_none h]; rfl
    · rfl
  | some i =>
    obtain ⟨l, hl, hd⟩ := lfind_some h
    rw [lmod_some h hl, lget_some h hl]
    split
    · rename_i h1
      subst h1
      exact lget_set h hl ((hf l).trans hd) hd
    · rename_i h1
      exact lget_set_other hl (hf l) (by rw [hd]; exact h1)
theorem lfind_snoc (ls : List Ln) (x : Ln) (e : UInt32) : lfind (ls ++ [x]) e = match lfind ls e with
    | some i => some i
    | none => if x.dest = e then some ls.length else none := by
  induction ls with
  | nil => simp only [List.nil_append, lfind]; split <;> rfl
  | cons l r ih =>
    rw [List.cons_append]
    simp only [lfind]
    split
    · rfl
    · rw [ih]
      cases lfind r e with
      | none => simp only [Option.map_none]; split <;> simp
      | some i => rfl
theorem lget_putT (ls : List Ln) (x : Ln) (e : UInt32) : lget (putT ls x) e = if e = x.dest then some x else lget ls e := by
  unfold putT
  cases h : lfind ls x.dest with
  | some i =>
    obtain ⟨l, hl, hd⟩ := lfind_some h
    simp only
    split
    · rename_i h1
      subst h1
      exact lget_set h hl rfl hd
    · rename_i h1
      exact lget_set_other hl hd.symm (by rw [hd]; exact h1)
  | none =>
    simp only
    unfold lget
    rw [lfind_snoc]
    cases hf : lfind ls e with
    | none =>
      simp only
      by_cases h1 : e = x.dest
      · rw [if_pos h1, if_pos h1.symm]; simp
      · rw [if_neg h1, if_neg (Ne.symm h1)]; rfl
    | some j =>
      have h1 : e ≠ x.dest := fun h1 => by rw [h1, h] at hf; cases hf
      rw [if_neg h1]
      simp only [Option.bind_some]
      obtain ⟨y, hy, _⟩ := lfind_some hf
      rw [List.getElem?_append_left (List.getElem?_eq_some_iff.1 hy).1]
theorem mem_lmod2 {ls : List Ln} {d : UInt32} {f : Ln → Ln} {x : Ln} (h : x ∈ lmod ls d f) : x ∈ ls ∨ ∃ l, lget ls d = some l ∧ l ∈ ls ∧ x = f l := by
  cases hf : lfind ls d with
  | none => rw [lmod, hf] at h; exact .inl h
  | some i =>
    obtain ⟨l, hl, _⟩ := lfind_some hf
    rw [lmod_some hf hl] at h
    rcases List.mem_or_eq_of_mem_set h with h | rfl
    · exact .inl h
    · exact .inr ⟨l, lget_some hf hl, List.mem_of_getElem? hl, rfl⟩
theorem lget_mem {ls : List Ln} {d : UInt32} {l : Ln} (h : lget ls d = some l) : l ∈ ls ∧ l.dest = d := by
  unfold lget at h
  cases hf : lfind ls d with
  | none => rw [hf] at h; cases h
  | some i =>
    obtain ⟨l', h1, h2⟩ := lfind_some hf
    rw [hf, Option.bind_some, h1] at h
    cases h
    exact ⟨List.mem_of_getElem? h1, h2⟩
def Goes (ls ls' : List Ln) : Prop := ∀ d, rankL ls d ≤ rankL ls' d
theorem Goes.rfl' (ls : List Ln) : Goes ls ls := fun _ => Int.le_refl _
theorem Goes.trans {a b c : List Ln} (h : Goes a b) (k : Goes b c) : Goes a c := fun d => Int.le_trans (h d) (k d)
theorem Goes.map {f : Ln → Ln} {ls : List Ln} (hf : ∀ l, (f l).dest = l.dest) (h : ∀ l ∈ ls, l.r ≤ (f l).r) : Goes ls (ls.map f) := fun d => by
  unfold rankL
  rw [lget_map hf]
  cases hg : lget ls d with
  | none => exact Int.le_refl _
  | some l => exact h l (lget_mem hg).1
theorem Goes.lmod {f : Ln → Ln} {ls : List Ln} {d : UInt32} (hf : ∀ l, (f l).dest = l.dest) (h : ∀ l, lget ls d = some l → l.r ≤ (f l).r) : Goes ls (lmod ls d f) := fun e => by
  unfold rankL
  rw [lget_lmod hf]
  by_cases he : e = d
  · subst he
    rw [if_pos rfl]
    cases hg : lget ls e with
    | none => exact Int.le_refl _
    | some l => exact h l hg
  · rw [if_neg he]; exact Int.le_refl _
def bootL (a : UInt32) (J : Str) : List Ln := newT a (compR (readJ J))
def Sta.rank (s : Sta) (d : UInt32) : Int := if d = s.addr then 1000000000000000 else match s.node with
  | some t => rankL t.ls d
  | none => rankL (bootL s.addr s.journal) d
def othR (E : List Sta) (f d : UInt32) : Int := match E.find? fun s => s.addr = f with
  | some s => s.rank d
  | none => -2000000
def othK (E : List Sta) (d : UInt32) (r : Int) : Nat := E.countP fun s => decide (r ≤ s.rank d)
theorem othK_anti (E : List Sta) (d : UInt32) {r r' : Int} (h : r ≤ r') : othK E d r' ≤ othK E d r := by
  unfold othK
  exact List.countP_mono_left fun s _ hs => decide_eq_true (Int.le_trans h (of_decide_eq_true hs))
theorem othK_le (E : List Sta) (d : UInt32) (r : Int) : othK E d r ≤ E.length := List.countP_le_length
def allK (E : List Sta) (ρ : UInt32 → Int) (d : UInt32) (r : Int) : Nat := othK E d r + if r ≤ ρ d then 1 else 0
theorem allK_mono {E : List Sta} {ρ ρ' : UInt32 → Int} {d : UInt32} {r r' : Int} (h : ρ d ≤ ρ' d) (hr : r' ≤ r) : allK E ρ d r ≤ allK E ρ' d r' := by
  have := othK_anti E d hr
  unfold allK
  split
  · rw [if_pos (by omega)]; omega
  · omega
structure Said (A : UInt32 → Prop) (ρ : UInt32 → Int) (K : UInt32 → Int → Nat) (d q : UInt32) (h t : Int) : Prop where
  who : A d
  rank : (q.toNat : Int) * 1000 - h ≤ ρ d
  hops : 0 ≤ h
  few : h + t + 1 ≤ 9 * (K d ((q.toNat : Int) * 1000 - h) : Int)
structure Pk.Says (A : UInt32 → Prop) (ρ : UInt32 → Int) (K : UInt32 → Int → Nat) (p : Pk) : Prop where
  req : p.kind = 1 → Said A ρ K p.from_ p.fromSeq p.hops p.ttl
  rep : p.kind = 2 → Said A ρ K p.dest p.destSeq p.hops p.ttl
structure Pk.Num (p : Pk) (G : Nat) : Prop where
  src : p.fromSeq.toNat ≤ G
  dst : p.destSeq.toNat ≤ G
  lost : ∀ l ∈ p.lost, l.2.toNat ≤ G
theorem Pk.Num.mono {p : Pk} {G G' : Nat} (h : p.Num G) (hG : G ≤ G') : p.Num G' := ⟨Nat.le_trans h.src hG, Nat.le_trans h.dst hG, fun l hl => Nat.le_trans (h.lost l hl) hG⟩
theorem Said.mono {A : UInt32 → Prop} {ρ ρ' : UInt32 → Int} {K K' : UInt32 → Int → Nat} {d q : UInt32} {h t : Int} (s : Said A ρ K d q h t) (h1 : ∀ d, ρ d ≤ ρ' d) (h2 : ∀ d r, K d r ≤ K' d r) : Said A ρ' K' d q h t :=
  ⟨s.who, Int.le_trans s.rank (h1 _), s.hops, by have := s.few; have := h2 d ((q.toNat : Int) * 1000 - h); omega⟩
theorem Pk.Says.mono {A : UInt32 → Prop} {ρ ρ' : UInt32 → Int} {K K' : UInt32 → Int → Nat} {p : Pk} (s : p.Says A ρ K) (h1 : ∀ d, ρ d ≤ ρ' d) (h2 : ∀ d r, K d r ≤ K' d r) : p.Says A ρ' K' := ⟨fun h => (s.req h).mono h1 h2, fun h => (s.rep h).mono h1 h2⟩
variable {E : List Sta} {A : UInt32 → Prop} {a : UInt32} {ρ0 : UInt32 → Int} {G G' : Nat}
structure LineOk (E : List Sta) (A : UInt32 → Prop) (a : UInt32) (l : Ln) : Prop where
  dest : A l.dest ∧ l.dest ≠ a
  hops : 0 ≤ l.hops ∧ l.hops ≤ 200
  valid : l.valid = true → A l.next ∧ l.next ≠ a ∧ l.r < othR E l.next l.dest ∧ l.hops ≤ 9 * (othK E l.dest l.r : Int)
def TabC (E : List Sta) (A : UInt32 → Prop) (a : UInt32) (G : Nat) (ls : List Ln) : Prop := ∀ l ∈ ls, LineOk E A a l ∧ l.seq.toNat ≤ G
theorem TabC.mono {ls : List Ln} (h : TabC E A a G ls) (hG : G ≤ G') : TabC E A a G' ls := fun l hl => ⟨(h l hl).1, Nat.le_trans (h l hl).2 hG⟩
theorem growS_le (x : UInt32) : x.toNat ≤ (growS x).toNat ∧ (growS x).toNat ≤ x.toNat + 1 := by
  have hx := x.toNat_lt
  unfold growS
  have h1 : (x + 1).toNat = (x.toNat + 1) % 4294967296 := by rw [UInt32.toNat_add]; rfl
  split
  · omega
  · rename_i h
    have : (x + 1).toNat ≠ 0 := fun e => h (UInt32.toNat_inj.1 (by rw [e]; rfl))
    omega
theorem growS_up {x : UInt32} (h : x.toNat < 4294967295) : (growS x).toNat = x.toNat + 1 := by
  unfold growS
  have h1 : (x + 1).toNat = (x.toNat + 1) % 4294967296 := by rw [UInt32.toNat_add]; rfl
  split
  · rename_i e
    have : (x + 1).toNat = 0 := by rw [e]; rfl
    omega
  · omega
theorem max_toNat (x y : UInt32) : (max x y).toNat = max x.toNat y.toNat := by
  show (if x ≤ y then y else x).toNat = _
  split
  · rename_i h; have : x.toNat ≤ y.toNat := h; omega
  · rename_i h; have : ¬ x.toNat ≤ y.toNat := h; omega
theorem Ln.ended_ok {l : Ln} (h : LineOk E A a l) (hs : l.seq.toNat ≤ G) (s : UInt32) (h2 : s.toNat ≤ G + 1) : LineOk E A a (l.ended s) ∧ (l.ended s).seq.toNat ≤ G + 1 := by
  refine ⟨⟨h.dest, h.hops, fun hv => by cases hv⟩, ?_⟩
  have := growS_le l.seq
  show (max (growS l.seq) s).toNat ≤ _
  rw [max_toNat]; omega
theorem Ln.ended_r {l : Ln} (hs : l.seq.toNat < 4294967295) (s : UInt32) : l.r ≤ (l.ended s).r := by
  have h1 := growS_up hs
  have h2 : (l.ended s).seq.toNat = max (growS l.seq).toNat s.toNat := max_toNat _ _
  have h3 : (l.ended s).r = (((l.ended s).seq.toNat : Int) - 1) * 1000 - l.hops := rfl
  rw [h3]
  unfold Ln.r Ln.rk
  split <;> omega
theorem TabC.use {ls : List Ln} (h : TabC E A a G ls) (d : UInt32) (e : UInt64) : TabC E A a G (useT ls d e) ∧ Goes ls (useT ls d e) := by
  have hr : ∀ l : Ln, l.r = (if l.valid then { l with expires := max l.expires e } else l).r := fun l => by split <;> rfl
  refine ⟨fun l hl => ?_, Goes.lmod (fun l => by split <;> rfl) fun l hl => Int.le_of_eq (hr l)⟩
  rcases mem_lmod2 hl with hl | ⟨l', _, hl', rfl⟩
  · exact h l hl
  · obtain ⟨⟨h1, h2, h3⟩, h4⟩ := h l' hl'
    split
    · exact ⟨⟨h1, h2, h3⟩, h4⟩
    · exact ⟨⟨h1, h2, h3⟩, h4⟩
theorem TabC.bef {ls : List Ln} (h : TabC E A a G ls) (d nb : UInt32) : TabC E A a G (befT ls d nb) ∧ Goes ls (befT ls d nb) := by
  refine ⟨fun l hl => ?_, Goes.lmod (fun l => by split <;> rfl) fun l hl => Int.le_of_eq (by split <;> rfl)⟩
  rcases mem_lmod2 hl with hl | ⟨l', _, hl', rfl⟩
  · exact h l hl
  · obtain ⟨⟨h1, h2, h3⟩, h4⟩ := h l' hl'
    split
    · exact ⟨⟨h1, h2, h3⟩, h4⟩
    · exact ⟨⟨h1, h2, h3⟩, h4⟩
theorem TabC.bump {ls : List Ln} (h : TabC E A a G ls) (d : UInt32) (hd : ∀ l, lget ls d = some l → l.valid = false) : TabC E A a (G + 1) (bumpT ls d) ∧ Goes ls (bumpT ls d) := by
  refine ⟨fun l hl => ?_, Goes.lmod (fun l => rfl) fun l hl => ?_⟩
  · rcases mem_lmod2 hl with hl | ⟨l', hg, hl', rfl⟩
    · exact ⟨(h l hl).1, Nat.le_succ_of_le (h l hl).2⟩
    · obtain ⟨⟨h1, h2, h3⟩, h4⟩ := h l' hl'
      have := growS_le l'.seq
      refine ⟨⟨h1, h2, fun hv => ?_⟩, by show (growS l'.seq).toNat ≤ _; omega⟩
      have hv' : l'.valid = true := hv
      rw [hd l' hg] at hv'
      cases hv'
  · have hv := hd l hl
    have := growS_le l.seq
    unfold Ln.r Ln.rk
    simp only [hv]
    show ((l.seq.toNat : Int) - 1) * 1000 - l.hops ≤ (((growS l.seq).toNat : Int) - 1) * 1000 - l.hops
    omega
theorem TabC.lose {ls : List Ln} (h : TabC E A a G ls) (hG : G < 4294967295) (src d s : UInt32) (hs : s.toNat ≤ G + 1) : TabC E A a (G + 1) (loseT ls src d s) ∧ Goes ls (loseT ls src d s) := by
  refine ⟨fun l hl => ?_, Goes.lmod (fun l => by split <;> rfl) fun l hl => ?_⟩
  · rcases mem_lmod2 hl with hl | ⟨l', hg, hl', rfl⟩
    · exact ⟨(h l hl).1, Nat.le_succ_of_le (h l hl).2⟩
    · obtain ⟨h1, h4⟩ := h l' hl'
      split
      · exact Ln.ended_ok h1 h4 s hs
      · exact ⟨h1, Nat.le_succ_of_le h4⟩
  · have := (h l (lget_mem hl).1).2
    split
    · exact Ln.ended_r (by omega) s
    · exact Int.le_refl _
theorem TabC.exp {ls : List Ln} (h : TabC E A a G ls) (hG : G < 4294967295) (now : UInt64) : TabC E A a (G + 1) (expT now ls) ∧ Goes ls (expT now ls) := by
  refine ⟨fun l hl => ?_, Goes.map (fun l => by unfold Ln.exp; split <;> rfl) fun l hl => ?_⟩
  · obtain ⟨l', hl', rfl⟩ := List.mem_map.1 hl
    obtain ⟨h1, h4⟩ := h l' hl'
    unfold Ln.exp
    split
    · exact Ln.ended_ok h1 h4 0 (Nat.zero_le _)
    · exact ⟨h1, Nat.le_succ_of_le h4⟩
  · have := (h l hl).2
    unfold Ln.exp
    split
    · exact Ln.ended_r (by omega) 0
    · exact Int.le_refl _
theorem TabC.brk {ls : List Ln} (h : TabC E A a G ls) (hG : G < 4294967295) (nb : UInt32) : TabC E A a (G + 1) (brkT nb ls) ∧ Goes ls (brkT nb ls) := by
  refine ⟨fun l hl => ?_, Goes.map (fun l => by unfold Ln.brk; split <;> rfl) fun l hl => ?_⟩
  · obtain ⟨l', hl', rfl⟩ := List.mem_map.1 hl
    obtain ⟨h1, h4⟩ := h l' hl'
    unfold Ln.brk
    split
    · exact Ln.ended_ok h1 h4 0 (Nat.zero_le _)
    · exact ⟨h1, Nat.le_succ_of_le h4⟩
  · have := (h l hl).2
    unfold Ln.brk
    split
    · exact Ln.ended_r (by omega) 0
    · exact Int.le_refl _
theorem TabC.loses {src : UInt32} : ∀ (l : List (UInt32 × UInt32)) (x : List Ln × List (UInt32 × UInt32) × Bool) (G : Nat), TabC E A a G x.1 → G + l.length < 4294967295 → (∀ y ∈ l, y.2.toNat ≤ G) → TabC E A a (G + l.length) (l.foldl (loseStep src) x).1 ∧ Goes x.1 (l.foldl (loseStep src) x).1
  | [], x, G, h, _, _ => ⟨h, Goes.rfl' _⟩
  | y :: l, x, G, h, hG, hy => by
    obtain ⟨h1, h2⟩ := h.lose (by omega) src y.1 y.2 (Nat.le_succ_of_le (hy y (by simp)))
    obtain ⟨h3, h4⟩ := TabC.loses l (loseStep src x y) (G + 1) h1 (by simp at hG; omega) fun z hz => Nat.le_succ_of_le (hy z (by simp [hz]))
    rw [List.foldl_cons]
    refine ⟨?_, Goes.trans h2 h4⟩
    have e : G + (y :: l).length = G + 1 + l.length := by simp; omega
    rw [e]; exact h3
theorem TabC.upd {ls : List Ln} (h : TabC E A a G ls) (hA : ¬ A 0) (hE : E.length ≤ 5) {d q src : UInt32} {hp t : Int} {ρ : UInt32 → Int} (hρ : ρ d ≤ if d = a then 1000000000000000 else rankL ls d) (hs : Said A (othR E src) (allK E ρ) d q hp t) (ht : 1 ≤ t) (hq : q.toNat ≤ G) (hsrc : A src ∧ src ≠ a) (e : UInt64) :
    hp ≤ 53 ∧ TabC E A a G (updT a ls (Ln.learned d q (min (hp + 1) 255) src e)).2 ∧ Goes ls (updT a ls (Ln.learned d q (min (hp + 1) 255) src e)).2 ∧
    ((updT a ls (Ln.learned d q (min (hp + 1) 255) src e)).1 ≠ 4 → (q.toNat : Int) * 1000 - (hp + 1) ≤ if d = a then 1000000000000000 else rankL (updT a ls (Ln.learned d q (min (hp + 1) 255) src e)).2 d) := by
  have hq' := q.toNat_lt
  have hk : allK E ρ d ((q.toNat : Int) * 1000 - hp) ≤ 6 := by
    have := othK_le E d ((q.toNat : Int) * 1000 - hp)
    unfold allK; split <;> omega
  have hf := hs.few
  have h0 := hs.hops
  have h53 : hp ≤ 53 := by omega
  have hmin : min (hp + 1) 255 = hp + 1 := by omega
  rw [hmin]
  have hd0 : d ≠ 0 := fun e => hA (e ▸ hs.who)
  have key : ∀ hda : d ≠ a, rankL ls d < (q.toNat : Int) * 1000 - (hp + 1) →
      TabC E A a G (putT ls { Ln.learned d q (hp + 1) src e with valid := true, before := [] }) ∧ Goes ls (putT ls { Ln.learned d q (hp + 1) src e with valid := true, before := [] }) ∧
      (q.toNat : Int) * 1000 - (hp + 1) ≤ rankL (putT ls { Ln.learned d q (hp + 1) src e with valid := true, before := [] }) d := by
    intro hda hlt
    have hr : Ln.r { Ln.learned d q (hp + 1) src e with valid := true, before := [] } = (q.toNat : Int) * 1000 - (hp + 1) := rfl
    rw [if_neg hda] at hρ
    have hk0 : allK E ρ d ((q.toNat : Int) * 1000 - hp) = othK E d ((q.toNat : Int) * 1000 - hp) := by
      unfold allK; rw [if_neg (by omega)]; rfl
    have hanti := othK_anti E d (show (q.toNat : Int) * 1000 - (hp + 1) ≤ (q.toNat : Int) * 1000 - hp by omega)
    have hrank := hs.rank
    rw [hk0] at hf
    refine ⟨fun l hl => ?_, fun f => ?_, ?_⟩
    · have hnew : LineOk E A a { Ln.learned d q (hp + 1) src e with valid := true, before := [] } ∧ (Ln.seq { Ln.learned d q (hp + 1) src e with valid := true, before := [] }).toNat ≤ G := by
        refine ⟨⟨⟨hs.who, hda⟩, ⟨by show 0 ≤ hp + 1; omega, by show hp + 1 ≤ 200; omega⟩, fun _ => ⟨hsrc.1, hsrc.2, ?_, ?_⟩⟩, hq⟩
        · rw [hr]; show _ < othR E src d; omega
        · rw [hr]; show hp + 1 ≤ 9 * (othK E d _ : Int); omega
      unfold putT at hl
      split at hl
      · rcases List.mem_or_eq_of_mem_set hl with hl | rfl
        · exact h l hl
        · exact hnew
      · rcases List.mem_append.1 hl with hl | hl
        · exact h l hl
        · simp at hl; subst hl; exact hnew
    · unfold rankL
      rw [lget_putT]
      by_cases hfd : f = d
      · subst hfd
        rw [if_pos (show f = Ln.dest { Ln.learned f q (hp + 1) src e with valid := true, before := [] } from rfl)]
        unfold rankL at hlt
        simp only [hr]
        omega
      · rw [if_neg (show ¬ f = Ln.dest { Ln.learned d q (hp + 1) src e with valid := true, before := [] } from hfd)]
        exact Int.le_refl _
    · unfold rankL
      rw [lget_putT, if_pos (show d = Ln.dest { Ln.learned d q (hp + 1) src e with valid := true, before := [] } from rfl)]
      simp only [hr]
      exact Int.le_refl _
  refine ⟨h53, ?_⟩
  unfold updT
  by_cases hda : d = a
  · have : (Ln.learned d q (hp + 1) src e).dest = a ∨ (Ln.learned d q (hp + 1) src e).dest = 0 := .inl hda
    rw [if_pos this, if_pos hda]
    exact ⟨h, Goes.rfl' _, fun _ => by omega⟩
  · have : ¬ ((Ln.learned d q (hp + 1) src e).dest = a ∨ (Ln.learned d q (hp + 1) src e).dest = 0) := by
      rintro (h | h)
      · exact hda h
      · exact hd0 h
    rw [if_neg this, if_neg hda]
    have hde : (Ln.learned d q (hp + 1) src e).dest = d := rfl
    have hse : (Ln.learned d q (hp + 1) src e).seq = q := rfl
    have hho : (Ln.learned d q (hp + 1) src e).hops = hp + 1 := rfl
    rw [hde, hse, hho]
    cases hg : lget ls d with
    | some l =>
      have hm := lget_mem hg
      obtain ⟨hl1, hl2⟩ := h l hm.1
      have hh := hl1.hops
      have hrl : rankL ls d = l.rk * 1000 - l.hops := by unfold rankL; rw [hg]; rfl
      simp only
      split
      · rename_i hc
        refine ⟨h, Goes.rfl' _, fun _ => ?_⟩
        rw [hrl]
        rcases hc with hc | ⟨hc1, hc2⟩ <;> omega
      · rename_i hc
        obtain ⟨k1, k2, k3⟩ := key hda (by rw [hrl]; omega)
        exact ⟨k1, k2, fun _ => k3⟩
    | none =>
      have hrl : rankL ls d = -1000000 := by unfold rankL; rw [hg]
      simp only
      split
      · exact ⟨h, Goes.rfl' _, fun hc => absurd rfl hc⟩
      · obtain ⟨k1, k2, k3⟩ := key hda (by rw [hrl]; omega)
        exact ⟨k1, k2, fun _ => k3⟩
end

end Go.Proofs.YtapoehkdnglahabGreat

