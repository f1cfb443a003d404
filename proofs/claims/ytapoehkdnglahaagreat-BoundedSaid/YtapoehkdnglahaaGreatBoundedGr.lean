/- Proved: 'mesh/meshkeep.Bounded' returns true, whatever the input, and leaves it alone; there are no conditions. -/
import Derived.Test.YtapoehkdnglahaaGreatBoundedGq
set_option linter.unusedVariables false
set_option linter.unusedSimpArgs false
set_option linter.unusedSectionVars false
namespace Go.Proofs.YtapoehkdnglahaaGreat
section
open Go.RowKit
section
variable {P : Program} {n : Frm} {w0 : World} {E : Env} {D : List Deferred} {F : HProp} {c : Code} {Q : Exit → St → Prop} {g : Nat} {k : MH} {m : Ms}
theorem WS_mshI (h : ∀ va ve, k.bs.length = m.sts.length → WS P n w0 c Q ⟨E, D, cel g 89 (mshC m ⟨k.vs, k.bs, k.r, va, ve⟩) * (rows 96 1 ptrC k.vs k.bs * (mp u32 i64 k.r (amap 0 m.sts) * (stasQ k.bs m.sts * (rows 95 3 flC va m.air * F))))⟩) : WS P n w0 c Q ⟨E, D, mshI g k m * F⟩ := by
  unfold mshI
  refine WS_hex fun y => ?_
  have h2 := h y.1 y.2
  by_cases hl : k.bs.length = m.sts.length
  · rw [star_assoc, star_assoc, star_assoc, star_assoc]
    exact h2 hl
  · intro a w gd
    exfalso
    have e : (cel g 89 (mshC m ⟨k.vs, k.bs, k.r, y.1, y.2⟩) * (rows 96 1 ptrC k.vs k.bs * (mp u32 i64 k.r (amap 0 m.sts) * (stasQ k.bs m.sts * rows 95 3 flC y.1 m.air)))) * F = pure' (k.bs.length = m.sts.length) * (cel g 89 (mshC m ⟨k.vs, k.bs, k.r, y.1, y.2⟩) * (rows 96 1 ptrC k.vs k.bs * (mp u32 i64 k.r (amap 0 m.sts) * (zrow staP k.bs m.sts * (rows 95 3 flC y.1 m.air * F))))) := by
      unfold stasQ
      ac_rfl
    exact hl (gd.sat.cast e).pure.1
theorem Ent.mshI {H : HProp} (va ve : Value) (e : Ent H (cel g 89 (mshC m ⟨k.vs, k.bs, k.r, va, ve⟩) * (rows 96 1 ptrC k.vs k.bs * (mp u32 i64 k.r (amap 0 m.sts) * (stasQ k.bs m.sts * (rows 95 3 flC va m.air * F)))))) : Ent H (mshI g k m * F) := by
  unfold Go.Proofs.YtapoehkdnglahaaGreat.mshI
  refine Ent.hexI (p := fun x : Value × Value => cel g 89 (mshC m ⟨k.vs, k.bs, k.r, x.1, x.2⟩) * (rows 96 1 ptrC k.vs k.bs * (mp u32 i64 k.r (amap 0 m.sts) * (stasQ k.bs m.sts * rows 95 3 flC x.1 m.air)))) (va, ve) ?_
  rw [star_assoc, star_assoc, star_assoc, star_assoc]
  exact e
theorem staP_I {b : Nat} {s : Sta} {H : HProp} (gn : Nat) (vj : Value) (e : Ent H (staB b gn vj s * F)) : Ent H (staP b s * F) := Ent.hexI (p := fun x : Nat × Value => staB b x.1 x.2 s) (gn, vj) e
end
theorem Ms.at_cases (m : Ms) (i : Int) : (m.at_ i = none ∧ (i < 0 ∨ (m.sts.length : Int) ≤ i)) ∨ ∃ (j : Nat) (s : Sta), i = (j : Int) ∧ m.sts[j]? = some s ∧ m.at_ i = some s := by
  by_cases h : i < 0 ∨ (m.sts.length : Int) ≤ i
  · exact .inl ⟨Ms.at_out h, h⟩
  · obtain ⟨j, rfl⟩ : ∃ j : Nat, i = (j : Int) := ⟨i.toNat, by omega⟩
    exact .inr ⟨j, _, rfl, List.getElem?_eq_getElem (by omega), (m.at_nat j).trans (List.getElem?_eq_getElem (by omega))⟩
attribute [local irreducible] WS LS OpQ OpT OpH OpTQ Spec SpecQ cel
variable (w0 : World)
set_option maxRecDepth 100000 in
set_option maxHeartbeats 8000000 in
theorem mair_spec (gm : Nat) (k : MH) (m : Ms) (hf : m.air.length ≤ 48) : Spec Tryz.prog w0 9 [ptr gm 0] (mshI gm k m) (fun v : Value => v) (fun v => mshI gm k m * rows 95 3 flC v m.air) := by
  refine Spec.enter Tryz.func9 rfl Tryz.ntmps9 rfl fun G => ?_
  refine WS_mshI fun va ve hbl => ?_
  have p1 := cloneF_spec w0 va m.air (by omega)
  simp only [mshC, argE]
  repeat' (first | (refine WS_seqK ?_; intro K hK) | (refine hK _ ?_; clear hK K) | refine stZ ?_ | ((refine' LQ ?zh rfl ?_); case zh => intro F'; first | exact Q_move rfl | exact Q_assign rfl | exact Q_nilCheck rfl | exact Q_fieldAddr rfl iI rfl | exact Q_load rfl iI iI rfl) | (refine LS_h (H_callX iI rfl p1 iI) rfl ?_; intro v2))
  refine ret_tmp (.inl rfl) rfl rfl ⟨v2, rfl, ?_⟩
  rw [star_assoc (mshI _ _ _)]
  refine Ent.mshI va ve ?_
  simp only [mshC]
  exact finE
set_option maxRecDepth 100000 in
set_option maxHeartbeats 8000000 in
theorem mruns_spec (gm : Nat) (k : MH) (m : Ms) (i : Int) (h6 : m.sts.length ≤ 6) : Spec Tryz.prog w0 11 [ptr gm 0, .int .i64 i] (mshI gm k m) (fun x : Unit => .bool ((m.at_ i).bind (·.node)).isSome) (fun x => mshI gm k m * emp) := by
  refine Spec.enter Tryz.func11 rfl Tryz.ntmps11 rfl fun G => ?_
  refine WS_mshI fun va ve hbl => ?_
  simp only [argE]
  rcases m.at_cases i with ⟨hat, hi⟩ | ⟨j, s, rfl, hs, hat⟩
  · have p1 := stationNo_spec w0 gm m ⟨k.vs, k.bs, k.r, va, ve⟩ i (by show i < 0 ∨ (k.bs.length : Int) ≤ i; omega) (by show k.bs.length ≤ 6; omega)
    rw [hat]
    simp only [mshC] at p1 ⊢
    repeat' (first | (refine WS_seqK ?_; intro K hK) | (refine hK _ ?_; clear hK K) | refine stZ ?_ | (refine s2Z ?_ ?_ <;> intro hc <;> (try simp only [cS] at hc) <;> (try (exfalso; first | contradiction | omega))) | ((refine' LQ ?zh rfl ?_); case zh => intro F'; first | exact Q_move rfl | exact Q_assign rfl | exact Q_pick_f rfl iI rfl) | ((refine' LQ ?zh rfl ?_); case zh => intro F'; exact Q_bin rfl rfl iI) | (refine LS_h (H_callX iI rfl p1 iI) rfl ?_; intro u1))
    refine ret_tmp (.inl rfl) rfl rfl ⟨(), rfl, ?_⟩
    rw [star_assoc (mshI _ _ _)]
    refine Ent.mshI va ve ?_
    simp only [mshC, emp_star]
    exact finE
  · obtain ⟨b, hb⟩ : ∃ b, k.bs[j]? = some b := ⟨_, List.getElem?_eq_getElem (by have := (List.getElem?_eq_some_iff.1 hs).1; omega)⟩
    have p1 := station_spec w0 gm m ⟨k.vs, k.bs, k.r, va, ve⟩ j b hb (by show k.bs.length ≤ 6; omega)
    obtain ⟨R, e1, e2⟩ := stas_open hbl hb hs
    rw [hat, e1]
    simp only [mshC] at p1 ⊢
    have hopen : ∀ (c : Code) (Q : Exit → St → Prop) (n : Frm) (E : Env), (∀ gn vj, WS Tryz.prog n w0 c Q ⟨E, [], staB b gn vj s * (cel gm 89 (mshC m ⟨k.vs, k.bs, k.r, va, ve⟩) * (rows 96 1 ptrC k.vs k.bs * (mp u32 i64 k.r (amap 0 m.sts) * (R * (rows 95 3 flC va m.air * G)))))⟩) → WS Tryz.prog n w0 c Q ⟨E, [], cel gm 89 (mshC m ⟨k.vs, k.bs, k.r, va, ve⟩) * (rows 96 1 ptrC k.vs k.bs * (mp u32 i64 k.r (amap 0 m.sts) * (staP b s * R * (rows 95 3 flC va m.air * G))))⟩ := fun c Q n E h => by
      have e : cel gm 89 (mshC m ⟨k.vs, k.bs, k.r, va, ve⟩) * (rows 96 1 ptrC k.vs k.bs * (mp u32 i64 k.r (amap 0 m.sts) * (staP b s * R * (rows 95 3 flC va m.air * G)))) = (hex fun x : Nat × Value => staB b x.1 x.2 s) * (cel gm 89 (mshC m ⟨k.vs, k.bs, k.r, va, ve⟩) * (rows 96 1 ptrC k.vs k.bs * (mp u32 i64 k.r (amap 0 m.sts) * (R * (rows 95 3 flC va m.air * G))))) := by
        show _ = staP b s * _
        ac_rfl
      rw [e]
      exact WS_hex fun x => h x.1 x.2
    simp only [mshC] at hopen
    refine hopen _ _ _ _ fun gn vj => ?_
    clear hopen
    simp only [staB, staC]
    have hfin : ∀ (H Z : HProp), Ent H (staB b gn vj s * (cel gm 89 (mshC m ⟨k.vs, k.bs, k.r, va, ve⟩) * (rows 96 1 ptrC k.vs k.bs * (mp u32 i64 k.r (amap 0 m.sts) * (R * (rows 95 3 flC va m.air * Z)))))) → Ent H (mshI gm k m * Z) := fun H Z h => by
      refine Ent.mshI va ve ?_
      rw [e1]
      refine h.trans ?_
      have e : cel gm 89 (mshC m ⟨k.vs, k.bs, k.r, va, ve⟩) * (rows 96 1 ptrC k.vs k.bs * (mp u32 i64 k.r (amap 0 m.sts) * (staP b s * R * (rows 95 3 flC va m.air * Z)))) = staP b s * (cel gm 89 (mshC m ⟨k.vs, k.bs, k.r, va, ve⟩) * (rows 96 1 ptrC k.vs k.bs * (mp u32 i64 k.r (amap 0 m.sts) * (R * (rows 95 3 flC va m.air * Z))))) := by ac_rfl
      rw [e]
      exact staP_I gn vj (Ent.refl _)
    simp only [mshC, staB, staC] at hfin
    simp only [Option.bind_some]
    cases ht : s.node with
    | none =>
      simp only [ht, ptrN, staN] at hfin ⊢
      repeat' (first | (refine WS_seqK ?_; intro K hK) | (refine hK _ ?_; clear hK K) | refine stZ ?_ | (refine s2Z ?_ ?_ <;> intro hc <;> (try simp only [cS] at hc) <;> (try (exfalso; first | contradiction | omega))) | ((refine' LQ ?zh rfl ?_); case zh => intro F'; first | exact Q_move rfl | exact Q_assign rfl | exact Q_nilCheck rfl | exact Q_fieldAddr rfl iI rfl | exact Q_load rfl iI iI rfl | exact Q_pick_t rfl iI rfl) | ((refine' LQ ?zh rfl ?_); case zh => intro F'; exact Q_bin rfl rfl iI) | (refine LS_h (H_callX iI rfl p1 iI) rfl ?_; intro u1))
      refine ret_tmp (.inl rfl) rfl rfl ⟨(), rfl, ?_⟩
      rw [star_assoc (mshI _ _ _), emp_star]
      refine hfin _ _ ?_
      exact finE
    | some t =>
      simp only [ht, ptrN, staN] at hfin ⊢
      repeat' (first | (refine WS_seqK ?_; intro K hK) | (refine hK _ ?_; clear hK K) | refine stZ ?_ | (refine s2Z ?_ ?_ <;> intro hc <;> (try simp only [cS] at hc) <;> (try (exfalso; first | contradiction | omega))) | ((refine' LQ ?zh rfl ?_); case zh => intro F'; first | exact Q_move rfl | exact Q_assign rfl | exact Q_nilCheck rfl | exact Q_fieldAddr rfl iI rfl | exact Q_load rfl iI iI rfl | exact Q_pick_t rfl iI rfl) | ((refine' LQ ?zh rfl ?_); case zh => intro F'; exact Q_bin rfl rfl iI) | (refine LS_h (H_callX iI rfl p1 iI) rfl ?_; intro u1))
      refine ret_tmp (.inl rfl) rfl rfl ⟨(), rfl, ?_⟩
      rw [star_assoc (mshI _ _ _), emp_star]
      refine hfin _ _ ?_
      exact finE
set_option maxRecDepth 100000 in
set_option maxHeartbeats 8000000 in
theorem mjournal_spec (gm : Nat) (k : MH) (m : Ms) (i : Int) (h6 : m.sts.length ≤ 6) (hj : ∀ (j : Nat) s, m.sts[j]? = some s → s.journal.length ≤ 10000) : Spec Tryz.prog w0 12 [ptr gm 0, .int .i64 i] (mshI gm k m) (fun x : Value => x) (fun x => mshI gm k m * rows 5 1 byteC x (((m.at_ i).map (·.journal)).getD [])) := by
  refine Spec.enter Tryz.func12 rfl Tryz.ntmps12 rfl fun G => ?_
  refine WS_mshI fun va ve hbl => ?_
  simp only [argE]
  rcases m.at_cases i with ⟨hat, hi⟩ | ⟨j, s, rfl, hs, hat⟩
  · have p1 := stationNo_spec w0 gm m ⟨k.vs, k.bs, k.r, va, ve⟩ i (by show i < 0 ∨ (k.bs.length : Int) ≤ i; omega) (by show k.bs.length ≤ 6; omega)
    rw [hat]
    simp only [mshC] at p1 ⊢
    repeat' (first | (refine WS_seqK ?_; intro K hK) | (refine hK _ ?_; clear hK K) | refine stZ ?_ | (refine s2Z ?_ ?_ <;> intro hc <;> (try simp only [cS] at hc) <;> (try (exfalso; first | contradiction | omega))) | ((refine' LQ ?zh rfl ?_); case zh => intro F'; first | exact Q_move rfl | exact Q_assign rfl) | ((refine' LQ ?zh rfl ?_); case zh => intro F'; exact Q_bin rfl rfl iI) | (refine LS_h (H_callX iI rfl p1 iI) rfl ?_; intro u1))
    refine ret_tmp (.inl rfl) rfl rfl ⟨.slice none 0 0, rfl, ?_⟩
    rw [star_assoc (mshI _ _ _)]
    refine Ent.mshI va ve ?_
    simp only [mshC, Option.map_none, Option.getD_none]
    exact finE
  · obtain ⟨b, hb⟩ : ∃ b, k.bs[j]? = some b := ⟨_, List.getElem?_eq_getElem (by have := (List.getElem?_eq_some_iff.1 hs).1; omega)⟩
    have p1 := station_spec w0 gm m ⟨k.vs, k.bs, k.r, va, ve⟩ j b hb (by show k.bs.length ≤ 6; omega)
    obtain ⟨R, e1, e2⟩ := stas_open hbl hb hs
    rw [hat, e1]
    simp only [mshC] at p1 ⊢
    have hopen : ∀ (c : Code) (Q : Exit → St → Prop) (n : Frm) (E : Env), (∀ gn vj, WS Tryz.prog n w0 c Q ⟨E, [], staB b gn vj s * (cel gm 89 (mshC m ⟨k.vs, k.bs, k.r, va, ve⟩) * (rows 96 1 ptrC k.vs k.bs * (mp u32 i64 k.r (amap 0 m.sts) * (R * (rows 95 3 flC va m.air * G)))))⟩) → WS Tryz.prog n w0 c Q ⟨E, [], cel gm 89 (mshC m ⟨k.vs, k.bs, k.r, va, ve⟩) * (rows 96 1 ptrC k.vs k.bs * (mp u32 i64 k.r (amap 0 m.sts) * (staP b s * R * (rows 95 3 flC va m.air * G))))⟩ := fun c Q n E h => by
      have e : cel gm 89 (mshC m ⟨k.vs, k.bs, k.r, va, ve⟩) * (rows 96 1 ptrC k.vs k.bs * (mp u32 i64 k.r (amap 0 m.sts) * (staP b s * R * (rows 95 3 flC va m.air * G)))) = (hex fun x : Nat × Value => staB b x.1 x.2 s) * (cel gm 89 (mshC m ⟨k.vs, k.bs, k.r, va, ve⟩) * (rows 96 1 ptrC k.vs k.bs * (mp u32 i64 k.r (amap 0 m.sts) * (R * (rows 95 3 flC va m.air * G))))) := by
        show _ = staP b s * _
        ac_rfl
      rw [e]
      exact WS_hex fun x => h x.1 x.2
    simp only [mshC] at hopen
    refine hopen _ _ _ _ fun gn vj => ?_
    clear hopen
    simp only [staB, staC]
    have hfin : ∀ (H Z : HProp), Ent H (staB b gn vj s * (cel gm 89 (mshC m ⟨k.vs, k.bs, k.r, va, ve⟩) * (rows 96 1 ptrC k.vs k.bs * (mp u32 i64 k.r (amap 0 m.sts) * (R * (rows 95 3 flC va m.air * Z)))))) → Ent H (mshI gm k m * Z) := fun H Z h => by
      refine Ent.mshI va ve ?_
      rw [e1]
      refine h.trans ?_
      have e : cel gm 89 (mshC m ⟨k.vs, k.bs, k.r, va, ve⟩) * (rows 96 1 ptrC k.vs k.bs * (mp u32 i64 k.r (amap 0 m.sts) * (staP b s * R * (rows 95 3 flC va m.air * Z)))) = staP b s * (cel gm 89 (mshC m ⟨k.vs, k.bs, k.r, va, ve⟩) * (rows 96 1 ptrC k.vs k.bs * (mp u32 i64 k.r (amap 0 m.sts) * (R * (rows 95 3 flC va m.air * Z))))) := by ac_rfl
      rw [e]
      exact staP_I gn vj (Ent.refl _)
    simp only [mshC, staB, staC] at hfin
    simp only [Option.map_some, Option.getD_some]
    have p2 := cloneB_spec w0 vj s.journal (hj j s hs)
    repeat' (first | (refine WS_seqK ?_; intro K hK) | (refine hK _ ?_; clear hK K) | refine stZ ?_ | (refine s2Z ?_ ?_ <;> intro hc <;> (try simp only [cS] at hc) <;> (try (exfalso; first | contradiction | omega))) | ((refine' LQ ?zh rfl ?_); case zh => intro F'; first | exact Q_move rfl | exact Q_assign rfl | exact Q_nilCheck rfl | exact Q_fieldAddr rfl iI rfl | exact Q_load rfl iI iI rfl) | ((refine' LQ ?zh rfl ?_); case zh => intro F'; exact Q_bin rfl rfl iI) | (refine LS_h (H_callX iI rfl p1 iI) rfl ?_; intro u1) | (refine LS_h (H_callX iI rfl p2 iI) rfl ?_; intro v2))
    refine ret_tmp (.inl rfl) rfl rfl ⟨v2, rfl, ?_⟩
    rw [star_assoc (mshI _ _ _)]
    refine hfin _ _ ?_
    exact finE
set_option maxRecDepth 100000 in
set_option maxHeartbeats 8000000 in
theorem mroutesI_spec (gm : Nat) (k : MH) (m : Ms) (i : Int) (h6 : m.sts.length ≤ 6) (ok : ∀ (j : Nat) s t, m.sts[j]? = some s → s.node = some t → TabOk t.ls) : Spec Tryz.prog w0 10 [ptr gm 0, .int .i64 i] (mshI gm k m) (fun x : Value × List LnS => x.1) (fun x => mshI gm k m * (pure' (x.2.map (·.1) = ((((m.at_ i).bind (·.node)).map fun t : Nd => listT t.ls).getD [])) * (rows 38 7 routeS x.1 x.2 * befs x.2))) := by
  refine Spec.enter Tryz.func10 rfl Tryz.ntmps10 rfl fun G => ?_
  refine WS_mshI fun va ve hbl => ?_
  simp only [argE]
  rcases m.at_cases i with ⟨hat, hi⟩ | ⟨j, s, rfl, hs, hat⟩
  · have p1 := stationNo_spec w0 gm m ⟨k.vs, k.bs, k.r, va, ve⟩ i (by show i < 0 ∨ (k.bs.length : Int) ≤ i; omega) (by show k.bs.length ≤ 6; omega)
    rw [hat]
    simp only [mshC] at p1 ⊢
    repeat' (first | (refine WS_seqK ?_; intro K hK) | (refine hK _ ?_; clear hK K) | refine stZ ?_ | (refine s2Z ?_ ?_ <;> intro hc <;> (try simp only [cS] at hc) <;> (try (exfalso; first | contradiction | omega))) | ((refine' LQ ?zh rfl ?_); case zh => intro F'; first | exact Q_move rfl | exact Q_assign rfl | exact Q_pick_f rfl iI rfl) | ((refine' LQ ?zh rfl ?_); case zh => intro F'; exact Q_bin rfl rfl iI) | (refine LS_h (H_callX iI rfl p1 iI) rfl ?_; intro u1))
    refine ret_tmp (.inl rfl) rfl rfl ⟨(.slice none 0 0, []), rfl, ?_⟩
    rw [star_assoc (mshI _ _ _)]
    refine Ent.mshI va ve ?_
    rw [pure'_true (by rfl)]
    simp only [mshC, befs, emp_star]
    exact finE
  · obtain ⟨b, hb⟩ : ∃ b, k.bs[j]? = some b := ⟨_, List.getElem?_eq_getElem (by have := (List.getElem?_eq_some_iff.1 hs).1; omega)⟩
    have p1 := station_spec w0 gm m ⟨k.vs, k.bs, k.r, va, ve⟩ j b hb (by show k.bs.length ≤ 6; omega)
    obtain ⟨R, e1, e2⟩ := stas_open hbl hb hs
    rw [hat, e1]
    simp only [mshC] at p1 ⊢
    have hopen : ∀ (c : Code) (Q : Exit → St → Prop) (n : Frm) (E : Env), (∀ gn vj, WS Tryz.prog n w0 c Q ⟨E, [], staB b gn vj s * (cel gm 89 (mshC m ⟨k.vs, k.bs, k.r, va, ve⟩) * (rows 96 1 ptrC k.vs k.bs * (mp u32 i64 k.r (amap 0 m.sts) * (R * (rows 95 3 flC va m.air * G)))))⟩) → WS Tryz.prog n w0 c Q ⟨E, [], cel gm 89 (mshC m ⟨k.vs, k.bs, k.r, va, ve⟩) * (rows 96 1 ptrC k.vs k.bs * (mp u32 i64 k.r (amap 0 m.sts) * (staP b s * R * (rows 95 3 flC va m.air * G))))⟩ := fun c Q n E h => by
      have e : cel gm 89 (mshC m ⟨k.vs, k.bs, k.r, va, ve⟩) * (rows 96 1 ptrC k.vs k.bs * (mp u32 i64 k.r (amap 0 m.sts) * (staP b s * R * (rows 95 3 flC va m.air * G)))) = (hex fun x : Nat × Value => staB b x.1 x.2 s) * (cel gm 89 (mshC m ⟨k.vs, k.bs, k.r, va, ve⟩) * (rows 96 1 ptrC k.vs k.bs * (mp u32 i64 k.r (amap 0 m.sts) * (R * (rows 95 3 flC va m.air * G))))) := by
        show _ = staP b s * _
        ac_rfl
      rw [e]
      exact WS_hex fun x => h x.1 x.2
    simp only [mshC] at hopen
    refine hopen _ _ _ _ fun gn vj => ?_
    clear hopen
    simp only [staB, staC]
    have hfin : ∀ (H Z : HProp), Ent H (staB b gn vj s * (cel gm 89 (mshC m ⟨k.vs, k.bs, k.r, va, ve⟩) * (rows 96 1 ptrC k.vs k.bs * (mp u32 i64 k.r (amap 0 m.sts) * (R * (rows 95 3 flC va m.air * Z)))))) → Ent H (mshI gm k m * Z) := fun H Z h => by
      refine Ent.mshI va ve ?_
      rw [e1]
      refine h.trans ?_
      have e : cel gm 89 (mshC m ⟨k.vs, k.bs, k.r, va, ve⟩) * (rows 96 1 ptrC k.vs k.bs * (mp u32 i64 k.r (amap 0 m.sts) * (staP b s * R * (rows 95 3 flC va m.air * Z)))) = staP b s * (cel gm 89 (mshC m ⟨k.vs, k.bs, k.r, va, ve⟩) * (rows 96 1 ptrC k.vs k.bs * (mp u32 i64 k.r (amap 0 m.sts) * (R * (rows 95 3 flC va m.air * Z))))) := by ac_rfl
      rw [e]
      exact staP_I gn vj (Ent.refl _)
    simp only [mshC, staB, staC] at hfin
    simp only [Option.bind_some]
    cases ht : s.node with
    | none =>
      simp only [ht, ptrN, staN] at hfin ⊢
      repeat' (first | (refine WS_seqK ?_; intro K hK) | (refine hK _ ?_; clear hK K) | refine stZ ?_ | (refine s2Z ?_ ?_ <;> intro hc <;> (try simp only [cS] at hc) <;> (try (exfalso; first | contradiction | omega))) | ((refine' LQ ?zh rfl ?_); case zh => intro F'; first | exact Q_move rfl | exact Q_assign rfl | exact Q_nilCheck rfl | exact Q_fieldAddr rfl iI rfl | exact Q_load rfl iI iI rfl | exact Q_pick_t rfl iI rfl) | ((refine' LQ ?zh rfl ?_); case zh => intro F'; exact Q_bin rfl rfl iI) | (refine LS_h (H_callX iI rfl p1 iI) rfl ?_; intro u1))
      refine ret_tmp (.inl rfl) rfl rfl ⟨(.slice none 0 0, []), rfl, ?_⟩
      rw [star_assoc (mshI _ _ _)]
      refine hfin _ _ ?_
      rw [pure'_true (by rfl)]
      simp only [befs, emp_star]
      exact finE
    | some t =>
      have p2 := nroutes_spec w0 gn t (ok j s t hs ht)
      simp only [ht, ptrN, staN] at hfin ⊢
      repeat' (first | (refine WS_seqK ?_; intro K hK) | (refine hK _ ?_; clear hK K) | refine stZ ?_ | (refine s2Z ?_ ?_ <;> intro hc <;> (try simp only [cS] at hc) <;> (try (exfalso; first | contradiction | omega))) | ((refine' LQ ?zh rfl ?_); case zh => intro F'; first | exact Q_move rfl | exact Q_assign rfl | exact Q_nilCheck rfl | exact Q_fieldAddr rfl iI rfl | exact Q_load rfl iI iI rfl | exact Q_pick_t rfl iI rfl) | ((refine' LQ ?zh rfl ?_); case zh => intro F'; exact Q_bin rfl rfl iI) | (refine LS_h (H_callX iI rfl p1 iI) rfl ?_; intro u1) | (refine LS_h (H_callX iI rfl p2 iI) rfl ?_; intro x2))
      refine ret_tmp (.inl rfl) rfl rfl ⟨x2, rfl, ?_⟩
      rw [star_assoc (mshI _ _ _)]
      refine hfin _ _ ?_
      simp only [Option.map_some, Option.getD_some]
      exact finE
end

section
open Go.RowKit
instance zeroMesh : Zero Tryz.prog 89 (.agg #[.slice none 0 0, .map none, .bool false, .bool false, .bool false, .bool false, .bool false, .bool false, .bool false, .bool false, .bool false, .bool false, .bool false, .bool false, .bool false, .bool false, .bool false, .bool false, .bool false, .bool false, .bool false, .bool false, .bool false, .bool false, .bool false, .bool false, .bool false, .bool false, .bool false, .bool false, .bool false, .bool false, .bool false, .bool false, .bool false, .bool false, .bool false, .bool false, .slice none 0 0, .int .u64 0, .slice none 0 0]) [.slice none 0 0, .map none, .bool false, .bool false, .bool false, .bool false, .bool false, .bool false, .bool false, .bool false, .bool false, .bool false, .bool false, .bool false, .bool false, .bool false, .bool false, .bool false, .bool false, .bool false, .bool false, .bool false, .bool false, .bool false, .bool false, .bool false, .bool false, .bool false, .bool false, .bool false, .bool false, .bool false, .bool false, .bool false, .bool false, .bool false, .bool false, .bool false, .slice none 0 0, .int .u64 0, .slice none 0 0] := ⟨by kernel_rfl, rfl⟩
theorem H_convBs {P : Program} {n : Frm} {w0 : World} {E : Env} {H : HProp} {d : Option Tmp} {ty : TypeId} {pos : String} {after : Array Edge} {gu : Option (Nat × Bool)} {x : Operand} {src dst e : TypeId} {l : Str} (hx : E.ev x = some (strV l)) (hs : Und P src .string) (hd : Und P dst (.slice e)) (he : Und P e (.int .u8)) (hn : l.length ≤ 1000000) : OpH P n w0 ⟨d, .convert src dst x, ty, pos, after, gu⟩ E H (fun y : SV => slV' y) (fun y => rows e 1 byteC (slV' y) l * H) := by
  refine OpH.mk' (pre := emp) (post := fun y : SV => rows e 1 byteC (slV' y) l) ?_ emp_star.symm
  intro G a w K Q s hs' hK
  rw [emp_star] at hs'
  obtain ⟨pre, post0, F, hop, hH, hp⟩ := H_convB (H := G) (P := P) (n := n) (w0 := w0) (d := d) (ty := ty) (pos := pos) (after := after) (gu := gu) hx hs hd he hn
  refine hop F a w K Q s (hs'.cast hH) fun x w' hx' => ?_
  have h2 := hx'.cast (hp x).symm
  obtain ⟨A, c, rfl⟩ := rows_form h2
  exact hK (A, l.length, c) w' h2
theorem newSta_sound (a : UInt32) : (newSta a).Sound 0 := by
  have h : Sta.Says ⟨a, some (Nd.new a [] 0), [], 0, false⟩ (Nd.newO a [] 0) 0 := ⟨⟨_, rfl, Nd.new_rest _ _ _, Nd.new_self _ _ _, Nd.new_joins _ _ _, Nd.new_ne _ _ _⟩, by simp, by simp⟩
  have hw := h.wrote
  have e : Sta.write ⟨a, some (Nd.new a [] 0), [], 0, false⟩ (Nd.newO a [] 0) = newSta a := by
    unfold Sta.write newSta
    split <;> simp
  rw [e] at hw
  exact hw
theorem amap_snoc (s : Sta) : ∀ (sts : List Sta) (k : Nat), stFind sts s.addr = none → mset (amap k sts) s.addr ((k + sts.length : Nat) : Int) = amap k (sts ++ [s])
  | [], k, _ => rfl
  | x :: r, k, h => by
    simp only [stFind] at h
    by_cases e : x.addr = s.addr
    · rw [if_pos e] at h; cases h
    · rw [if_neg e] at h
      have h' : stFind r s.addr = none := by
        cases hr : stFind r s.addr with
        | none => rfl
        | some j => rw [hr] at h; cases h
      have ih := amap_snoc s r (k + 1) h'
      simp only [amap, List.cons_append, mset_cons, if_neg e, List.length_cons]
      rw [← ih]
      congr 2
      omega
theorem stFind_none {l : List UInt32} {a : UInt32} (h : a ∉ l) : stFind (l.map newSta) a = none := by
  induction l with
  | nil => rfl
  | cons x r ih =>
    simp only [List.map_cons, stFind]
    rw [if_neg (fun e => h (by rw [← e]; exact List.mem_cons_self)), ih (fun h' => h (List.mem_cons_of_mem _ h'))]
    rfl
theorem stasQ_snoc {bs : List Nat} {sts : List Sta} (b : Nat) (s : Sta) (h : bs.length = sts.length) : stasQ (bs ++ [b]) (sts ++ [s]) = staP b s * stasQ bs sts := by
  rw [stasQ_eq (by simp [h]), stasQ_eq h, zrow_snoc b s h]
attribute [local irreducible] WS LS OpQ OpT OpH OpTQ Spec SpecQ cel
variable (w0 : World)
set_option maxRecDepth 100000 in
set_option maxHeartbeats 16000000 in
theorem mnewM_spec (l : List UInt32) (hl : 0 < l.length ∧ l.length ≤ 6) (h0 : ∀ a ∈ l, a ≠ 0) (hn : l.Nodup) (v : Value) (X : HProp) [hX : Rdr w0 X v UInt32 1 wordC l] :
    Spec Tryz.prog w0 24 [v] X (fun x : Nat × MH => .tuple #[ptr x.1 0, .int .i64 0]) (fun x => mshI x.1 x.2 (Ms.new l) * X) := by
  refine Spec.enter Tryz.func24 rfl Tryz.ntmps24 rfl fun G => ?_
  simp only [argE]
  have h1 : ¬ (l.length : Int) = 0 := by omega
  have h2 : ¬ (6 : Int) < (l.length : Int) := by omega
  repeat' (first | (refine WS_seqK ?_; intro K hK) | (refine hK _ ?_; clear hK K) | refine stZ ?_ | (refine s2Z ?_ ?_ <;> intro hc <;> (try simp only [cS] at hc) <;> (try (exfalso; first | contradiction | omega))) | ((refine' LQ ?zh rfl ?_); case zh => intro F'; first | exact Q_move rfl | exact Q_assign rfl | exact Q_bin_f rfl rfl iI (by first | assumption | omega | decide) | exact Q_pick_f rfl iI rfl | exact Q_build iI iI rfl rfl | exact Q_lenR rfl iI iI) | (refine LS_h (H_makeMap u32 i64) rfl ?_; intro r) | (refine LS_h (H_box rfl) rfl ?_; intro gm))
  refine WS_loop (fun kk τ => ∃ (q : Nat) (vs : Value) (bs : List Nat), q + kk = l.length ∧ bs.length = q ∧ τ = ⟨[(24, .int .i64 (q : Int)), (23, .int .i64 (l.length : Int)), (22, v), (4, ptr gm 0), (0, v)], [], cel gm 89 (mshC (Ms.new []) ⟨vs, bs, r, .slice none 0 0, .slice none 0 0⟩) * (rows 96 1 ptrC vs bs * (mp u32 i64 r (amap 0 ((l.take q).map newSta)) * (stasQ bs ((l.take q).map newSta) * (X * G))))⟩) ?_ ?_
  · refine ⟨l.length, _, ⟨0, .slice none 0 0, [], by omega, rfl, rfl⟩, ⟨rfl, rfl, rfl, rfl, rfl, trivial⟩, rfl, ?_⟩
    rw [List.take_zero, List.map_nil, stasQ_eq rfl]
    show Ent (cel gm 89 (mshC (Ms.new []) ⟨.slice none 0 0, [], r, .slice none 0 0, .slice none 0 0⟩) * (mp u32 i64 r [] * (X * G))) (cel gm 89 (mshC (Ms.new []) ⟨.slice none 0 0, [], r, .slice none 0 0, .slice none 0 0⟩) * (rows 96 1 ptrC (.slice none 0 0) [] * (mp u32 i64 r [] * (emp * (X * G)))))
    rw [emp_star]
    exact finE
  · rintro kk τ ⟨q, vs, bs, hqk, hbq, rfl⟩
    rcases Nat.lt_or_ge q l.length with hlt | hge
    · obtain ⟨a, ha⟩ : ∃ a, l[q]? = some a := ⟨_, List.getElem?_eq_getElem hlt⟩
      have hmem := List.mem_of_getElem? ha
      have ha0 : ¬ a = 0 := h0 a hmem
      have hnot : a ∉ l.take q := by
        intro h
        have hd : a ∈ l.drop q := List.mem_of_getElem? (i := 0) (by rw [List.getElem?_drop, Nat.add_zero, ha])
        have hn' : (l.take q ++ l.drop q).Nodup := by rw [List.take_append_drop]; exact hn
        exact (List.nodup_append.1 hn').2.2 a h a hd rfl
      have hfind : stFind ((l.take q).map newSta) (newSta a).addr = none := stFind_none hnot
      have hget : mget (amap 0 ((l.take q).map newSta)) a = none := by rw [amap_get]; show (stFind _ (newSta a).addr).map _ = none; rw [hfind]; rfl
      have hsnoc := amap_snoc (newSta a) ((l.take q).map newSta) 0 hfind
      rw [show ((0 + ((l.take q).map newSta).length : Nat) : Int) = (q : Int) by simp; omega] at hsnoc
      have htk : (l.take (q + 1)).map newSta = (l.take q).map newSta ++ [newSta a] := by
        rw [List.take_add_one, ha]; simp
      have hblen : bs.length = ((l.take q).map newSta).length := by rw [hbq]; simp; omega
      have hq1 : (q : Int) < (l.length : Int) := by omega
      have hbs6 : bs.length ≤ 6 := by omega
      have hjl : (Nd.newO a [] 0).journal.length ≤ 1000000 := by have := (newSta_sound a).jour; show (newSta a).journal.length ≤ _; omega
      have p4 := (nnew_spec w0 a [] (by simp) 0 (.slice none 0 0) (rows 5 1 byteC (.slice none 0 0) [])).rein (fun y : Nat × SV × SV × SV => (y.1, svV y.2)) (fun x => (x.1, svOf3 x.2)) (fun x w F hx => by rw [star_assoc, star_assoc, star_left_comm] at hx; show (x.1, svV (svOf3 x.2)) = x; rw [outR_form hx])
      have p5 := p4.conv (X' := emp) (fun Z => by rw [emp_star]; exact Ent.nil _ _ _ _ _) (fun _ _ => Ent.refl _)
      clear p4
      have hns : newSta a = ⟨a, some (Nd.new a [] 0), (Nd.newO a [] 0).journal, 0, false⟩ := rfl
      generalize Nd.new a [] 0 = t2 at *
      generalize Nd.newO a [] 0 = o2 at *
      simp only [outA, svV, slV'] at p5
      simp only [mshC]
      repeat' (first | (refine WS_seqK ?_; intro K hK) | (refine hK _ ?_; clear hK K) | refine stZ ?_ | (refine s2Z ?_ ?_ <;> intro hc <;> (try simp only [cS] at hc) <;> (try (exfalso; first | contradiction | omega))) | ((first | refine' LQ ?zh rfl ?_ | refine' DL_qp rfl rfl rfl ?zh ?_ | refine' DL_q rfl rfl ?zh ?_); case zh => intro F'; first | exact Q_move rfl | exact Q_assign rfl | exact Q_nilCheck rfl | exact Q_fieldAddr rfl iI rfl | exact Q_load rfl iI iI rfl | exact Q_bin_t rfl rfl iI (by first | assumption | omega | decide) | exact Q_bin_f rfl rfl iI (by first | assumption | omega | decide) | exact Q_addI rfl rfl (by omega) | exact Q_extract rfl rfl | exact Q_pick_f rfl iI rfl | exact Q_build iI iI rfl rfl | exact Q_index rfl rfl iI iI iI iI (by first | assumption | omega | (simp [be_length] <;> omega)) | exact Q_loadR rfl iI iI iI (by assumption) rfl | exact Q_lookupOk_n rfl rfl iI iI iI iI iI (by assumption)) | ((first | refine' LS_h ?zh rfl ?_ | refine' DL_h ?zh rfl rfl rfl ?_); (case zh => exact H_alloc iI); intro g) | ((first | refine' LS_h0 ?zh ?_ | refine' DL_h0 ?zh rfl rfl ?_); (case zh => first | exact H_storeO rfl rfl iI iI iI rfl | exact H_storeAO rfl rfl iI iI iI rfl | exact H_mapUpdate rfl rfl rfl iI iI iI iI iI); intro g) | (refine LS_h (H_callX iI rfl p5 ⟨emp_star.symm⟩) rfl ?_; intro x5) | (show WS _ _ _ (.region 12 _ true) _ _; refine WS_drawK (.range 17) 13 [4, 8] (by decide +kernel) rfl ?_) | (refine DL_h (H_convBs rfl iI iI iI hjl) rfl rfl rfl ?_; intro vb) | (refine DL_h (H_box rfl) rfl rfl rfl ?_; intro bx) | (refine DL_h (H_buildSliceR ptrC [bx] iI iI iI rfl rfl rfl rfl rfl iI rfl rfl rfl) rfl rfl rfl ?_; intro vx) | (refine DL_h (H_appendR rfl rfl iI iI rfl iI iI ptrC_one (by first | omega | (simp [be_length] <;> omega)) rfl) rfl rfl rfl ?_; intro va))
      refine ⟨kk - 1, _, by omega, ⟨q + 1, va, bs ++ [bx], by omega, by simp [hbq], rfl⟩, ⟨rfl, rfl, rfl, rfl, rfl, trivial⟩, rfl, ?_⟩
      rw [htk, stasQ_snoc bx (newSta a) hblen, ← hsnoc, star_assoc (staP _ _)]
      simp only [star_assoc, emp_star, star_emp]
      refine Ent.trans (F := staB bx x5.1 (slV' vb) (newSta a) * (cel gm 89 (mshC (Ms.new []) ⟨va, bs ++ [bx], r, .slice none 0 0, .slice none 0 0⟩) * (rows 96 1 ptrC va (bs ++ [bx]) * (mp u32 i64 r (mset (amap 0 ((l.take q).map newSta)) a (q : Int)) * (stasQ bs ((l.take q).map newSta) * (X * G)))))) (by rw [hns]; simp only [staB, staC, ptrN, staN, mshC, star_assoc]; exact finE) ?_
      refine Ent.trans (staP_I (F := cel gm 89 (mshC (Ms.new []) ⟨va, bs ++ [bx], r, .slice none 0 0, .slice none 0 0⟩) * (rows 96 1 ptrC va (bs ++ [bx]) * (mp u32 i64 r (mset (amap 0 ((l.take q).map newSta)) a (q : Int)) * (stasQ bs ((l.take q).map newSta) * (X * G))))) x5.1 (slV' vb) (Ent.refl _)) ?_
      show Ent _ (cel gm 89 (mshC (Ms.new []) ⟨va, bs ++ [bx], r, .slice none 0 0, .slice none 0 0⟩) * (rows 96 1 ptrC va (bs ++ [bx]) * (mp u32 i64 r (mset (amap 0 ((l.take q).map newSta)) a (q : Int)) * (staP bx (newSta a) * (stasQ bs ((l.take q).map newSta) * (X * G))))))
      exact finE
    · obtain rfl : q = l.length := by omega
      have hq1 : ¬ (l.length : Int) < (l.length : Int) := by omega
      repeat' (first | (refine WS_seqK ?_; intro K hK) | (refine hK _ ?_; clear hK K) | refine stZ ?_ | (refine s2Z ?_ ?_ <;> intro hc <;> (try simp only [cS] at hc) <;> (try (exfalso; first | contradiction | omega))) | ((refine' LQ ?zh rfl ?_); case zh => intro F'; first | exact Q_move rfl | exact Q_assign rfl | exact Q_bin_f rfl rfl iI (by first | assumption | omega | decide)))
      refine ret_tmp2 (.inl rfl) rfl rfl rfl ⟨(gm, ⟨vs, bs, r, .slice none 0 0, .slice none 0 0⟩), rfl, ?_⟩
      rw [List.take_length, star_assoc (mshI _ _ _)]
      refine Ent.mshI (.slice none 0 0) (.slice none 0 0) ?_
      show Ent _ (cel gm 89 (mshC (Ms.new []) ⟨vs, bs, r, .slice none 0 0, .slice none 0 0⟩) * (rows 96 1 ptrC vs bs * (mp u32 i64 r (amap 0 (l.map newSta)) * (stasQ bs (l.map newSta) * (rows 95 3 flC (.slice none 0 0) [] * (X * G))))))
      exact finE
end

section
theorem Ms.Fine.mono {m : Ms} {c d : Nat} (h : m.Fine c) (hd : c ≤ d) : m.Fine d := ⟨h.short, fun i s hs => (h.sound i s hs).mono hd, h.air⟩
theorem Ms.Fine.did {m m' : Ms} {i c d n : Nat} (h : m.Fine c) (hD : m.Did m' i d n) (hc : c ≤ d) : m'.Fine d := by
  refine ⟨by rw [hD.kept.length]; exact h.short, fun j s hs => ?_, hD.air h.air⟩
  by_cases e : j = i
  · subst e
    obtain ⟨s2, h1, h2⟩ := hD.here
    rw [h1] at hs
    cases hs
    exact h2
  · rw [hD.kept.other j e] at hs
    exact (h.sound j s hs).mono hc
theorem Ms.Fine.mod {m : Ms} {i c : Nat} {f : Sta → Sta} (h : m.Fine c) (hf : ∀ s, s.Sound c → (f s).Sound c) : (m.mod i f).Fine c := by
  refine ⟨by show (m.sts.modify i f).length ≤ 6; rw [List.length_modify]; exact h.short, fun j s hs => ?_, ⟨h.air.few, fun x hx => ?_⟩⟩
  · have hs' : (m.sts.modify i f)[j]? = some s := hs
    rw [List.getElem?_modify] at hs'
    by_cases e : i = j
    · subst e
      cases hq : m.sts[i]? with
      | none => rw [hq] at hs'; simp at hs'
      | some q =>
        rw [hq] at hs'
        simp at hs'
        rw [← hs']
        exact hf q (h.sound i q hq)
    · cases hq : m.sts[j]? with
      | none => rw [hq] at hs'; simp at hs'
      | some q =>
        rw [hq] at hs'
        simp [e] at hs'
        rw [← hs']
        exact h.sound j q hq
  · show x.src < (m.sts.modify i f).length ∧ x.dst < (m.sts.modify i f).length ∧ _
    rw [List.length_modify]
    exact h.air.each x hx
theorem Sta.Sound.stop {s : Sta} {c : Nat} (h : s.Sound c) : s.stop.Sound c := ⟨(fun n hn => by cases hn), h.jour, h.tear⟩
theorem Sta.Sound.arm {s : Sta} {c : Nat} (h : s.Sound c) {n : Int} (hn : n ≤ 9223372036854775807) : (s.arm n).Sound c := ⟨h.node, h.jour, by show 0 ≤ max 0 n ∧ max 0 n ≤ 9223372036854775807; omega⟩
theorem Ms.Fine.clear {m : Ms} {c : Nat} (h : m.Fine c) : Ms.Fine { m with evs := [] } c := ⟨h.short, h.sound, ⟨h.air.few, h.air.each⟩⟩
theorem Ms.Fine.frame {m : Ms} {c : Nat} (h : m.Fine c) (o : OpD) (k : Nat) : (m.frame o k).Fine c := by
  unfold Ms.frame
  cases hf : m.air[k]? with
  | none => exact h
  | some f =>
    obtain ⟨a1, a2, a3⟩ := h.air.each f (List.mem_of_getElem? hf)
    have he : Ms.Fine { m with air := m.air.eraseIdx k } c := ⟨h.short, h.sound, h.air.erase k⟩
    simp only
    split
    · cases hs : m.sts[f.dst]? with
      | none => exact he
      | some s =>
        simp only [Option.bind_some]
        cases ht : s.node with
        | none => exact he
        | some t =>
          have hso := h.sound _ s hs
          have hrt := (hso.node t ht).1
          have hw := hrt.wentRcv m.now (((m.sts[f.src]?).map fun x : Sta => x.addr).getD 0) f.bytes
          have hD := Ms.Did.run (m := { m with air := m.air.eraseIdx k }) (i := f.dst) (Ms.Did.emit (Ms.mod_at hs) (hso.says ht hw) hw.pks.le)
          exact he.did hD (Nat.le_refl _)
    · split
      · exact he
      · split
        · exact ⟨h.short, h.sound, h.air.fly a1 a2 a3⟩
        · split
          · refine ⟨h.short, h.sound, ⟨?_, fun x hx => ?_⟩⟩
            · show (m.air.set k _).length ≤ 48
              rw [List.length_set]; exact h.air.few
            · rcases List.mem_or_eq_of_mem_set hx with hx | rfl
              · exact h.air.each x hx
              · refine ⟨a1, a2, ?_⟩
                show (f.bytes.take _).length ≤ 100000
                rw [List.length_take]; omega
          · exact h
theorem Ms.Fine.tick {m : Ms} {c : Nat} (h : m.Fine c) (hc : c ≤ 8500) (n : UInt64) (hn : (m.now + n).toNat ≤ 4611686018427387904) : (m.tick n).Fine (c + 1) := by
  have h1 : Ms.Fine { m with now := m.now + n } c := ⟨h.short, h.sound, ⟨h.air.few, h.air.each⟩⟩
  have hT := Ms.tickN_told h1 hc hn m.sts.length (Nat.le_refl _)
  exact ⟨by show (Ms.tickN m.sts.length { m with now := m.now + n }).sts.length ≤ 6; rw [hT.length]; exact h.short, hT.sound, hT.air⟩
theorem Ms.Fine.node {m : Ms} {c : Nat} (h : m.Fine c) (hc : c ≤ 8500) (hn : m.now.toNat ≤ 4611686018427387904) {o : OpD} (ho : o.Ok) (hk : o.kind = 1 ∨ o.kind = 2 ∨ o.kind = 8 ∨ o.kind = 9 ∨ o.kind = 10 ∨ o.kind = 11) : (m.nodeOp o).Fine (c + 1) := by
  have hev : ∀ e, (m.event e).Fine (c + 1) := fun e => ⟨h.short, fun i s hs => (h.sound i s hs).mono (Nat.le_succ c), ⟨h.air.few, h.air.each⟩⟩
  cases hb : m.bars o with
  | true => rw [Ms.nodeOp_bar hb]; exact hev _
  | false =>
    obtain ⟨i, s, e1, hs, hw, hj⟩ := Ms.bars_false hb
    have hat : m.at_ o.a = some s := by rw [e1, m.at_nat]; exact hs
    have hso := h.sound i s hs
    rcases hk with hk | hk | hk | hk | hk | hk
    · rw [Ms.nodeOp_link hb hk]
      split
      · exact ⟨h.short, fun i s hs => (h.sound i s hs).mono (Nat.le_succ c), ⟨h.air.few, h.air.each⟩⟩
      · exact h.mono (Nat.le_succ c)
    · obtain ⟨j, s2, e2, hs2⟩ := hj (.inr (.inl hk))
      cases ht : s.node with
      | none => rw [ht, hk] at hw; exact absurd (hw (by decide)) (fun h : true = false => by cases h)
      | some t =>
        rw [Ms.nodeOp_send hb hk hat ht (by rw [e2, m.at_nat]; exact hs2)]
        split
        · rename_i he
          have hrt := (hso.node t ht).1
          have hw := hrt.wentSend hn s2.addr o.text (by unfold Nd.sendE at he; split at he; cases he; omega)
          rw [e1, Int.toNat_natCast]
          exact h.did (Ms.Did.run (Ms.Did.emit (Ms.mod_at hs) ((hso.mono (Nat.le_succ c)).says ht hw) hw.pks.le)) (Nat.le_succ c)
        · exact hev _
    · obtain ⟨j, s2, e2, hs2⟩ := hj (.inr (.inr hk))
      cases ht : s.node with
      | none => rw [ht, hk] at hw; exact absurd (hw (by decide)) (fun h : true = false => by cases h)
      | some t =>
        rw [Ms.nodeOp_rcv hb hk hat ht (by rw [e2, m.at_nat]; exact hs2)]
        have hrt := (hso.node t ht).1
        have hw := hrt.wentRcv m.now s2.addr o.text
        rw [e1, Int.toNat_natCast]
        exact (h.did (Ms.Did.run (Ms.Did.emit (Ms.mod_at hs) (hso.says ht hw) hw.pks.le)) (Nat.le_refl c)).mono (Nat.le_succ c)
    · rw [Ms.nodeOp_stop hb hk]
      exact (h.mod fun s hs => hs.stop).mono (Nat.le_succ c)
    · rw [Ms.nodeOp_arm hb hk]
      exact (h.mod fun s hs => hs.arm ho.n.2).mono (Nat.le_succ c)
    · rw [Ms.nodeOp_boot hb hk hat, e1, Int.toNat_natCast]
      have hD := Ms.Did.emit (m := m.mod i (Sta.boot m.now)) (i := i) (c := c) (o := Nd.newO s.addr s.journal m.now) (Ms.mod_at (f := Sta.boot m.now) hs) (hso.boot m.now) (by rw [(Nd.new_frames s.addr s.journal m.now).1]; simp)
      have hk2 : m.Kept (m.mod i (Sta.boot m.now)) i := Ms.Kept.mod (fun _ => rfl)
      have hD2 : m.Did (Ms.emit i (m.mod i (Sta.boot m.now)) (Nd.newO s.addr s.journal m.now)) i c (1 + (Nd.newO s.addr s.journal m.now).frames.length) := ⟨hk2.trans hD.kept, hD.here, fun ha => hD.air ⟨ha.few, fun x hx => by rw [hk2.length]; exact ha.each x hx⟩, hD.evs⟩
      exact (h.did hD2 (Nat.le_refl c)).mono (Nat.le_succ c)
theorem Ms.Fine.do_ {m : Ms} {c : Nat} (h : m.Fine c) (hc : c ≤ 8500) (hn : m.now.toNat + 60000 ≤ 4611686018427387904) {o : OpD} (ho : o.Ok) : (m.do_ o).Fine (c + 1) := by
  have h1 := h.clear
  by_cases hF : o.kind = 4 ∨ o.kind = 5 ∨ o.kind = 6 ∨ o.kind = 7
  · rw [Ms.do_frame hF]
    split
    · exact (h1.frame _ _).mono (Nat.le_succ c)
    · exact h1.mono (Nat.le_succ c)
  · by_cases hT : o.kind = 3
    · rw [Ms.do_tick hT]
      split
      · rename_i hr
        refine h1.tick hc _ ?_
        rw [UInt64.toNat_add]
        refine Nat.le_trans (Nat.mod_le _ _) ?_
        have : (UInt64.ofNat o.n.toNat).toNat ≤ 60000 := by
          rw [UInt64.toNat_ofNat']
          exact Nat.le_trans (Nat.mod_le _ _) (by omega)
        show m.now.toNat + _ ≤ _
        omega
      · exact h1.mono (Nat.le_succ c)
    · by_cases hN : o.kind = 1 ∨ o.kind = 2 ∨ o.kind = 8 ∨ o.kind = 9 ∨ o.kind = 10 ∨ o.kind = 11
      · rw [Ms.do_node hN]
        exact h1.node hc (by show m.now.toNat ≤ _; omega) ho hN
      · rw [Ms.do_none hF hT hN]
        exact h1.mono (Nat.le_succ c)
def Ms.Same (m m' : Ms) : Prop := m'.now = m.now ∧ m'.sts.map (·.addr) = m.sts.map (·.addr)
theorem Ms.Same.did {m m' : Ms} {i d n : Nat} (hD : m.Did m' i d n) : m.Same m' := ⟨hD.kept.now, hD.kept.addrs⟩
theorem Ms.Same.mod {m : Ms} {i : Nat} {f : Sta → Sta} (hf : ∀ s, (f s).addr = s.addr) : m.Same (m.mod i f) := ⟨rfl, (Ms.Kept.mod (i := i) hf).addrs⟩
theorem Ms.Fine.frame_same {m : Ms} {c : Nat} (h : m.Fine c) (o : OpD) (k : Nat) : m.Same (m.frame o k) := by
  unfold Ms.frame
  cases hf : m.air[k]? with
  | none => exact ⟨rfl, rfl⟩
  | some f =>
    simp only
    split
    · cases hs : m.sts[f.dst]? with
      | none => exact ⟨rfl, rfl⟩
      | some s =>
        simp only [Option.bind_some]
        cases ht : s.node with
        | none => exact ⟨rfl, rfl⟩
        | some t =>
          have hso := h.sound _ s hs
          have hrt := (hso.node t ht).1
          have hw := hrt.wentRcv m.now (((m.sts[f.src]?).map fun x : Sta => x.addr).getD 0) f.bytes
          have hD := Ms.Did.run (m := { m with air := m.air.eraseIdx k }) (i := f.dst) (Ms.Did.emit (Ms.mod_at hs) (hso.says ht hw) hw.pks.le)
          exact ⟨hD.kept.now, hD.kept.addrs⟩
    · split
      · exact ⟨rfl, rfl⟩
      · split
        · exact ⟨rfl, rfl⟩
        · split
          · exact ⟨rfl, rfl⟩
          · exact ⟨rfl, rfl⟩
theorem Ms.Fine.node_same {m : Ms} {c : Nat} (h : m.Fine c) (hn : m.now.toNat ≤ 4611686018427387904) {o : OpD} (hk : o.kind = 1 ∨ o.kind = 2 ∨ o.kind = 8 ∨ o.kind = 9 ∨ o.kind = 10 ∨ o.kind = 11) : m.Same (m.nodeOp o) := by
  cases hb : m.bars o with
  | true => rw [Ms.nodeOp_bar hb]; exact ⟨rfl, rfl⟩
  | false =>
    obtain ⟨i, s, e1, hs, hw, hj⟩ := Ms.bars_false hb
    have hat : m.at_ o.a = some s := by rw [e1, m.at_nat]; exact hs
    have hso := h.sound i s hs
    rcases hk with hk | hk | hk | hk | hk | hk
    · rw [Ms.nodeOp_link hb hk]
      split <;> exact ⟨rfl, rfl⟩
    · obtain ⟨j, s2, e2, hs2⟩ := hj (.inr (.inl hk))
      cases ht : s.node with
      | none => rw [ht, hk] at hw; exact absurd (hw (by decide)) (fun h : true = false => by cases h)
      | some t =>
        rw [Ms.nodeOp_send hb hk hat ht (by rw [e2, m.at_nat]; exact hs2)]
        split
        · rename_i he
          have hrt := (hso.node t ht).1
          have hw := hrt.wentSend hn s2.addr o.text (by unfold Nd.sendE at he; split at he; cases he; omega)
          rw [e1, Int.toNat_natCast]
          exact Ms.Same.did (Ms.Did.run (Ms.Did.emit (Ms.mod_at hs) ((hso.mono (Nat.le_succ c)).says ht hw) hw.pks.le))
        · exact ⟨rfl, rfl⟩
    · obtain ⟨j, s2, e2, hs2⟩ := hj (.inr (.inr hk))
      cases ht : s.node with
      | none => rw [ht, hk] at hw; exact absurd (hw (by decide)) (fun h : true = false => by cases h)
      | some t =>
        rw [Ms.nodeOp_rcv hb hk hat ht (by rw [e2, m.at_nat]; exact hs2)]
        have hrt := (hso.node t ht).1
        have hw := hrt.wentRcv m.now s2.addr o.text
        rw [e1, Int.toNat_natCast]
        exact Ms.Same.did (Ms.Did.run (Ms.Did.emit (Ms.mod_at hs) (hso.says ht hw) hw.pks.le))
    · rw [Ms.nodeOp_stop hb hk]
      exact Ms.Same.mod fun _ => rfl
    · rw [Ms.nodeOp_arm hb hk]
      exact Ms.Same.mod fun _ => rfl
    · rw [Ms.nodeOp_boot hb hk hat, e1, Int.toNat_natCast]
      have hD := Ms.Did.emit (m := m.mod i (Sta.boot m.now)) (i := i) (c := c) (o := Nd.newO s.addr s.journal m.now) (Ms.mod_at (f := Sta.boot m.now) hs) (hso.boot m.now) (by rw [(Nd.new_frames s.addr s.journal m.now).1]; simp)
      have hk2 : m.Kept (m.mod i (Sta.boot m.now)) i := Ms.Kept.mod (fun _ => rfl)
      exact ⟨(hk2.trans hD.kept).now, (hk2.trans hD.kept).addrs⟩
theorem Ms.Fine.do_same {m : Ms} {c : Nat} (h : m.Fine c) (hc : c ≤ 8500) (hn : m.now.toNat + 60000 ≤ 4611686018427387904) (o : OpD) : (m.do_ o).now.toNat ≤ m.now.toNat + 60000 ∧ (m.do_ o).sts.map (·.addr) = m.sts.map (·.addr) := by
  have h1 := h.clear
  have fin : ∀ m', Ms.Same { m with evs := [] } m' → m'.now.toNat ≤ m.now.toNat + 60000 ∧ m'.sts.map (·.addr) = m.sts.map (·.addr) := fun m' hs => ⟨by rw [hs.1]; exact Nat.le_add_right _ _, hs.2⟩
  by_cases hF : o.kind = 4 ∨ o.kind = 5 ∨ o.kind = 6 ∨ o.kind = 7
  · rw [Ms.do_frame hF]
    split
    · exact fin _ (h1.frame_same _ _)
    · exact fin _ ⟨rfl, rfl⟩
  · by_cases hT : o.kind = 3
    · rw [Ms.do_tick hT]
      split
      · rename_i hr
        have h2 : (UInt64.ofNat o.n.toNat).toNat ≤ 60000 := by
          rw [UInt64.toNat_ofNat']
          exact Nat.le_trans (Nat.mod_le _ _) (by omega)
        have h3 : (m.now + UInt64.ofNat o.n.toNat).toNat ≤ m.now.toNat + 60000 := by
          rw [UInt64.toNat_add]
          exact Nat.le_trans (Nat.mod_le _ _) (by omega)
        have h4 : Ms.Fine { m with now := m.now + UInt64.ofNat o.n.toNat, evs := [] } c := ⟨h.short, h.sound, ⟨h.air.few, h.air.each⟩⟩
        have hT := Ms.tickN_told h4 hc (by show (m.now + UInt64.ofNat o.n.toNat).toNat ≤ _; omega) m.sts.length (Nat.le_refl _)
        refine ⟨?_, hT.addrs⟩
        show (Ms.tickN m.sts.length { m with now := m.now + UInt64.ofNat o.n.toNat, evs := [] }).now.toNat ≤ _
        rw [hT.now]
        exact h3
      · exact fin _ ⟨rfl, rfl⟩
    · by_cases hN : o.kind = 1 ∨ o.kind = 2 ∨ o.kind = 8 ∨ o.kind = 9 ∨ o.kind = 10 ∨ o.kind = 11
      · rw [Ms.do_node hN]
        exact fin _ (h1.node_same (by show m.now.toNat ≤ _; omega) hN)
      · rw [Ms.do_none hF hT hN]
        exact fin _ ⟨rfl, rfl⟩
theorem Ms.new_fine {l : List UInt32} (h : l.length ≤ 6) : (Ms.new l).Fine 0 := by
  refine ⟨by show (l.map newSta).length ≤ 6; simpa using h, fun i s hs => ?_, ⟨by show ([] : List Fl).length ≤ 48; simp, fun f hf => by cases hf⟩⟩
  have hs' : (l.map newSta)[i]? = some s := hs
  rw [List.getElem?_map] at hs'
  cases hq : l[i]? with
  | none => rw [hq] at hs'; cases hs'
  | some a => rw [hq] at hs'; cases hs'; exact newSta_sound a
end

section
open Go.RowKit
theorem Q_convT32 {P : Program} {n : Frm} {w0 : World} {E : Env} {H : HProp} {d : Option Tmp} {ty : TypeId} {pos : String} {after : Array Edge} {gu : Option (Nat × Bool)} {x : Operand} {src t : TypeId} {m : Int} {ds : TypeDesc} (k : Nat) (hx : E.ev x = some (.int .i64 m)) (hm : m = (k : Int)) (hk : k ≤ 1000000) (hs : Und P src ds) (hd : Und P t (.int .u32)) : OpQ P n w0 ⟨d, .convert src t x, ty, pos, after, gu⟩ E H (u32 (UInt32.ofNat k)) :=
  Q_convI hx hs hd (by
    subst hm
    rw [wrap_u32, UInt32.toNat_ofNat', Nat.mod_eq_of_lt (by omega)]
    omega)
def adr (i : Nat) : UInt32 := UInt32.ofNat (10 * i + 10)
def adrs (q : Nat) : List UInt32 := (List.range q).map adr
theorem adrs_len (q : Nat) : (adrs q).length = q := by simp [adrs]
theorem adrs_succ (q : Nat) : adrs (q + 1) = adrs q ++ [adr q] := by simp [adrs, List.range_succ]
theorem adr_toNat {i : Nat} (hi : i ≤ 1000) : (adr i).toNat = 10 * i + 10 := by
  unfold adr
  rw [UInt32.toNat_ofNat', Nat.mod_eq_of_lt (by omega)]
theorem adr_inj {i j : Nat} (hi : i ≤ 1000) (hj : j ≤ 1000) (h : adr i = adr j) : i = j := by
  have h2 := congrArg UInt32.toNat h
  rw [adr_toNat hi, adr_toNat hj] at h2
  omega
theorem adr_ne {i : Nat} (hi : i ≤ 1000) : adr i ≠ 0 := fun h => by
  have h2 := congrArg UInt32.toNat h
  rw [adr_toNat hi] at h2
  have h3 : (0 : UInt32).toNat = 0 := rfl
  omega
theorem adrs_nodup {q : Nat} (hq : q ≤ 1000) : (adrs q).Nodup := by
  induction q with
  | zero => exact List.nodup_nil
  | succ q ih =>
    rw [adrs_succ]
    refine List.nodup_append.2 ⟨ih (by omega), by simp, fun a ha b hb => ?_⟩
    simp at hb
    subst hb
    rintro rfl
    simp only [adrs, List.mem_map, List.mem_range] at ha
    obtain ⟨i, hi, e⟩ := ha
    have := adr_inj (by omega) (by omega) e
    omega
attribute [local irreducible] WS LS OpQ OpT OpH OpTQ Spec SpecQ cel
variable (w0 : World)
theorem keepPick_spec (n m : Int) (hn : -9223372036854775808 ≤ n ∧ n ≤ 9223372036854775807) (hm : 0 < m ∧ m ≤ 1000) : Spec Tryz.prog w0 6 [.int .i64 n, .int .i64 m] emp (fun _ : Unit => .int .i64 ((if n < 0 then -(n + 1) else n) % m)) (fun _ => emp) := by
  refine Spec.enter Tryz.func6 rfl Tryz.ntmps6 rfl fun G => ?_
  simp only [argE]
  by_cases h : n < 0
  · rw [if_pos h]
    repeat' (first | (refine WS_seqK ?_; intro K hK) | (refine hK _ ?_; clear hK K) | refine stZ ?_ | (refine s2Z ?_ ?_ <;> intro hc <;> (try simp only [cS] at hc) <;> (try (exfalso; first | contradiction | omega))) | ((refine' LQ ?zh rfl ?_); case zh => intro F'; first | exact Q_move rfl | exact Q_assign rfl | exact Q_bin_t rfl rfl iI (by first | assumption | omega | decide) | exact Q_addI rfl rfl (by omega) | exact Q_remI rfl rfl (by omega) | exact Q_negI rfl (by omega)))
    exact ret_tmp (.inl rfl) rfl rfl ⟨(), rfl, finE⟩
  · rw [if_neg h]
    repeat' (first | (refine WS_seqK ?_; intro K hK) | (refine hK _ ?_; clear hK K) | refine stZ ?_ | (refine s2Z ?_ ?_ <;> intro hc <;> (try simp only [cS] at hc) <;> (try (exfalso; first | contradiction | omega))) | ((refine' LQ ?zh rfl ?_); case zh => intro F'; first | exact Q_move rfl | exact Q_assign rfl | exact Q_bin_f rfl rfl iI (by first | assumption | omega | decide) | exact Q_remI rfl rfl (by omega)))
    exact ret_tmp (.inl rfl) rfl rfl ⟨(), rfl, finE⟩
set_option maxRecDepth 100000 in
set_option maxHeartbeats 8000000 in
theorem keepRow_spec (q : Nat) (hq : 0 < q ∧ q ≤ 6) : Spec Tryz.prog w0 7 [.int .i64 (q : Int)] emp (fun x : Nat × MH => ptr x.1 0) (fun x => mshI x.1 x.2 (Ms.new (adrs q))) := by
  refine Spec.enter Tryz.func7 rfl Tryz.ntmps7 rfl fun G => ?_
  simp only [argE]
  repeat' (first | (refine WS_seqK ?_; intro K hK) | (refine hK _ ?_; clear hK K) | refine stZ ?_ | ((refine' LQ ?zh rfl ?_); case zh => intro F'; exact Q_assign rfl))
  refine WS_loop (fun kk τ => ∃ (i : Nat) (v : Value), i + kk = q ∧ τ = ⟨[(4, .int .i64 (i : Int)), (3, v), (0, .int .i64 (q : Int))], [], rows 34 1 wordC v (adrs i) * G⟩) ?_ ?_
  · exact ⟨q, _, ⟨0, .slice none 0 0, by omega, rfl⟩, ⟨rfl, rfl, rfl, trivial⟩, rfl, by show Ent (emp * G) (rows 34 1 wordC (.slice none 0 0) [] * G); exact finE⟩
  · rintro kk τ ⟨i, v, hik, rfl⟩
    have hlen := adrs_len i
    rcases Nat.lt_or_ge i q with hlt | hge
    · have h1 : (i : Int) < (q : Int) := by omega
      repeat' (first | (refine WS_seqK ?_; intro K hK) | (refine hK _ ?_; clear hK K) | refine stZ ?_ | (refine s2Z ?_ ?_ <;> intro hc <;> (try simp only [cS] at hc) <;> (try (exfalso; first | contradiction | omega))) | ((refine' LQ ?zh rfl ?_); case zh => intro F'; first | exact Q_move rfl | exact Q_assign rfl | exact Q_bin_t rfl rfl iI (by first | assumption | omega | decide) | exact Q_addI rfl rfl (by omega) | exact Q_mulI rfl rfl (by omega)) | (refine' LQ ?zh rfl ?_; (case zh => intro F'; exact Q_convT32 (10 * i + 10) rfl (by omega) (by omega) iI iI)) | (refine LS_h (H_buildSliceR wordC [adr i] iI iI iI rfl rfl rfl rfl rfl iI rfl rfl rfl) rfl ?_; intro vx) | (refine LS_h (H_appendR rfl rfl iI iI rfl iI iI wordC_one (by simp only [List.length_cons, List.length_nil]; omega) rfl) rfl ?_; intro va))
      refine ⟨kk - 1, _, by omega, ⟨i + 1, va, by omega, rfl⟩, ⟨rfl, rfl, rfl, trivial⟩, rfl, ?_⟩
      rw [adrs_succ]
      exact finE
    · obtain rfl : i = q := by omega
      have h1 : ¬ (i : Int) < (i : Int) := by omega
      have p1 := mnewM_spec w0 (adrs i) (by omega) (fun a ha => by
        simp only [adrs, List.mem_map, List.mem_range] at ha
        obtain ⟨j, hj, rfl⟩ := ha
        exact adr_ne (by omega)) (adrs_nodup (by omega)) v (rows 34 1 wordC v (adrs i))
      repeat' (first | (refine WS_seqK ?_; intro K hK) | (refine hK _ ?_; clear hK K) | refine stZ ?_ | (refine s2Z ?_ ?_ <;> intro hc <;> (try simp only [cS] at hc) <;> (try (exfalso; first | contradiction | omega))) | ((refine' LQ ?zh rfl ?_); case zh => intro F'; first | exact Q_move rfl | exact Q_assign rfl | exact Q_bin_f rfl rfl iI (by first | assumption | omega | decide) | exact Q_bin_nf rfl rfl iI (by first | assumption | omega | decide) | exact Q_extract rfl rfl) | (refine LS_h (H_callX iI rfl p1 iI) rfl ?_; intro x))
      exact ret_tmp (.inl rfl) rfl rfl ⟨x, rfl, finE⟩
end

section
structure LinesOk (me : UInt32) (rs : List Ln) : Prop where
  few : rs.length ≤ 8
  each : ∀ l ∈ rs, l.before.length ≤ 4 ∧ (l.valid = false → l.before = []) ∧ l.dest ≠ me
  rise : ∀ (i : Nat) x y, rs[i]? = some x → rs[i + 1]? = some y → x.dest.toNat < y.dest.toNat
theorem dests_sub (ls : List Ln) (ds : List UInt32) : ((ds.filterMap (lget ls)).map (·.dest)).Sublist ds := by
  induction ds with
  | nil => exact List.Sublist.refl _
  | cons d ds ih =>
    rw [List.filterMap_cons]
    cases hg : lget ls d with
    | none => exact ih.cons _
    | some l =>
      have hd : l.dest = d := by
        unfold lget at hg
        cases hf : lfind ls d with
        | none => rw [hf] at hg; cases hg
        | some i =>
          obtain ⟨l', h1, h2⟩ := lfind_some hf
          rw [hf, Option.bind_some, h1] at hg
          cases hg
          exact h2
      simp only [List.map_cons, hd]
      exact ih.cons_cons d
theorem listT_rise {ls : List Ln} (ok : TabOk ls) : ((listT ls).map (·.dest)).Pairwise fun a b => a.toNat < b.toNat := by
  have hn : (sortU (dests ls)).Nodup := (List.mergeSort_perm _ _).nodup_iff.2 ok.nodup
  have hp : (sortU (dests ls)).Pairwise fun a b => a.toNat ≤ b.toNat := rise_sortU _
  have hs : (sortU (dests ls)).Pairwise fun a b => a.toNat < b.toNat := by
    have := hp.and hn
    exact this.imp fun {a b} h => Nat.lt_of_le_of_ne h.1 fun e => h.2 (UInt32.toNat_inj.1 e)
  exact hs.sublist (dests_sub ls _)
theorem LnsOk.lines {self : UInt32} {ls : List Ln} (h : LnsOk self ls) : LinesOk self (listT ls) := by
  refine ⟨Nat.le_trans (listT_length ls) h.tab.short, fun l hl => ?_, fun i x y hx hy => ?_⟩
  · have hm := listT_mem' hl
    exact ⟨h.tab.before l hm, (h.line l hm).2, (h.line l hm).1⟩
  · have hr := listT_rise h.tab
    have hx' : ((listT ls).map (·.dest))[i]? = some x.dest := by rw [List.getElem?_map, hx]; rfl
    have hy' : ((listT ls).map (·.dest))[i + 1]? = some y.dest := by rw [List.getElem?_map, hy]; rfl
    obtain ⟨h1, e1⟩ := List.getElem?_eq_some_iff.1 hx'
    obtain ⟨h2, e2⟩ := List.getElem?_eq_some_iff.1 hy'
    have := List.pairwise_iff_getElem.1 hr i (i + 1) h1 h2 (Nat.lt_succ_self i)
    rw [e1, e2] at this
    exact this
def Ms.lines (m : Ms) (i : Int) : List Ln := ((((m.at_ i).bind (·.node)).map fun t : Nd => listT t.ls).getD [])
theorem Ms.Fine.lines {m : Ms} {c : Nat} (h : m.Fine c) {i : Nat} {s : Sta} (hs : m.sts[i]? = some s) : LinesOk s.addr (m.lines i) := by
  unfold Ms.lines
  rw [m.at_nat, hs]
  simp only [Option.bind_some]
  cases ht : s.node with
  | none => exact ⟨by simp, by simp, by simp⟩
  | some t =>
    obtain ⟨h1, h2, _⟩ := (h.sound i s hs).node t ht
    have := h1.inv.tab.lines
    rw [h2] at this
    exact this
def Ms.jour (m : Ms) (i : Int) : Str := ((m.at_ i).map (·.journal)).getD []
theorem Ms.Fine.jour {m : Ms} {c : Nat} (h : m.Fine c) {i : Nat} {s : Sta} {t : Nd} (hs : m.sts[i]? = some s) (ht : s.node = some t) : m.jour i ≠ [] ∧ (m.jour i).length % 13 = 0 ∧ (m.jour i).length ≤ 312 := by
  have hso := h.sound i s hs
  obtain ⟨h1, h2, h3, h4⟩ := hso.node t ht
  have e : m.jour i = recsB t.recs := by unfold Ms.jour; rw [m.at_nat, hs]; exact h3
  have hl : (m.jour i).length = 13 * t.recs.length := by rw [e, recsB_length]
  have h5 : t.recs.length ≠ 0 := fun h => h4 (List.eq_nil_of_length_eq_zero h)
  refine ⟨fun h => ?_, by omega, ?_⟩
  · rw [h] at hl
    simp only [List.length_nil] at hl
    omega
  · have := hso.jour
    rw [h3, ← e] at this
    exact this
theorem Ms.addr_at {m : Ms} {q i : Nat} {s : Sta} {f : Nat → UInt32} (h : m.sts.map (·.addr) = (List.range q).map f) (hs : m.sts[i]? = some s) : s.addr = f i ∧ i < q := by
  have h1 : (m.sts.map (·.addr))[i]? = some s.addr := by rw [List.getElem?_map, hs]; rfl
  rw [h, List.getElem?_map] at h1
  cases hq : (List.range q)[i]? with
  | none => rw [hq] at h1; cases h1
  | some j =>
    rw [hq] at h1
    obtain ⟨h2, h3⟩ := List.getElem?_eq_some_iff.1 hq
    rw [List.getElem_range] at h3
    subst h3
    rw [List.length_range] at h2
    exact ⟨(Option.some.inj h1).symm, h2⟩
end

section
open Go.RowKit
instance : FixLen opC 6 := ⟨fun _ => rfl⟩
structure OpsOk (l : List OpD) : Prop where
  n : ∀ o ∈ l, -9223372036854775808 ≤ o.n ∧ o.n ≤ 9223372036854775807
structure BndI (q i : Nat) (m : Ms) : Prop where
  fine : m.Fine i
  now : m.now.toNat ≤ i * 60000
  addrs : m.sts.map (·.addr) = (List.range q).map adr
theorem BndI.len {q i : Nat} {m : Ms} (h : BndI q i m) : m.sts.length = q := by
  have := congrArg List.length h.addrs
  simpa using this
theorem BndI.new {q : Nat} (hq : q ≤ 6) : BndI q 0 (Ms.new (adrs q)) := by
  refine ⟨Ms.new_fine (by rw [adrs_len]; exact hq), by show (0 : UInt64).toNat ≤ _; simp, ?_⟩
  show ((adrs q).map newSta).map (·.addr) = _
  rw [List.map_map]
  show (adrs q).map (fun a => a) = _
  simp [adrs]
theorem BndI.step {q i : Nat} {m : Ms} (h : BndI q i m) (hi : i < 4096) {o : OpD} (ho : o.Ok) : BndI q (i + 1) (m.do_ o) := by
  have hn := h.now
  have h1 := h.fine.do_ (by omega) (by omega) ho
  have h2 := h.fine.do_same (by omega) (by omega) o
  exact ⟨h1, by omega, h2.2.trans h.addrs⟩
theorem BndI.skip {q i : Nat} {m : Ms} (h : BndI q i m) : BndI q (i + 1) m := ⟨h.fine.mono (Nat.le_succ i), Nat.le_trans h.now (Nat.mul_le_mul_right _ (Nat.le_succ i)), h.addrs⟩
end

section
open Go.ChangeShapes Go.WideShapes Go.ChangeAt Go.RowKit Go.Deep
theorem dec_op : Dec 27 opC (fun _ o => i64R o.n) := fun {H enc w base spare held n c y} h => by
  obtain ⟨hl, ys, m, _, _, hf⟩ := struct_cells Tryz.underlying27 (by kernel_rfl) (by kernel_rfl) h
  obtain ⟨v0, y0, e0, _, t0⟩ := hf 0 _ rfl
  obtain ⟨v1, y1, e1, _, t1⟩ := hf 1 _ rfl
  obtain ⟨v2, y2, e2, _, t2⟩ := hf 2 _ rfl
  obtain ⟨v3, y3, e3, _, t3⟩ := hf 3 _ rfl
  obtain ⟨v4, y4, e4, _, t4⟩ := hf 4 _ rfl
  obtain ⟨v5, y5, e5, _, t5⟩ := hf 5 _ rfl
  obtain ⟨a0, q0, _⟩ := dec_i64 Tryz.underlying3 t0
  obtain ⟨a1, q1, _⟩ := dec_i64 Tryz.underlying3 t1
  obtain ⟨a2, q2, _⟩ := dec_i64 Tryz.underlying3 t2
  obtain ⟨a3, q3, k3⟩ := dec_i64 Tryz.underlying3 t3
  obtain ⟨a4, q4, _⟩ := dec_bool Tryz.underlying4 t4
  obtain ⟨a5, q5, _⟩ := dec_str Tryz.underlying9 t5
  refine ⟨⟨a0, a1, a2, a3, a4, a5⟩, ?_, k3⟩
  simp only [i64C, boolC, strC, List.cons.injEq, and_true] at q0 q1 q2 q3 q4 q5
  subst q0; subst q1; subst q2; subst q3; subst q4; subst q5
  match c, hl with
  | [c0, c1, c2, c3, c4, c5], _ => simp at e0 e1 e2 e3 e4 e5; subst e0; subst e1; subst e2; subst e3; subst e4; subst e5; rfl
end

section
open Go.RowKit
attribute [local irreducible] WS LS OpQ OpT OpH OpTQ Spec SpecQ cel
variable (w0 : World)
set_option maxRecDepth 100000 in
set_option maxHeartbeats 32000000 in
theorem bounded_law (n : Int) (hn : -9223372036854775808 ≤ n ∧ n ≤ 9223372036854775807) (v : Value) (l : List OpD) (hok : OpsOk l) (X : HProp) [hX : Rdr w0 X v OpD 6 opC l] :
    Spec Tryz.prog w0 3 [.int .i64 n, v] X (fun _ : Unit => .bool true) (fun _ => X) := by
  refine Spec.enter Tryz.func3 rfl Tryz.ntmps3 rfl fun G => ?_
  have p1 := keepPick_spec w0 n 5 hn (by omega)
  obtain ⟨pk, hpk, hpk4⟩ : ∃ pk : Nat, (if n < 0 then -(n + 1) else n) % 5 = (pk : Int) ∧ pk ≤ 4 := by
    refine ⟨((if n < 0 then -(n + 1) else n) % 5).toNat, ?_, ?_⟩ <;> split <;> omega
  rw [hpk] at p1
  have p2 := keepRow_spec w0 (pk + 2) (by omega)
  rw [show ((pk + 2 : Nat) : Int) = 2 + (pk : Int) by omega] at p2
  simp only [argE]
  by_cases hbig : (4096 : Int) < (l.length : Int)
  · repeat' (first | (refine WS_seqK ?_; intro K hK) | (refine hK _ ?_; clear hK K) | refine stZ ?_ | (refine s2Z ?_ ?_ <;> intro hc <;> (try simp only [cS] at hc) <;> (try (exfalso; first | contradiction | omega))) | ((refine' LQ ?zh rfl ?_); case zh => intro F'; first | exact Q_move rfl | exact Q_assign rfl | exact Q_bin_t rfl rfl iI (by first | assumption | omega | decide) | exact Q_addI rfl rfl (by omega) | exact Q_lenR rfl iI iI) | ((refine' LQ ?zh rfl ?_); case zh => intro F'; exact Q_bin rfl rfl iI) | (refine LS_h (H_callX iI rfl p1 ⟨emp_star.symm⟩) rfl ?_; intro u1) | (refine LS_h (H_callX iI rfl p2 ⟨emp_star.symm⟩) rfl ?_; intro x))
    exact ret_tmp (.inl rfl) rfl rfl ⟨(), rfl, finE⟩
  · repeat' (first | (refine WS_seqK ?_; intro K hK) | (refine hK _ ?_; clear hK K) | refine stZ ?_ | (refine s2Z ?_ ?_ <;> intro hc <;> (try simp only [cS] at hc) <;> (try (exfalso; first | contradiction | omega))) | ((refine' LQ ?zh rfl ?_); case zh => intro F'; first | exact Q_move rfl | exact Q_assign rfl | exact Q_bin_f rfl rfl iI (by first | assumption | omega | decide) | exact Q_addI rfl rfl (by omega) | exact Q_lenR rfl iI iI) | ((refine' LQ ?zh rfl ?_); case zh => intro F'; exact Q_bin rfl rfl iI) | (refine LS_h (H_callX iI rfl p1 ⟨emp_star.symm⟩) rfl ?_; intro u1) | (refine LS_h (H_callX iI rfl p2 ⟨emp_star.symm⟩) rfl ?_; intro x))
    refine WS_loop (fun kk τ => ∃ (i : Nat) (m : Ms), i + kk = l.length ∧ BndI (pk + 2) i m ∧ τ = ⟨[(7, .int .i64 (i : Int)), (6, ptr x.1 0), (5, .int .i64 (2 + (pk : Int))), (1, v), (0, .int .i64 n)], [], mshI x.1 x.2 m * (X * G)⟩) ?_ ?_
    · exact ⟨l.length, _, ⟨0, _, by omega, BndI.new (by omega), rfl⟩, ⟨rfl, rfl, rfl, rfl, rfl, trivial⟩, rfl, finE⟩
    · rintro kk τ ⟨i, m, hik, hI, rfl⟩
      rcases Nat.lt_or_ge i l.length with hlt | hge
      · have h1 : (i : Int) < (l.length : Int) := by omega
        obtain ⟨o, ho⟩ : ∃ o, l[i]? = some o := ⟨_, List.getElem?_eq_getElem hlt⟩
        have hon := hok.n o (List.mem_of_getElem? ho)
        by_cases htx : (65536 : Int) < (o.text.length : Int)
        · repeat' (first | (refine WS_seqK ?_; intro K hK) | (refine hK _ ?_; clear hK K) | refine stZ ?_ | (refine s2Z ?_ ?_ <;> intro hc <;> (try simp only [cS] at hc) <;> (try (exfalso; first | contradiction | omega))) | ((refine' LQ ?zh rfl ?_); case zh => intro F'; first | exact Q_move rfl | exact Q_assign rfl | exact Q_bin_t rfl rfl iI (by first | assumption | omega | decide) | exact Q_addI rfl rfl (by omega) | exact Q_lenS rfl iI | exact Q_index rfl rfl iI iI iI iI (by first | assumption | omega | (simp [be_length] <;> omega)) | exact Q_fieldR rfl iI iI rfl (by first | assumption | omega | (simp [be_length] <;> omega)) | exact Q_loadR rfl iI iI iI (by assumption) rfl | exact Q_lenR rfl iI iI))
          exact ⟨kk - 1, _, by omega, ⟨i + 1, m, by omega, hI.skip, rfl⟩, ⟨rfl, rfl, rfl, rfl, rfl, trivial⟩, rfl, finE⟩
        · have ho' : o.Ok := ⟨hon, fun _ => by omega⟩
          have hI2 := hI.step (by omega) ho'
          have p3 := mdo_spec w0 x.1 x.2 m o i hI.fine (by omega) (by have := hI.now; omega) ho'
          have p4 := mair_spec w0 x.1 x.2 (m.do_ o) hI2.fine.air.few
          simp only [opA] at p3
          generalize m.do_ o = m2 at *
          have hair : ¬ (48 : Int) < (m2.air.length : Int) := by have := hI2.fine.air.few; omega
          repeat' (first | (refine WS_seqK ?_; intro K hK) | (refine hK _ ?_; clear hK K) | refine stZ ?_ | (refine s2Z ?_ ?_ <;> intro hc <;> (try simp only [cS] at hc) <;> (try (exfalso; first | contradiction | omega))) | ((refine' LQ ?zh rfl ?_); case zh => intro F'; first | exact Q_move rfl | exact Q_assign rfl | exact Q_bin_t rfl rfl iI (by first | assumption | omega | decide) | exact Q_bin_f rfl rfl iI (by first | assumption | omega | decide) | exact Q_lenS rfl iI | exact Q_index rfl rfl iI iI iI iI (by first | assumption | omega | (simp [be_length] <;> omega)) | exact Q_fieldR rfl iI iI rfl (by first | assumption | omega | (simp [be_length] <;> omega)) | exact Q_loadR rfl iI iI iI (by assumption) rfl | exact Q_loadRA rfl iI iI iI (by assumption) | exact Q_lenR rfl iI iI) | (refine LS_h (H_callX iI rfl p3 iI) rfl ?_; intro x3) | (refine LS_h (H_callX iI rfl p4 iI) rfl ?_; intro v4))
          have hlen2 := hI2.len
          refine WS_loop (fun kk2 τ => ∃ (j : Nat), j + kk2 = pk + 2 ∧ τ = ⟨[(9, .int .i64 (j : Int)), (7, .int .i64 (i : Int)), (6, ptr x.1 0), (5, .int .i64 (2 + (pk : Int))), (1, v), (0, .int .i64 n)], [], mshI x.1 x.2 m2 * (X * G)⟩) ?_ ?_
          · exact ⟨pk + 2, _, ⟨0, by omega, rfl⟩, ⟨rfl, rfl, rfl, rfl, rfl, rfl, trivial⟩, rfl, finE⟩
          · rintro kk2 τ ⟨j, hjk, rfl⟩
            rcases Nat.lt_or_ge j (pk + 2) with hjlt | hjge
            · have hj1 : (j : Int) < 2 + (pk : Int) := by omega
              obtain ⟨s, hs⟩ : ∃ s, m2.sts[j]? = some s := ⟨_, List.getElem?_eq_getElem (by omega)⟩
              have hlines := hI2.fine.lines hs
              rw [(Ms.addr_at hI2.addrs hs).1] at hlines
              have p5 := mroutesI_spec w0 x.1 x.2 m2 (j : Int) hI2.fine.short (fun j s t h1 h2 => ((hI2.fine.sound j s h1).node t h2).1.inv.tab.tab)
              have p6 := mruns_spec w0 x.1 x.2 m2 (j : Int) hI2.fine.short
              have p7 := mjournal_spec w0 x.1 x.2 m2 (j : Int) hI2.fine.short (fun j s h1 => by have := (hI2.fine.sound j s h1).jour; omega)
              have hq8 : ∀ x5 : Value × List LnS, x5.2.map (·.1) = m2.lines (j : Int) → ¬ (8 : Int) < (x5.2.length : Int) := fun x5 h => by
                have h1 := congrArg List.length h
                have h2 := hlines.few
                simp only [List.length_map] at h1
                omega
              repeat' (first | (refine WS_seqK ?_; intro K hK) | (refine hK _ ?_; clear hK K) | refine stZ ?_ | (refine s2Z ?_ ?_ <;> intro hc <;> (try simp only [cS] at hc) <;> (try (exfalso; first | contradiction | omega))) | ((refine' LQ ?zh rfl ?_); case zh => intro F'; first | exact Q_move rfl | exact Q_assign rfl | exact Q_bin_t rfl rfl iI (by first | assumption | omega | decide) | exact Q_bin_f rfl rfl iI (by first | assumption | omega | decide) | exact Q_lenR rfl iI iI) | (refine LS_h (H_callX iI rfl p5 iI) rfl ?_; intro x5; refine LS_pureI iI ?_; intro hmap; have hlen8 := hq8 x5 hmap))
              refine WS_loop (fun kk3 τ => ∃ (r : Nat), r + kk3 = x5.2.length ∧ τ = ⟨[(11, .int .i64 (r : Int)), (10, x5.1), (9, .int .i64 (j : Int)), (7, .int .i64 (i : Int)), (6, ptr x.1 0), (5, .int .i64 (2 + (pk : Int))), (1, v), (0, .int .i64 n)], [], mshI x.1 x.2 m2 * (rows 38 7 routeS x5.1 x5.2 * (X * G))⟩) ?_ ?_
              · exact ⟨x5.2.length, _, ⟨0, by omega, rfl⟩, ⟨rfl, rfl, rfl, rfl, rfl, rfl, rfl, rfl, trivial⟩, rfl, finE⟩
              · rintro kk3 τ ⟨r, hrk, rfl⟩
                rcases Nat.lt_or_ge r x5.2.length with hrlt | hrge
                · have hr1 : (r : Int) < (x5.2.length : Int) := by omega
                  obtain ⟨y, hy⟩ : ∃ y, x5.2[r]? = some y := ⟨_, List.getElem?_eq_getElem hrlt⟩
                  have hyl : (m2.lines (j : Int))[r]? = some y.1 := by
                    have h2 := congrArg (fun z => z[r]?) hmap
                    simp only [List.getElem?_map, hy] at h2
                    exact h2.symm
                  have hye := hlines.each y.1 (List.mem_of_getElem? hyl)
                  have hb4 : ¬ (4 : Int) < ((sortU y.1.before).length : Int) := by rw [sortU_length]; have := hye.1; omega
                  have hdest : ¬ y.1.dest = UInt32.ofNat (10 * j + 10) := hye.2.2
                  have hr9 : r < 9 := by omega
                  have hj7 : j < 7 := by omega
                  have hinv : y.1.valid = false → ¬ (0 : Int) < ((sortU y.1.before).length : Int) := fun h => by rw [sortU_length, hye.2.1 h]; simp
                  have hprev : ∀ z, 0 < r → x5.2[r - 1]? = some z → ¬ y.1.dest ≤ z.1.dest := fun z h0 hz => by
                    have h2 := congrArg (fun q => q[r - 1]?) hmap
                    simp only [List.getElem?_map, hz] at h2
                    have h3 := hlines.rise (r - 1) z.1 y.1 h2.symm (by rw [Nat.sub_add_cancel h0]; exact hyl)
                    intro h4
                    have : y.1.dest.toNat ≤ z.1.dest.toNat := h4
                    omega
                  obtain ⟨⟨ydest, yseq, yhops, ynext, yvalid, yexp, ybef⟩, ysv⟩ := y
                  simp only at hb4 hdest hinv hprev
                  by_cases hr0 : r = 0
                  · have hr2 : ¬ (0 : Int) < (r : Int) := by omega
                    cases yvalid with
                    | true =>
                      repeat' (first | (show WS _ _ _ (.region 24 _ true) _ _; refine WS_drawA (.range 54) (by decide +kernel) rfl ?_) | (refine WS_seqK ?_; intro K hK) | (refine hK _ ?_; clear hK K) | refine stZ ?_ | (refine s2Z ?_ ?_ <;> intro hc <;> (try simp only [cS] at hc) <;> (try (exfalso; first | contradiction | omega))) | ((first | refine' LQ ?zh rfl ?_ | refine' DL_q rfl rfl ?zh ?_ | refine' DL_qg rfl rfl rfl ?zh ?_); case zh => intro F'; first | exact Q_move rfl | exact Q_assign rfl | exact Q_bin_t rfl rfl iI (by first | assumption | omega | decide) | exact Q_bin_f rfl rfl iI (by first | assumption | omega | decide) | exact Q_addI rfl rfl (by omega) | exact Q_pick_f rfl iI rfl | exact Q_un rfl iI | exact Q_len rfl iI | exact Q_index rfl rfl iI iI iI iI (by first | assumption | omega | (simp [be_length] <;> omega)) | exact Q_fieldR rfl iI iI rfl (by first | assumption | omega | (simp [be_length] <;> omega)) | exact Q_loadR rfl iI iI iI (by assumption) rfl | exact Q_lenR rfl iI iI | exact Q_mulI rfl rfl (by omega)) | (refine' DL_qg rfl rfl rfl ?zh ?_; (case zh => intro F'; exact Q_convT32 (10 * j + 10) rfl (by omega) (by omega) iI iI)))
                      exact ⟨kk3 - 1, _, by omega, ⟨r + 1, by omega, rfl⟩, ⟨rfl, rfl, rfl, rfl, rfl, rfl, rfl, rfl, trivial⟩, rfl, finE⟩
                    | false =>
                      have hinv' := hinv rfl
                      repeat' (first | (show WS _ _ _ (.region 24 _ true) _ _; refine WS_drawA (.range 54) (by decide +kernel) rfl ?_) | (refine WS_seqK ?_; intro K hK) | (refine hK _ ?_; clear hK K) | refine stZ ?_ | (refine s2Z ?_ ?_ <;> intro hc <;> (try simp only [cS] at hc) <;> (try (exfalso; first | contradiction | omega))) | ((first | refine' LQ ?zh rfl ?_ | refine' DL_q rfl rfl ?zh ?_ | refine' DL_qg rfl rfl rfl ?zh ?_); case zh => intro F'; first | exact Q_move rfl | exact Q_assign rfl | exact Q_bin_t rfl rfl iI (by first | assumption | omega | decide) | exact Q_bin_f rfl rfl iI (by first | assumption | omega | decide) | exact Q_addI rfl rfl (by omega) | exact Q_pick_t rfl iI rfl | exact Q_pick_f rfl iI rfl | exact Q_un rfl iI | exact Q_len rfl iI | exact Q_index rfl rfl iI iI iI iI (by first | assumption | omega | (simp [be_length] <;> omega)) | exact Q_fieldR rfl iI iI rfl (by first | assumption | omega | (simp [be_length] <;> omega)) | exact Q_loadR rfl iI iI iI (by assumption) rfl | exact Q_lenR rfl iI iI | exact Q_mulI rfl rfl (by omega)) | (refine' DL_qg rfl rfl rfl ?zh ?_; (case zh => intro F'; exact Q_convT32 (10 * j + 10) rfl (by omega) (by omega) iI iI)))
                      exact ⟨kk3 - 1, _, by omega, ⟨r + 1, by omega, rfl⟩, ⟨rfl, rfl, rfl, rfl, rfl, rfl, rfl, rfl, trivial⟩, rfl, finE⟩
                  · have hr2 : (0 : Int) < (r : Int) := by omega
                    obtain ⟨z, hz⟩ : ∃ z, x5.2[r - 1]? = some z := ⟨_, List.getElem?_eq_getElem (by omega)⟩
                    have hp' := hprev z (by omega) hz
                    haveI : AsNat ((r : Int) - 1) (r - 1) := ⟨by omega⟩
                    have hr3 : r - 1 < x5.2.length := by omega
                    cases yvalid with
                    | true =>
                      repeat' (first | (show WS _ _ _ (.region 24 _ true) _ _; refine WS_drawA (.range 54) (by decide +kernel) rfl ?_) | (refine WS_seqK ?_; intro K hK) | (refine hK _ ?_; clear hK K) | refine stZ ?_ | (refine s2Z ?_ ?_ <;> intro hc <;> (try simp only [cS] at hc) <;> (try (exfalso; first | contradiction | omega))) | ((first | refine' LQ ?zh rfl ?_ | refine' DL_q rfl rfl ?zh ?_ | refine' DL_qg rfl rfl rfl ?zh ?_); case zh => intro F'; first | exact Q_move rfl | exact Q_assign rfl | exact Q_bin_t rfl rfl iI (by first | assumption | omega | decide) | exact Q_bin_f rfl rfl iI (by first | assumption | omega | decide) | exact Q_addI rfl rfl (by omega) | exact Q_subI rfl rfl (by omega) | exact Q_pick_t rfl iI rfl | exact Q_pick_f rfl iI rfl | exact Q_un rfl iI | exact Q_len rfl iI | exact Q_index rfl rfl iI iI iI iI (by first | assumption | omega | (simp [be_length] <;> omega)) | exact Q_fieldR rfl iI iI rfl (by first | assumption | omega | (simp [be_length] <;> omega)) | exact Q_loadR rfl iI iI iI (by assumption) rfl | exact Q_lenR rfl iI iI | exact Q_mulI rfl rfl (by omega)) | (refine' DL_qg rfl rfl rfl ?zh ?_; (case zh => intro F'; exact Q_convT32 (10 * j + 10) rfl (by omega) (by omega) iI iI)))
                      exact ⟨kk3 - 1, _, by omega, ⟨r + 1, by omega, rfl⟩, ⟨rfl, rfl, rfl, rfl, rfl, rfl, rfl, rfl, trivial⟩, rfl, finE⟩
                    | false =>
                      have hinv' := hinv rfl
                      repeat' (first | (show WS _ _ _ (.region 24 _ true) _ _; refine WS_drawA (.range 54) (by decide +kernel) rfl ?_) | (refine WS_seqK ?_; intro K hK) | (refine hK _ ?_; clear hK K) | refine stZ ?_ | (refine s2Z ?_ ?_ <;> intro hc <;> (try simp only [cS] at hc) <;> (try (exfalso; first | contradiction | omega))) | ((first | refine' LQ ?zh rfl ?_ | refine' DL_q rfl rfl ?zh ?_ | refine' DL_qg rfl rfl rfl ?zh ?_); case zh => intro F'; first | exact Q_move rfl | exact Q_assign rfl | exact Q_bin_t rfl rfl iI (by first | assumption | omega | decide) | exact Q_bin_f rfl rfl iI (by first | assumption | omega | decide) | exact Q_addI rfl rfl (by omega) | exact Q_subI rfl rfl (by omega) | exact Q_pick_t rfl iI rfl | exact Q_pick_f rfl iI rfl | exact Q_un rfl iI | exact Q_len rfl iI | exact Q_index rfl rfl iI iI iI iI (by first | assumption | omega | (simp [be_length] <;> omega)) | exact Q_fieldR rfl iI iI rfl (by first | assumption | omega | (simp [be_length] <;> omega)) | exact Q_loadR rfl iI iI iI (by assumption) rfl | exact Q_lenR rfl iI iI | exact Q_mulI rfl rfl (by omega)) | (refine' DL_qg rfl rfl rfl ?zh ?_; (case zh => intro F'; exact Q_convT32 (10 * j + 10) rfl (by omega) (by omega) iI iI)))
                      exact ⟨kk3 - 1, _, by omega, ⟨r + 1, by omega, rfl⟩, ⟨rfl, rfl, rfl, rfl, rfl, rfl, rfl, rfl, trivial⟩, rfl, finE⟩
                · have hr1 : ¬ (r : Int) < (x5.2.length : Int) := by omega
                  have hat : (m2.at_ (j : Int)).bind (·.node) = s.node := by rw [m2.at_nat, hs]; rfl
                  rw [hat] at p6
                  cases ht : s.node with
                  | none =>
                    rw [ht] at p6
                    simp only [Option.isSome_none] at p6
                    repeat' (first | (refine WS_seqK ?_; intro K hK) | (refine hK _ ?_; clear hK K) | refine stZ ?_ | (refine s2Z ?_ ?_ <;> intro hc <;> (try simp only [cS] at hc) <;> (try (exfalso; first | contradiction | omega))) | ((refine' LQ ?zh rfl ?_); case zh => intro F'; first | exact Q_move rfl | exact Q_assign rfl | exact Q_bin_f rfl rfl iI (by first | assumption | omega | decide) | exact Q_addI rfl rfl (by omega) | exact Q_pick_f rfl iI rfl | exact Q_lenR rfl iI iI) | (refine LS_h (H_callX iI rfl p6 iI) rfl ?_; intro u6) | (refine LS_h (H_callX iI rfl p7 iI) rfl ?_; intro v7))
                    exact ⟨kk2 - 1, _, by omega, ⟨j + 1, by omega, rfl⟩, ⟨rfl, rfl, rfl, rfl, rfl, rfl, trivial⟩, rfl, finE⟩
                  | some t =>
                    rw [ht] at p6
                    simp only [Option.isSome_some] at p6
                    obtain ⟨g1, g2, g3⟩ := hI2.fine.jour hs ht
                    have p7' : Spec Tryz.prog w0 12 [ptr x.1 0, .int .i64 (j : Int)] (mshI x.1 x.2 m2) (fun v : Value => v) (fun v => mshI x.1 x.2 m2 * rows 5 1 byteC v (m2.jour (j : Int))) := p7
                    clear p7
                    generalize m2.jour (j : Int) = J at *
                    have g0 : ¬ (J.length : Int) = 0 := fun h => g1 (List.eq_nil_of_length_eq_zero (by omega))
                    have g4 : (J.length : Int) % 13 = 0 := by omega
                    have g5 : ¬ (312 : Int) < (J.length : Int) := by omega
                    repeat' (first | (refine WS_seqK ?_; intro K hK) | (refine hK _ ?_; clear hK K) | refine stZ ?_ | (refine s2Z ?_ ?_ <;> intro hc <;> (try simp only [cS] at hc) <;> (try (exfalso; first | contradiction | omega))) | ((refine' LQ ?zh rfl ?_); case zh => intro F'; first | exact Q_move rfl | exact Q_assign rfl | exact Q_bin_f rfl rfl iI (by first | assumption | omega | decide) | exact Q_bin_nf rfl rfl iI (by first | assumption | omega | decide) | exact Q_addI rfl rfl (by omega) | exact Q_pick_t rfl iI rfl | exact Q_pick_f rfl iI rfl | exact Q_lenR rfl iI iI | exact Q_remI rfl rfl (by omega)) | (refine LS_h (H_callX iI rfl p6 iI) rfl ?_; intro u6) | (refine LS_h (H_callX iI rfl p7' iI) rfl ?_; intro v7))
                    exact ⟨kk2 - 1, _, by omega, ⟨j + 1, by omega, rfl⟩, ⟨rfl, rfl, rfl, rfl, rfl, rfl, trivial⟩, rfl, finE⟩
            · have hj1 : ¬ (j : Int) < 2 + (pk : Int) := by omega
              repeat' (first | (refine WS_seqK ?_; intro K hK) | (refine hK _ ?_; clear hK K) | refine stZ ?_ | (refine s2Z ?_ ?_ <;> intro hc <;> (try simp only [cS] at hc) <;> (try (exfalso; first | contradiction | omega))) | ((refine' LQ ?zh rfl ?_); case zh => intro F'; first | exact Q_move rfl | exact Q_assign rfl | exact Q_bin_f rfl rfl iI (by first | assumption | omega | decide) | exact Q_addI rfl rfl (by omega)))
              exact ⟨kk - 1, _, by omega, ⟨i + 1, m2, by omega, hI2, rfl⟩, ⟨rfl, rfl, rfl, rfl, rfl, trivial⟩, rfl, finE⟩
      · obtain rfl : i = l.length := by omega
        have h1 : ¬ (l.length : Int) < (l.length : Int) := by omega
        repeat' (first | (refine WS_seqK ?_; intro K hK) | (refine hK _ ?_; clear hK K) | refine stZ ?_ | (refine s2Z ?_ ?_ <;> intro hc <;> (try simp only [cS] at hc) <;> (try (exfalso; first | contradiction | omega))) | ((refine' LQ ?zh rfl ?_); case zh => intro F'; first | exact Q_move rfl | exact Q_assign rfl | exact Q_bin_f rfl rfl iI (by first | assumption | omega | decide) | exact Q_lenR rfl iI iI))
        exact ret_tmp (.inl rfl) rfl rfl ⟨(), rfl, finE⟩
end

end Go.Proofs.YtapoehkdnglahaaGreat
namespace Go.Proofs.YtapoehkdnglahaaGreat.bounded
open Go.ChangeShapes Go.WideShapes Go.ChangeAt Go.RowKit Go.Proofs.YtapoehkdnglahaaGreat

theorem own : ownKnob Tryz.prog.godebug = none := by kernel_rfl
set_option maxRecDepth 100000 in
theorem lifted (os : Os) (started : os.Started) (H : Type) (enc : TypeId × Value → H) :
    ReturnsInHanded {} Tryz.checked os 3 .any (Rows.boundedSpec.pre6 enc Tryz.prog Tryz.f3 Rows.boundedRow.domain false) (Rows.boundedSpec.post enc Tryz.prog Tryz.f3 false true false false) := by
  refine returnsInHanded_of_change (C := Tryz.checked) own started (by kernel_rfl) Tryz.func3
    (ChangeSpec.witness6 (enc := enc) (C := Tryz.checked) false ⟨#[], #[.int .i64 0, .slice none 0 0], []⟩ 8 (by kernel_rfl) (by kernel_rfl) (by kernel_rfl) (by kernel_rfl)) ?_
  intro W base args ds gs before hval0 hW hcnd _
  have hval : ∀ (j : Nat) t v, Tryz.f3.params[j]? = some t → args[j]? = some v → Value.okWide Tryz.prog W .any base t v := hval0
  have hW' := hW
  obtain ⟨p, q, hA0, hV, rfl, hfz, hnd⟩ := hW
  have hA : DataW.TrodAll enc Tryz.prog W 0 (fun _ => true) true Tryz.f3.params.toList args.toList ds p := hA0
  rw [Tryz.params3] at hA hval
  clear hA0 hval0
  obtain ⟨v0, r0, d0, e0, p0, q0, hargs, rfl, rfl, h0, hA⟩ := trodAll_cons hA
  obtain ⟨v1, r1, d1, e1, p1, q1, rfl, rfl, rfl, h1, hA⟩ := trodAll_cons hA
  obtain ⟨rfl, rfl, rfl⟩ := trodAll_nil hA
  obtain rfl : args = #[v0, v1] := by cases args; simp_all
  obtain ⟨rfl, rfl⟩ := trodVars_none hV
  simp only [List.append_nil] at hW'
  have hlt0 : ∀ x ∈ p0, x.block < W.heap.size := fun x hx => by simpa using hW'.lt x (by simp [hx])
  have hb0 : ∀ (W' : World), Below W.heap.size W W' → DataW.Trod enc Tryz.prog W' 0 (fun b => decide (b < W.heap.size)) true 3 v0 d0 p0 := fun W' hn => Below.trod laid (by kernel_rfl) (of_decide_eq_true (by kernel_rfl)) h0 hn hlt0
  have hlt1 : ∀ x ∈ p1, x.block < W.heap.size := fun x hx => by simpa using hW'.lt x (by simp [hx])
  have hb1 : ∀ (W' : World), Below W.heap.size W W' → DataW.Trod enc Tryz.prog W' 0 (fun b => decide (b < W.heap.size)) true 22 v1 d1 p1 := fun W' hn => Below.trod laid (by kernel_rfl) (of_decide_eq_true (by kernel_rfl)) h1 hn hlt1
  have main : Calls Tryz.prog 3 #[v0, v1] W fun e w' => e = .returned (.bool true) ∧ Below W.heap.size W w' := by
    obtain ⟨n, rfl⟩ := okWide_int Tryz.underlying3 (hval 0 3 v0 rfl rfl)
    obtain ⟨x, hx, hn⟩ := dec_arg (dec_i64 Tryz.underlying3) h0
    obtain rfl : n = x := by simpa [Value.cells, i64C] using hx
    obtain ⟨A, n0, c0, rfl⟩ := okWide_slice Tryz.underlying22 (hval 1 22 v1 rfl rfl)
    obtain ⟨l, hR, hl⟩ := arg_slice (f := opC) (size := 6) (fun _ => rfl) (by decide) Tryz.underlying22 (by kernel_rfl) dec_op h1
    have hR' := hR.rdr
    exact (bounded_law W n hn _ l ⟨fun o ho => hl o ho⟩ (old W)).law
  refine main.mono fun e W' ⟨he, hb⟩ => ?_
  subst he
  refine ⟨_, rfl, _, _, _, [], p0 ++ (p1), [], hW', ?_, ?_, rfl, hb.frame _, fun h => by cases h⟩
  · exact trodAll_mk1 (shut_bool Tryz.underlying4 _)
  · exact trodAll_cons_mk (hb0 _ hb) (trodAll_mk1 (hb1 _ hb))

theorem over : Rows.boundedRow.holds Tryz.pinned (OpenSpec.ofChange Rows.boundedSpec) :=
  OpenClaim.holds_of_wide 3 Tryz.f3 rfl rfl rfl rfl rfl rfl rfl ⟨rfl, rfl, rfl, rfl, rfl⟩ rfl rfl rfl rfl rfl (by kernel_rfl) Tryz.func3 (by kernel_rfl)
    (of_decide_eq_true (by kernel_rfl)) (by unfold Func.isWrapper; first | (rw [if_pos (by decide +kernel)]; kernel_rfl) | (rw [if_neg (by decide +kernel)]; exact ⟨rfl, rfl⟩))
    (fun os started H enc _ => lifted os started H enc)

theorem proved : Rows.BoundedSaid := over
end Go.Proofs.YtapoehkdnglahaaGreat.bounded

