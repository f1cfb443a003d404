/- Proved: 'mesh/meshkeep.Circles' returns true, whatever the input, and leaves it alone; there are no conditions. -/
import Derived.Test.YtapoehkdnglahabGreatCirclesGq
set_option maxHeartbeats 64000000
set_option linter.unusedVariables false
set_option linter.unusedSimpArgs false
set_option linter.unusedSectionVars false
namespace Go.Proofs.YtapoehkdnglahabGreat
section
open Go.RowKit
attribute [local irreducible] WS LS OpQ OpT OpH OpTQ Spec SpecQ cel
variable (w0 : World)
def routeA (p : LnS) : Value := .agg (routeS p).toArray
theorem lawRank_spec (p : LnS) : Spec Tryz.prog w0 44 [routeA p] emp (fun _ : Unit => .int .i64 p.1.rk) (fun _ => emp) := by
  refine Spec.enter Tryz.func44 rfl Tryz.ntmps44 rfl fun G => ?_
  simp only [argE]
  have hq := p.1.seq.toNat_lt
  cases hv : p.1.valid with
  | true =>
    have hr : p.1.rk = (p.1.seq.toNat : Int) := by unfold Ln.rk; rw [if_pos hv]
    rw [hr]
    unfold routeA routeS routeC
    repeat' (first | (refine WS_seqK ?_; intro K hK) | (refine hK _ ?_; clear hK K) | refine stZ ?_ | (refine s2Z ?_ ?_ <;> intro hc <;> (try simp only [cS] at hc) <;> (try (exfalso; first | contradiction | omega))) | refine sqZ ?_ | (refine shZ ?_; intro g) | (refine LS_q (Q_conv32I rfl iI iI iI) rfl ?_))
    exact ret_tmp (.inl rfl) rfl rfl ⟨(), rfl, finE⟩
  | false =>
    have hr : p.1.rk = (p.1.seq.toNat : Int) - 1 := by unfold Ln.rk; rw [if_neg (by rw [hv]; simp)]
    rw [hr]
    unfold routeA routeS routeC
    repeat' (first | (refine WS_seqK ?_; intro K hK) | (refine hK _ ?_; clear hK K) | refine stZ ?_ | (refine s2Z ?_ ?_ <;> intro hc <;> (try simp only [cS] at hc) <;> (try (exfalso; first | contradiction | omega))) | refine sqZ ?_ | (refine shZ ?_; intro g) | (refine LS_q (Q_conv32I rfl iI iI iI) rfl ?_))
    exact ret_tmp (.inl rfl) rfl rfl ⟨(), rfl, finE⟩
theorem lawAbove_spec (x y : LnS) : Spec Tryz.prog w0 24 [routeA x, routeA y] emp (fun _ : Unit => .bool (aboveB x.1 y.1)) (fun _ => emp) := by
  refine Spec.enter Tryz.func24 rfl Tryz.ntmps24 rfl fun G => ?_
  simp only [argE]
  have p1 := lawRank_spec w0 x
  have p2 := lawRank_spec w0 y
  unfold aboveB
  unfold routeA at *
  generalize hx : x.1.rk = rx at *
  generalize hy : y.1.rk = ry at *
  by_cases h1 : ry < rx
  · rw [decide_eq_true h1]
    repeat' (first | (refine WS_seqK ?_; intro K hK) | (refine hK _ ?_; clear hK K) | refine stZ ?_ | (refine s2Z ?_ ?_ <;> intro hc <;> (try simp only [cS] at hc) <;> (try (exfalso; first | contradiction | omega))) | refine sbZ ?_ | refine sqZ ?_ | (refine shZ ?_; intro g) | (refine LS_h (H_callX iI rfl p1 ⟨emp_star.symm⟩) rfl ?_; intro u1) | (refine LS_h (H_callX iI rfl p2 ⟨emp_star.symm⟩) rfl ?_; intro u2))
    exact ret_tmp (.inl rfl) rfl rfl ⟨(), rfl, finE⟩
  · rw [decide_eq_false h1]
    by_cases h2 : rx = ry
    · rw [decide_eq_true h2]
      by_cases h3 : x.1.hops < y.1.hops
      · rw [decide_eq_true h3]
        repeat' (first | (refine WS_seqK ?_; intro K hK) | (refine hK _ ?_; clear hK K) | refine stZ ?_ | (refine s2Z ?_ ?_ <;> intro hc <;> (try simp only [cS] at hc) <;> (try (exfalso; first | contradiction | omega))) | refine sbZ ?_ | refine sqZ ?_ | (refine shZ ?_; intro g) | (refine LS_h (H_callX iI rfl p1 ⟨emp_star.symm⟩) rfl ?_; intro u1) | (refine LS_h (H_callX iI rfl p2 ⟨emp_star.symm⟩) rfl ?_; intro u2))
        exact ret_tmp (.inl rfl) rfl rfl ⟨(), rfl, finE⟩
      · rw [decide_eq_false h3]
        repeat' (first | (refine WS_seqK ?_; intro K hK) | (refine hK _ ?_; clear hK K) | refine stZ ?_ | (refine s2Z ?_ ?_ <;> intro hc <;> (try simp only [cS] at hc) <;> (try (exfalso; first | contradiction | omega))) | refine sbZ ?_ | refine sqZ ?_ | (refine shZ ?_; intro g) | (refine LS_h (H_callX iI rfl p1 ⟨emp_star.symm⟩) rfl ?_; intro u1) | (refine LS_h (H_callX iI rfl p2 ⟨emp_star.symm⟩) rfl ?_; intro u2))
        exact ret_tmp (.inl rfl) rfl rfl ⟨(), rfl, finE⟩
    · rw [decide_eq_false h2]
      repeat' (first | (refine WS_seqK ?_; intro K hK) | (refine hK _ ?_; clear hK K) | refine stZ ?_ | (refine s2Z ?_ ?_ <;> intro hc <;> (try simp only [cS] at hc) <;> (try (exfalso; first | contradiction | omega))) | refine sbZ ?_ | refine sqZ ?_ | (refine shZ ?_; intro g) | (refine LS_h (H_callX iI rfl p1 ⟨emp_star.symm⟩) rfl ?_; intro u1) | (refine LS_h (H_callX iI rfl p2 ⟨emp_star.symm⟩) rfl ?_; intro u2))
      exact ret_tmp (.inl rfl) rfl rfl ⟨(), rfl, finE⟩
set_option maxRecDepth 100000 in
theorem lawLine_spec (v : Value) (l : List LnS) (hl : l.length ≤ 1000) (d : UInt32) (p : LnS) (hp : lineF l d = some p) (X : HProp) [hX : Rdr w0 X v LnS 7 routeS l] : Spec Tryz.prog w0 23 [v, u32 d] X (fun _ : Unit => .tuple #[routeA p, .bool true]) (fun _ => X) := by
  refine Spec.enter Tryz.func23 rfl Tryz.ntmps23 rfl fun G => ?_
  simp only [argE]
  repeat' (first | (refine WS_seqK ?_; intro K hK) | (refine hK _ ?_; clear hK K) | refine stZ ?_ | refine sqZ ?_ | (refine shZ ?_; intro g))
  --LOOK
  refine WS_loop (fun kk τ => ∃ (i : Nat), i + kk = l.length ∧ lineF (l.drop i) d = some p ∧ τ = ⟨[(6, .int .i64 (i : Int)), (4, ptr g 0), (5, .bool false), (1, u32 d), (0, v)], [], cel g 53 [u32 0, u32 0, .int .i64 0, u32 0, .bool false, u64 0, .slice none 0 0] * (X * G)⟩) ?_ ?_
  · exact ⟨l.length, _, ⟨0, by omega, by simpa using hp, rfl⟩, ⟨rfl, rfl, rfl, rfl, rfl, trivial⟩, rfl, finE⟩
  · rintro kk τ ⟨i, hik, hf, rfl⟩
    rcases Nat.lt_or_ge i l.length with hlt | hge
    · have h1 : (i : Int) < (l.length : Int) := by omega
      obtain ⟨y, hy⟩ : ∃ y, l[i]? = some y := ⟨_, List.getElem?_eq_getElem hlt⟩
      have hcd : l.drop i = y :: l.drop (i + 1) := by
        obtain ⟨a1, a2⟩ := List.getElem?_eq_some_iff.1 hy
        rw [List.drop_eq_getElem_cons a1, a2]
      rw [hcd] at hf
      unfold lineF at hf
      rw [List.find?_cons] at hf
      by_cases hd : y.1.dest = d
      · simp only [hd, decide_true] at hf
        cases hf
        repeat' (first | (refine WS_seqK ?_; intro K hK) | (refine hK _ ?_; clear hK K) | refine stZ ?_ | (refine s2Z ?_ ?_ <;> intro hc <;> (try simp only [cS] at hc) <;> (try (exfalso; first | contradiction | omega))) | refine sbZ ?_ | refine sqZ ?_ | ((refine' LS_h0 ?zh ?_); (case zh => exact H_storeA rfl rfl iI iI (by first | rfl | (simp only [List.all_cons, List.all_nil, *]; rfl)) rfl); intro g))
        exact ret_2 (.inl rfl) rfl (RV_cell rfl iI iI rfl) (RV_tmp rfl) ⟨(), rfl, finE⟩
      · simp only [hd, decide_false] at hf
        repeat' (first | (refine WS_seqK ?_; intro K hK) | (refine hK _ ?_; clear hK K) | refine stZ ?_ | (refine s2Z ?_ ?_ <;> intro hc <;> (try simp only [cS] at hc) <;> (try (exfalso; first | contradiction | omega))) | refine sbZ ?_ | refine sqZ ?_)
        exact ⟨kk - 1, _, by omega, ⟨i + 1, by omega, hf, rfl⟩, ⟨rfl, rfl, rfl, rfl, rfl, trivial⟩, rfl, finE⟩
    · exfalso
      rw [List.drop_eq_nil_of_le hge] at hf
      cases hf
end

section
open Go.RowKit
structure SeeOk (m : Ms) (q k : Nat) (l : List LnS) : Prop where
  few : l.length ≤ 1000
  short : m.sts.length = q
  ok : ∀ (j : Nat) s t, m.sts[j]? = some s → s.node = some t → TabOk t.ls ∧ m.lines (j : Int) = listT t.ls
  next : ∀ x ∈ l, x.1.valid = true → ∃ j e, NextIs m q k x.1 j e
instance : AsU32 (.int .u32 10) 10 := ⟨rfl⟩
instance : NeZero (UInt32.toNat 10) := ⟨by decide⟩
instance remU32 {P : Program} {t : TypeId} {v u : Value} {x y : UInt32} [a : AsU32 v x] [b : AsU32 u y] [hy : NeZero y.toNat] : BinV P .rem t v u (u32 (x % y)) := by
  obtain ⟨rfl⟩ := a; obtain ⟨rfl⟩ := b
  refine ⟨fun w => ?_, fun w _ _ => guard_int _ _ _ _ _ _ _ _ _⟩
  have e : u32 (x % y) = .int .u32 ((x.toNat : Int).tmod (y.toNat : Int)) := (ofNat_u32 (by rw [UInt32.toNat_mod, Int.ofNat_tmod])).symm
  rw [e]
  have h0 : y.toNat ≠ 0 := hy.out
  simp [binOp, u32, Op.intDiv, h0]
def routeV (p : LnS) : Value := .agg #[u32 p.1.dest, u32 p.1.seq, .int .i64 p.1.hops, u32 p.1.next, .bool p.1.valid, u64 p.1.expires, befV p.1 p.2]
abbrev Seen (L : List Ln) : Type := { x : Value × List LnS // x.2.map (·.1) = L }
theorem mroutesS_spec (w0 : World) (gm : Nat) (k : MH) (m : Ms) (i : Int) (L : List Ln) (hL : m.lines i = L) (h6 : m.sts.length ≤ 6) (ok : ∀ (j : Nat) s t, m.sts[j]? = some s → s.node = some t → TabOk t.ls) : Spec Tryz.prog w0 21 [ptr gm 0, .int .i64 i] (mshI gm k m) (fun x : Seen L => x.1.1) (fun x => mshI gm k m * rows 53 7 routeS x.1.1 x.1.2) := fun G w hs => by
  refine (mroutesI_spec w0 gm k m i h6 ok G w hs).mono fun e w' ⟨x, he, hw⟩ => ?_
  have h1 : Sat w0 w' (pure' (x.2.map (·.1) = ((((m.at_ i).bind (·.node)).map fun t : Nd => listT t.ls).getD [])) * (mshI gm k m * (rows 53 7 routeS x.1 x.2 * (befs x.2 * G)))) := hw.cast (by ac_rfl)
  obtain ⟨h2, h3⟩ := h1.pure
  refine ⟨⟨x, h2.trans hL⟩, he, ?_⟩
  have h4 : Sat w0 w' (befs x.2 * (mshI gm k m * (rows 53 7 routeS x.1 x.2 * G))) := h3.cast (by ac_rfl)
  exact h4.drop.cast (star_assoc _ _ _).symm
attribute [local irreducible] WS LS OpQ OpT OpH OpTQ Spec SpecQ cel
variable (w0 : World)
set_option maxRecDepth 100000 in
theorem lawNext_spec (gm : Nat) (kk : MH) (m : Ms) (q k : Nat) (hq : q ≤ 6) (hk : k < q) (v : Value) (l : List LnS) (hS : SeeOk m q k l) (X : HProp) [hX : Rdr w0 X v LnS 7 routeS l] : Spec Tryz.prog w0 25 [ptr gm 0, .int .i64 (q : Int), .int .i64 (k : Int), v] (mshI gm kk m * X) (fun _ : Unit => .bool true) (fun _ => mshI gm kk m * X) := by
  refine Spec.enter Tryz.func25 rfl Tryz.ntmps25 rfl fun G => ?_
  simp only [argE]
  have hfew := hS.few
  repeat' (first | (refine WS_seqK ?_; intro K hK) | (refine hK _ ?_; clear hK K) | refine stZ ?_ | refine sqZ ?_)
  refine WS_loop (fun kl τ => ∃ (i : Nat), i + kl = l.length ∧ τ = ⟨[(9, .int .i64 (i : Int)), (3, v), (2, .int .i64 (k : Int)), (1, .int .i64 (q : Int)), (0, ptr gm 0)], [], mshI gm kk m * (X * G)⟩) ?_ ?_
  · exact ⟨l.length, _, ⟨0, by omega, rfl⟩, ⟨rfl, rfl, rfl, rfl, rfl, trivial⟩, rfl, finE⟩
  · rintro kl τ ⟨i, hik, rfl⟩
    rcases Nat.lt_or_ge i l.length with hlt | hge
    · have h1 : (i : Int) < (l.length : Int) := by omega
      obtain ⟨x, hx⟩ : ∃ x, l[i]? = some x := ⟨_, List.getElem?_eq_getElem hlt⟩
      cases hv : x.1.valid with
      | false =>
        have hv2 : (!x.1.valid) = true := by rw [hv]; rfl
        repeat' (first | (refine WS_seqK ?_; intro K hK) | (refine hK _ ?_; clear hK K) | refine stZ ?_ | (refine s2Z ?_ ?_ <;> intro hc <;> (try simp only [cS] at hc) <;> (try (exfalso; first | contradiction | omega))) | refine sbZ ?_ | refine sqZ ?_ | (refine shZ ?_; intro g) | ((refine' LS_h0 ?zh ?_); (case zh => exact H_storeA rfl rfl iI iI (by first | rfl | (simp only [List.all_cons, List.all_nil, *]; rfl)) rfl); intro g))
        exact ⟨kl - 1, _, by omega, ⟨i + 1, by omega, rfl⟩, ⟨rfl, rfl, rfl, rfl, rfl, trivial⟩, rfl, finE⟩
      | true =>
        have hv2 : (!x.1.valid) = false := by rw [hv]; rfl
        obtain ⟨j, e, hN⟩ := hS.next x (List.mem_of_getElem? hx) hv
        have hj6 := hN.jq
        have he6 := hN.eq_
        have hjk := hN.jk
        have hek := hN.ek
        have hnt : (x.1.next.toNat : Int) = 10 * (j : Int) + 10 := by rw [hN.next, adr_toNat (by omega)]; omega
        have hdt : (x.1.dest.toNat : Int) = 10 * (e : Int) + 10 := by rw [hN.dest, adr_toNat (by omega)]; omega
        have hat : (x.1.next.toNat : Int) / 10 - 1 = (j : Int) := by omega
        have hde : (x.1.dest.toNat : Int) / 10 - 1 = (e : Int) := by omega
        have hrem : x.1.next % 10 = 0 := UInt32.toNat_inj.1 (by
          rw [UInt32.toNat_mod]
          show x.1.next.toNat % 10 = 0
          omega)
        obtain ⟨s, hs⟩ : ∃ s, m.sts[j]? = some s := ⟨_, List.getElem?_eq_getElem (by rw [hS.short]; exact hj6)⟩
        have p6 := mruns_spec w0 gm kk m ((x.1.next.toNat : Int) / 10 - 1) (by rw [hS.short]; exact hq)
        have hmat : m.at_ ((x.1.next.toNat : Int) / 10 - 1) = some s := by rw [hat, m.at_nat]; exact hs
        rw [hmat] at p6
        simp only [Option.bind_some] at p6
        by_cases hnd : x.1.next = x.1.dest
        · generalize s.node.isSome = rn at p6
          repeat' (first | (refine WS_seqK ?_; intro K hK) | (refine hK _ ?_; clear hK K) | refine stZ ?_ | (refine s2Z ?_ ?_ <;> intro hc <;> (try simp only [cS] at hc) <;> (try (exfalso; first | contradiction | omega))) | refine sbZ ?_ | refine sqZ ?_ | ((refine' LQ ?zh rfl ?_); case zh => intro F'; exact Q_quoI rfl rfl (by omega)) | ((refine' LQ ?zh rfl ?_); case zh => intro F'; exact Q_bin rfl rfl iI) | (refine shZ ?_; intro g) | ((refine' LS_h0 ?zh ?_); (case zh => exact H_storeA rfl rfl iI iI (by first | rfl | (simp only [List.all_cons, List.all_nil, *]; rfl)) rfl); intro g) | (refine LS_q (Q_conv32I rfl iI iI iI) rfl ?_) | (refine LS_h (H_callX iI rfl p6 iI) rfl ?_; intro u6))
          exact ⟨kl - 1, _, by omega, ⟨i + 1, by omega, rfl⟩, ⟨rfl, rfl, rfl, rfl, rfl, trivial⟩, rfl, finE⟩
        · cases ht : s.node with
          | none =>
            rw [ht] at p6
            simp only [Option.isSome_none] at p6
            repeat' (first | (refine WS_seqK ?_; intro K hK) | (refine hK _ ?_; clear hK K) | refine stZ ?_ | (refine s2Z ?_ ?_ <;> intro hc <;> (try simp only [cS] at hc) <;> (try (exfalso; first | contradiction | omega))) | refine sbZ ?_ | refine sqZ ?_ | ((refine' LQ ?zh rfl ?_); case zh => intro F'; exact Q_quoI rfl rfl (by omega)) | ((refine' LQ ?zh rfl ?_); case zh => intro F'; exact Q_bin rfl rfl iI) | (refine shZ ?_; intro g) | ((refine' LS_h0 ?zh ?_); (case zh => exact H_storeA rfl rfl iI iI (by first | rfl | (simp only [List.all_cons, List.all_nil, *]; rfl)) rfl); intro g) | (refine LS_q (Q_conv32I rfl iI iI iI) rfl ?_) | (refine LS_h (H_callX iI rfl p6 iI) rfl ?_; intro u6))
            exact ⟨kl - 1, _, by omega, ⟨i + 1, by omega, rfl⟩, ⟨rfl, rfl, rfl, rfl, rfl, trivial⟩, rfl, finE⟩
          | some t =>
            rw [ht] at p6
            simp only [Option.isSome_some] at p6
            obtain ⟨y, hy1, hy2, hy3⟩ := hN.run hnd s t hs ht
            obtain ⟨hok, hlin⟩ := hS.ok j s t hs ht
            have p5 := mroutesS_spec w0 gm kk m ((x.1.next.toNat : Int) / 10 - 1) (listT t.ls) (by rw [hat]; exact hlin) (by rw [hS.short]; exact hq) (fun j s t h1 h2 => (hS.ok j s t h1 h2).1)
            have hpp' : ∀ z : Seen (listT t.ls), ∃ p, lineF z.1.2 x.1.dest = some p ∧ p.1 = y := fun z => by
              rw [← hy2]
              exact lineF_of hok z.2 hy1
            obtain ⟨pp, hpp⟩ := Classical.axiomOfChoice hpp'
            have hlen : ∀ z : Seen (listT t.ls), z.1.2.length ≤ 1000 := fun z => by
              have h2 := congrArg List.length z.2
              rw [List.length_map] at h2
              have := listT_length t.ls
              have := hok.short
              omega
            have p8 : ∀ z : Seen (listT t.ls), Spec Tryz.prog w0 23 [z.1.1, u32 x.1.dest] (rows 53 7 routeS z.1.1 z.1.2) (fun _ : Unit => .tuple #[routeV (pp z), .bool true]) (fun _ => rows 53 7 routeS z.1.1 z.1.2) := fun z => lawLine_spec w0 z.1.1 z.1.2 (hlen z) x.1.dest (pp z) (hpp z).1 _
            have p9 : ∀ z : Seen (listT t.ls), Spec Tryz.prog w0 24 [routeV (pp z), routeV x] emp (fun _ : Unit => .bool true) (fun _ => emp) := fun z => by
              have h2 := lawAbove_spec w0 (pp z) x
              rw [(hpp z).2, hy3] at h2
              exact h2
            simp only [routeV] at p8 p9
            repeat' (first | (show WS _ _ _ (.region 11 _ true) _ _; first | refine WS_drawR1 10 [0, 1, 3, 4, 2, 5, 6, 7, 8, 9, 10, 11] (by decide +kernel) rfl rfl iI ?_ | refine WS_drawK [0, 1, 3, 4, 2, 5, 6, 7, 8, 9, 10, 11] 4 [3] (by decide +kernel) rfl ?_ | refine WS_drawN 13 10 [0, 1, 3, 4, 2, 5, 6, 7, 8, 9, 10, 11] 10 [] (by decide +kernel) rfl rfl rfl iI iI ?_) | (refine WS_seqK ?_; intro K hK) | (refine hK _ ?_; clear hK K) | refine stZ ?_ | (refine s2Z ?_ ?_ <;> intro hc <;> (try simp only [cS] at hc) <;> (try (exfalso; first | contradiction | omega))) | (refine DL_alloc iI rfl ?_; intro g) | refine sbZ ?_ | refine sqZ ?_ | ((first | refine' LQ ?zh rfl ?_ | refine' DL_q rfl rfl ?zh ?_); case zh => intro F'; exact Q_quoI rfl rfl (by omega)) | ((refine' LQ ?zh rfl ?_); case zh => intro F'; exact Q_bin rfl rfl iI) | (refine shZ ?_; intro g) | (refine s0Z ?_; intro g) | ((first | refine' LS_h0 ?zh ?_ | refine' DL_h0 ?zh rfl rfl ?_); (case zh => exact H_storeA rfl rfl iI iI (by first | rfl | (simp only [List.all_cons, List.all_nil, *]; rfl)) rfl); intro g) | (refine LS_q (Q_conv32I rfl iI iI iI) rfl ?_) | (refine LS_h (H_callX iI rfl p6 iI) rfl ?_; intro u6) | (refine DL_h (H_callX iI rfl p5 iI) rfl rfl rfl ?_; intro z5) | (refine DL_h (H_callX iI rfl (p8 z5) iI) rfl rfl rfl ?_; intro z8) | (refine LS_h (H_callX iI rfl (p9 z5) ⟨emp_star.symm⟩) rfl ?_; intro z9))
            --LOOK
            exact ⟨kl - 1, _, by omega, ⟨i + 1, by omega, rfl⟩, ⟨rfl, rfl, rfl, rfl, rfl, trivial⟩, rfl, finE⟩
    · have h1 : ¬ (i : Int) < (l.length : Int) := by omega
      repeat' (first | (refine WS_seqK ?_; intro K hK) | (refine hK _ ?_; clear hK K) | refine stZ ?_ | (refine s2Z ?_ ?_ <;> intro hc <;> (try simp only [cS] at hc) <;> (try (exfalso; first | contradiction | omega))) | refine sbZ ?_ | refine sqZ ?_)
      exact ret_tmp (.inl rfl) rfl rfl ⟨(), rfl, finE⟩
end

section
open Go.RowKit
def bestC (b : SV × List LnS) : List Value := [slV' b.1]
instance : FixLen bestC 1 := ⟨fun _ => rfl⟩
def bestO : List (SV × List LnS) → HProp
  | [] => emp
  | b :: r => rows 53 7 routeS (slV' b.1) b.2 * bestO r
theorem bestO_append (l k : List (SV × List LnS)) : bestO (l ++ k) = bestO l * bestO k := by
  induction l with
  | nil => rw [List.nil_append, bestO, emp_star]
  | cons x l ih => rw [List.cons_append, bestO, bestO, ih, star_assoc]
theorem bestO_at {bs : List (SV × List LnS)} {j : Nat} {b : SV × List LnS} (h : bs[j]? = some b) : bestO bs = bestO (bs.take j) * (rows 53 7 routeS (slV' b.1) b.2 * bestO (bs.drop (j + 1))) := by
  have h1 : bs = bs.take j ++ (b :: bs.drop (j + 1)) := by
    obtain ⟨h2, h3⟩ := List.getElem?_eq_some_iff.1 h
    conv => lhs; rw [← List.take_append_drop j bs, List.drop_eq_getElem_cons h2, h3]
  conv => lhs; rw [h1, bestO_append, bestO]
theorem bestO_set {bs : List (SV × List LnS)} {j : Nat} (h : j < bs.length) (z : SV × List LnS) : bestO (bs.set j z) = bestO (bs.take j) * (rows 53 7 routeS (slV' z.1) z.2 * bestO (bs.drop (j + 1))) := by
  have h1 : (bs.set j z)[j]? = some z := by simp [h]
  rw [bestO_at h1, List.take_set_of_le (Nat.le_refl j), List.drop_set_of_lt (Nat.lt_succ_self j)]
theorem bestO_none (n : Nat) (F : HProp) : Ent F (bestO (List.replicate n ((none, 0, 0), [])) * F) := by
  induction n with
  | zero => show Ent F (emp * F); rw [emp_star]; exact Ent.refl _
  | succ n ih =>
    rw [List.replicate_succ]
    show Ent F ((rows 53 7 routeS (.slice none 0 0) [] * bestO (List.replicate n ((none, 0, 0), []))) * F)
    rw [star_assoc]
    exact Ent.trans ih (Ent.nil _ _ _ _ _)
structure BestsOk (m : Ms) (q : Nat) (bs : List (SV × List LnS)) : Prop where
  len : bs.length = q
  each : ∀ (k : Nat) b, bs[k]? = some b → b.2.length ≤ 8 ∧ ∀ x ∈ b.2, BestOk m k x.1
theorem BestsOk.none (m : Ms) (q : Nat) : BestsOk m q (List.replicate q ((none, 0, 0), [])) := ⟨by simp, fun k b hb => by
  have := List.mem_of_getElem? hb
  have e := List.eq_of_mem_replicate this
  subst e
  exact ⟨Nat.zero_le _, fun x hx => by cases hx⟩⟩
theorem BestsOk.up {m m' : Ms} {q : Nat} {bs : List (SV × List LnS)} (h : BestsOk m q bs) (hU : Ups m.sts m'.sts) (hq : m.sts.length = q) : BestsOk m' q bs := ⟨h.len, fun k b hb => ⟨(h.each k b hb).1, fun x hx => ((h.each k b hb).2 x hx).up hU (by
  have := (List.getElem?_eq_some_iff.1 hb).1
  have := h.len
  omega)⟩⟩
theorem BestsOk.set {m : Ms} {q : Nat} {bs : List (SV × List LnS)} (h : BestsOk m q bs) {k : Nat} {t : Nd} (hr : RunOk m q k t) {z : SV × List LnS} (hz : z.2.map (·.1) = listT t.ls) : BestsOk m q (bs.set k z) := ⟨by rw [List.length_set]; exact h.len, fun j b hb => by
  rw [List.getElem?_set] at hb
  by_cases e : k = j
  · subst e
    rw [if_pos rfl] at hb
    split at hb
    · cases hb
      have h2 := congrArg List.length hz
      rw [List.length_map] at h2
      refine ⟨by have := listT_length t.ls; have := hr.ok.short; omega, fun x hx => hr.seen ?_⟩
      have : x.1 ∈ z.2.map (·.1) := List.mem_map_of_mem hx
      rw [hz] at this
      exact (mem_listT hr.ok).1 this
    · cases hb
  · rw [if_neg e] at hb
    exact h.each j b hb⟩
theorem CirS.see {q i : Nat} {m : Ms} (h : CirS q i m) (hq : q ≤ 6) (hi : i ≤ 4096) {k : Nat} {t : Nd} (hr : RunOk m q k t) (hk : k < q) {l : List LnS} (hl : l.map (·.1) = listT t.ls) : SeeOk m q k l := by
  have hlen : l.length ≤ 8 := by
    have h2 := congrArg List.length hl
    rw [List.length_map] at h2
    have := listT_length t.ls
    have := hr.ok.short
    omega
  refine ⟨by omega, h.bnd.len, fun j s t' hs ht => ?_, fun x hx hv => ?_⟩
  · have := h.run hi hs ht
    exact ⟨this.ok, this.lines⟩
  · refine h.next hq hi hr hk ?_ hv
    have : x.1 ∈ l.map (·.1) := List.mem_map_of_mem hx
    rw [hl] at this
    exact (mem_listT hr.ok).1 this
theorem WS_formS {P : Program} {n : Frm} {w0 : World} {E : Env} {D : List Deferred} {H F : HProp} {Q : Exit → St → Prop} {c : Code} {α : Type} {e : TypeId} {size : Nat} {f : α → List Value} {l : List α} (v : Value) (hl : RowsOf H v α e size f l F) (h : (∃ s : SV, v = slV' s ∧ s.2.1 = l.length) → WS P n w0 c Q ⟨E, D, H⟩) : WS P n w0 c Q ⟨E, D, H⟩ := fun a w g => by
  have hs := g.sat.cast hl.eq
  unfold rows at hs
  obtain ⟨_, ⟨A, hv, h0, _⟩ | ⟨g', off, cap, cur, fr, hv, h1, h2, _⟩⟩ := hs.slc_cases
  · exact h ⟨(A, 0, 0), hv, h0.symm⟩ a w g
  · exact h ⟨(some ⟨g', off, none⟩, l.length, cap), hv, rfl⟩ a w g
attribute [local irreducible] WS LS OpQ OpT OpH OpTQ Spec SpecQ cel
variable (w0 : World)
set_option maxRecDepth 100000 in
theorem circles_law (n : Int) (hn : -9223372036854775808 ≤ n ∧ n ≤ 9223372036854775807) (v : Value) (l : List OpD) (hok : OpsOk l) (X : HProp) [hX : Rdr w0 X v OpD 6 opC l] :
    Spec Tryz.prog w0 8 [.int .i64 n, v] X (fun _ : Unit => .bool true) (fun _ => X) := by
  refine Spec.enter Tryz.func8 rfl Tryz.ntmps8 rfl fun G => ?_
  have p1 := keepPick_spec w0 n 5 hn (by omega)
  obtain ⟨pk, hpk, hpk4⟩ : ∃ pk : Nat, (if n < 0 then -(n + 1) else n) % 5 = (pk : Int) ∧ pk ≤ 4 := by
    refine ⟨((if n < 0 then -(n + 1) else n) % 5).toNat, ?_, ?_⟩ <;> split <;> omega
  rw [hpk] at p1
  obtain ⟨q, hqe, hq6, hq1⟩ : ∃ q : Nat, 2 + (pk : Int) = (q : Int) ∧ q ≤ 6 ∧ 0 < q := ⟨pk + 2, by omega, by omega, by omega⟩
  have p2 := keepRow_spec w0 q ⟨hq1, hq6⟩
  simp only [argE]
  by_cases hbig : (4096 : Int) < (l.length : Int)
  · rw [← hqe] at p2
    repeat' (first | (refine WS_seqK ?_; intro K hK) | (refine hK _ ?_; clear hK K) | refine stZ ?_ | (refine s2Z ?_ ?_ <;> intro hc <;> (try simp only [cS] at hc) <;> (try (exfalso; first | contradiction | omega))) | refine sbZ ?_ | refine sqZ ?_ | ((refine' LQ ?zh rfl ?_); case zh => intro F'; exact Q_bin rfl rfl iI) | (refine LS_h (H_callX iI rfl p1 ⟨emp_star.symm⟩) rfl ?_; intro u1) | (refine LS_h (H_callX iI rfl p2 ⟨emp_star.symm⟩) rfl ?_; intro x))
    exact ret_tmp (.inl rfl) rfl rfl ⟨(), rfl, finE⟩
  · repeat' (first | (refine WS_seqK ?_; intro K hK) | (refine hK _ ?_; clear hK K) | refine stZ ?_ | refine sqZ ?_ | (refine LS_h (H_callX iI rfl p1 ⟨emp_star.symm⟩) rfl ?_; intro u1))
    rw [hqe]
    repeat' (first | (refine WS_seqK ?_; intro K hK) | (refine hK _ ?_; clear hK K) | refine stZ ?_ | (refine s2Z ?_ ?_ <;> intro hc <;> (try simp only [cS] at hc) <;> (try (exfalso; first | contradiction | omega))) | refine sbZ ?_ | refine sqZ ?_ | ((refine' LQ ?zh rfl ?_); case zh => intro F'; exact Q_bin rfl rfl iI) | (refine LS_h (H_callX iI rfl p2 ⟨emp_star.symm⟩) rfl ?_; intro x) | (refine LS_h (H_makeSlice bestC ((none, 0, 0), []) rfl rfl iI iI iI rfl rfl (by omega) rfl) rfl ?_; intro vb))
    --LOOK
    refine WS_loop (fun kk τ => ∃ (i : Nat) (m : Ms) (bs : List (SV × List LnS)), i + kk = l.length ∧ CirS q i m ∧ BestsOk m q bs ∧ τ = ⟨[(8, .int .i64 (i : Int)), (7, vb), (6, ptr x.1 0), (5, .int .i64 (q : Int)), (1, v), (0, .int .i64 n)], [], mshI x.1 x.2 m * (rows 49 1 bestC vb bs * (bestO bs * (X * G)))⟩) ?_ ?_
    · exact ⟨l.length, _, ⟨0, _, _, by omega, CirS.new hq6, BestsOk.none _ q, rfl⟩, ⟨rfl, rfl, rfl, rfl, rfl, rfl, trivial⟩, rfl, Ent.trans (bestO_none q _) (finE)⟩
    · rintro kk τ ⟨i, m, bs, hik, hI, hB, rfl⟩
      rcases Nat.lt_or_ge i l.length with hlt | hge
      · have h1 : (i : Int) < (l.length : Int) := by omega
        obtain ⟨o, ho⟩ : ∃ o, l[i]? = some o := ⟨_, List.getElem?_eq_getElem hlt⟩
        have hon := hok.n o (List.mem_of_getElem? ho)
        by_cases h8 : o.kind = 8
        · repeat' (first | (refine WS_seqK ?_; intro K hK) | (refine hK _ ?_; clear hK K) | refine stZ ?_ | (refine s2Z ?_ ?_ <;> intro hc <;> (try simp only [cS] at hc) <;> (try (exfalso; first | contradiction | omega))) | refine sbZ ?_ | refine sqZ ?_)
          exact ⟨kk - 1, _, by omega, ⟨i + 1, m, bs, by omega, hI.skip, hB, rfl⟩, ⟨rfl, rfl, rfl, rfl, rfl, rfl, trivial⟩, rfl, finE⟩
        · have ho' : o.Ok := ⟨hon, fun h => absurd h h8⟩
          obtain ⟨hI2, hU⟩ := hI.step hq6 (by omega) ho' h8
          have hB2 := hB.up hU hI.bnd.len
          have p3 := mdo_spec w0 x.1 x.2 m o i hI.bnd.fine (by omega) (by have := hI.bnd.now; omega) ho'
          simp only [opA] at p3
          generalize m.do_ o = m2 at *
          repeat' (first | (refine WS_seqK ?_; intro K hK) | (refine hK _ ?_; clear hK K) | refine stZ ?_ | (refine s2Z ?_ ?_ <;> intro hc <;> (try simp only [cS] at hc) <;> (try (exfalso; first | contradiction | omega))) | refine sbZ ?_ | refine sqZ ?_ | (refine LS_h (H_callX iI rfl p3 iI) rfl ?_; intro x3))
          refine WS_loop (fun kk2 τ => ∃ (j : Nat) (bs2 : List (SV × List LnS)), j + kk2 = q ∧ BestsOk m2 q bs2 ∧ τ = ⟨[(9, .int .i64 (j : Int)), (8, .int .i64 (i : Int)), (7, vb), (6, ptr x.1 0), (5, .int .i64 (q : Int)), (1, v), (0, .int .i64 n)], [], mshI x.1 x.2 m2 * (rows 49 1 bestC vb bs2 * (bestO bs2 * (X * G)))⟩) ?_ ?_
          · exact ⟨q, _, ⟨0, bs, by omega, hB2, rfl⟩, ⟨rfl, rfl, rfl, rfl, rfl, rfl, rfl, trivial⟩, rfl, finE⟩
          · rintro kk2 τ ⟨j, bs2, hjk, hB3, rfl⟩
            rcases Nat.lt_or_ge j q with hjlt | hjge
            · have hj1 : (j : Int) < (q : Int) := by omega
              obtain ⟨s, hs⟩ : ∃ s, m2.sts[j]? = some s := ⟨_, List.getElem?_eq_getElem (by rw [hI2.bnd.len]; exact hjlt)⟩
              have hallok : ∀ (j : Nat) s t, m2.sts[j]? = some s → s.node = some t → TabOk t.ls := fun j s t h1 h2 => (hI2.run (by omega) h1 h2).ok
              have p6 := mruns_spec w0 x.1 x.2 m2 (j : Int) (by rw [hI2.bnd.len]; exact hq6)
              have hat : (m2.at_ (j : Int)).bind (·.node) = s.node := by rw [m2.at_nat, hs]; rfl
              rw [hat] at p6
              cases ht : s.node with
              | none =>
                rw [ht] at p6
                simp only [Option.isSome_none] at p6
                have p5 := mroutesS_spec w0 x.1 x.2 m2 (j : Int) (m2.lines (j : Int)) rfl (by rw [hI2.bnd.len]; exact hq6) hallok
                repeat' (first | (refine WS_seqK ?_; intro K hK) | (refine hK _ ?_; clear hK K) | refine stZ ?_ | (refine s2Z ?_ ?_ <;> intro hc <;> (try simp only [cS] at hc) <;> (try (exfalso; first | contradiction | omega))) | refine sbZ ?_ | refine sqZ ?_ | (refine LS_h (H_callX iI rfl p5 iI) rfl ?_; intro z5) | (refine LS_h (H_callX iI rfl p6 iI) rfl ?_; intro u6))
                exact ⟨kk2 - 1, _, by omega, ⟨j + 1, bs2, by omega, hB3, rfl⟩, ⟨rfl, rfl, rfl, rfl, rfl, rfl, rfl, trivial⟩, rfl, finE⟩
              | some t =>
                rw [ht] at p6
                simp only [Option.isSome_some] at p6
                have hR := hI2.run (by omega) hs ht
                have p5 := mroutesS_spec w0 x.1 x.2 m2 (j : Int) (listT t.ls) hR.lines (by rw [hI2.bnd.len]; exact hq6) hallok
                obtain ⟨b, hb⟩ : ∃ b, bs2[j]? = some b := ⟨_, List.getElem?_eq_getElem (by rw [hB3.len]; exact hjlt)⟩
                obtain ⟨hb8, hbx⟩ := hB3.each j b hb
                have hjb : j < bs2.length := by rw [hB3.len]; exact hjlt
                rw [bestO_at hb]
                simp only [star_assoc]
                refine WS_formS (slV' b.1) iI fun ⟨sb, hsb, hsl⟩ => ?_
                have hbl : b.1.2.1 = b.2.length := by
                  have : b.1 = sb := by
                    simp only [slV', Value.slice.injEq] at hsb
                    obtain ⟨e1, e2, e3⟩ := hsb
                    exact Prod.ext e1 (Prod.ext e2 e3)
                  rw [this]; exact hsl
                repeat' (first | (refine WS_seqK ?_; intro K hK) | (refine hK _ ?_; clear hK K) | refine stZ ?_ | (refine s2Z ?_ ?_ <;> intro hc <;> (try simp only [cS] at hc) <;> (try (exfalso; first | contradiction | omega))) | refine sbZ ?_ | refine sqZ ?_ | (refine LS_h (H_callX iI rfl p5 iI) rfl ?_; intro z5) | (refine LS_h (H_callX iI rfl p6 iI) rfl ?_; intro u6))
                obtain ⟨⟨v5, l5⟩, h5⟩ := z5
                simp only at h5 ⊢
                refine WS_formS v5 iI fun ⟨s5, hv5, hs5⟩ => ?_
                subst hv5
                have hl5 : l5.length ≤ 1000 := by
                  have h2 := congrArg List.length h5
                  rw [List.length_map] at h2
                  have := listT_length t.ls
                  have := hR.ok.short
                  omega
                refine WS_loop (fun kk3 τ => ∃ (r : Nat), r + kk3 = b.2.length ∧ τ = ⟨[(12, .int .i64 (r : Int)), (10, slV' s5), (9, .int .i64 (j : Int)), (8, .int .i64 (i : Int)), (7, vb), (6, ptr x.1 0), (5, .int .i64 (q : Int)), (1, v), (0, .int .i64 n)], [], mshI x.1 x.2 m2 * (rows 53 7 routeS (slV' s5) l5 * (rows 49 1 bestC vb bs2 * (bestO (bs2.take j) * (rows 53 7 routeS (slV' b.1) b.2 * (bestO (bs2.drop (j + 1)) * (X * G))))))⟩) ?_ ?_
                · exact ⟨b.2.length, _, ⟨0, by omega, rfl⟩, ⟨rfl, rfl, rfl, rfl, rfl, rfl, rfl, rfl, rfl, trivial⟩, rfl, finE⟩
                · rintro kk3 τ ⟨r, hrk, rfl⟩
                  rcases Nat.lt_or_ge r b.2.length with hrlt | hrge
                  · have hr1 : (r : Int) < (b.1.2.1 : Int) := by omega
                    obtain ⟨y, hy⟩ : ∃ y, b.2[r]? = some y := ⟨_, List.getElem?_eq_getElem hrlt⟩
                    obtain ⟨w, hw1, hw2, hw3⟩ := hR.best (hbx y (List.mem_of_getElem? hy))
                    obtain ⟨p, hp1, hp2⟩ := lineF_of hR.ok h5 hw1
                    rw [hw2] at hp1
                    have p8 := lawLine_spec w0 (slV' s5) l5 hl5 y.1.dest p hp1 (rows 53 7 routeS (slV' s5) l5)
                    have p9 := lawAbove_spec w0 y p
                    rw [hp2, hw3] at p9
                    have p8' : Spec Tryz.prog w0 23 [slV' s5, u32 y.1.dest] (rows 53 7 routeS (slV' s5) l5) (fun _ : Unit => .tuple #[routeV p, .bool true]) (fun _ => rows 53 7 routeS (slV' s5) l5) := p8
                    have p9' : Spec Tryz.prog w0 24 [routeV y, routeV p] emp (fun _ : Unit => .bool false) (fun _ => emp) := p9
                    simp only [routeV] at p8' p9'
                    clear p8 p9
                    repeat' (first | (show WS _ _ _ (.region 23 _ true) _ _; refine WS_drawA (.range 10) (by decide +kernel) rfl ?_) | (refine WS_seqK ?_; intro K hK) | (refine hK _ ?_; clear hK K) | refine stZ ?_ | (refine s2Z ?_ ?_ <;> intro hc <;> (try simp only [cS] at hc) <;> (try (exfalso; first | contradiction | omega))) | refine sbZ ?_ | refine sqZ ?_ | (refine shZ ?_; intro g) | (refine s0Z ?_; intro g) | (refine LS_h (H_callX iI rfl p8' iI) rfl ?_; intro z8) | (refine DL_h (H_callX iI rfl p9' ⟨emp_star.symm⟩) rfl rfl rfl ?_; intro z9))
                    exact ⟨kk3 - 1, _, by omega, ⟨r + 1, by omega, rfl⟩, ⟨rfl, rfl, rfl, rfl, rfl, rfl, rfl, rfl, rfl, trivial⟩, rfl, finE⟩
                  · have hr1 : ¬ (r : Int) < (b.1.2.1 : Int) := by omega
                    have hsee := hI2.see hq6 (by omega) hR hjlt h5
                    have p7 := lawNext_spec w0 x.1 x.2 m2 q j hq6 hjlt (slV' s5) l5 hsee (rows 53 7 routeS (slV' s5) l5)
                    repeat' (first | (refine WS_seqK ?_; intro K hK) | (refine hK _ ?_; clear hK K) | refine stZ ?_ | (refine s2Z ?_ ?_ <;> intro hc <;> (try simp only [cS] at hc) <;> (try (exfalso; first | contradiction | omega))) | refine sbZ ?_ | refine sqZ ?_ | (refine LS_h0 (H_storeR (z := b) ((s5, l5) : SV × List LnS) rfl rfl iI iI iI rfl (by assumption) rfl) ?_; intro g) | (refine LS_h (H_callX iI rfl p7 iI) rfl ?_; intro z7))
                    exact ⟨kk2 - 1, _, by omega, ⟨j + 1, bs2.set j (s5, l5), by omega, hB3.set hR h5, rfl⟩, ⟨rfl, rfl, rfl, rfl, rfl, rfl, rfl, trivial⟩, rfl, by rw [bestO_set hjb]; exact finE⟩
            · have hj1 : ¬ (j : Int) < (q : Int) := by omega
              repeat' (first | (refine WS_seqK ?_; intro K hK) | (refine hK _ ?_; clear hK K) | refine stZ ?_ | (refine s2Z ?_ ?_ <;> intro hc <;> (try simp only [cS] at hc) <;> (try (exfalso; first | contradiction | omega))) | refine sbZ ?_ | refine sqZ ?_)
              exact ⟨kk - 1, _, by omega, ⟨i + 1, m2, bs2, by omega, hI2, hB3, rfl⟩, ⟨rfl, rfl, rfl, rfl, rfl, rfl, trivial⟩, rfl, finE⟩
      · obtain rfl : i = l.length := by omega
        have h1 : ¬ (l.length : Int) < (l.length : Int) := by omega
        repeat' (first | (refine WS_seqK ?_; intro K hK) | (refine hK _ ?_; clear hK K) | refine stZ ?_ | (refine s2Z ?_ ?_ <;> intro hc <;> (try simp only [cS] at hc) <;> (try (exfalso; first | contradiction | omega))) | refine sbZ ?_ | refine sqZ ?_)
        exact ret_tmp (.inl rfl) rfl rfl ⟨(), rfl, finE⟩
end

end Go.Proofs.YtapoehkdnglahabGreat
namespace Go.Proofs.YtapoehkdnglahabGreat.circles
open Go.ChangeShapes Go.WideShapes Go.ChangeAt Go.RowKit Go.Proofs.YtapoehkdnglahabGreat

theorem own : ownKnob Tryz.prog.godebug = none := by kernel_rfl
set_option maxRecDepth 100000 in
theorem lifted (os : Os) (started : os.Started) (H : Type) (enc : TypeId × Value → H) :
    ReturnsInHanded {} Tryz.checked os 8 .any (Rows.circlesSpec.pre6 enc Tryz.prog Tryz.f8 Rows.circlesRow.domain false) (Rows.circlesSpec.post enc Tryz.prog Tryz.f8 false true false false) := by
  refine returnsInHanded_of_change (C := Tryz.checked) own started (by kernel_rfl) Tryz.func8
    (ChangeSpec.witness6 (enc := enc) (C := Tryz.checked) false ⟨#[], #[.int .i64 0, .slice none 0 0], []⟩ 8 (by kernel_rfl) (by kernel_rfl) (by kernel_rfl) (by kernel_rfl)) ?_
  intro W base args ds gs before hval0 hW hcnd _
  have hval : ∀ (j : Nat) t v, Tryz.f8.params[j]? = some t → args[j]? = some v → Value.okWide Tryz.prog W .any base t v := hval0
  have hW' := hW
  obtain ⟨p, q, hA0, hV, rfl, hfz, hnd⟩ := hW
  have hA : DataW.TrodAll enc Tryz.prog W 0 (fun _ => true) true Tryz.f8.params.toList args.toList ds p := hA0
  rw [Tryz.params8] at hA hval
  clear hA0 hval0
  obtain ⟨v0, r0, d0, e0, p0, q0, hargs, rfl, rfl, h0, hA⟩ := trodAll_cons hA
  obtain ⟨v1, r1, d1, e1, p1, q1, rfl, rfl, rfl, h1, hA⟩ := trodAll_cons hA
  obtain ⟨rfl, rfl, rfl⟩ := trodAll_nil hA
  obtain rfl : args = #[v0, v1] := by cases args; simp_all
  obtain ⟨rfl, rfl⟩ := trodVars_none hV
  simp only [List.append_nil] at hW'
  have hlt0 : ∀ x ∈ p0, x.block < W.heap.size := fun x hx => by simpa using hW'.lt x (by simp [hx])
  have hb0 : ∀ (W' : World), Below W.heap.size W W' → DataW.Trod enc Tryz.prog W' 0 (fun b => decide (b < W.heap.size)) true 3 v0 d0 p0 := fun W' hn => Below.trod laid (by kernel_rfl) (of_decide_eq_true (by kernel_rfl)) h0 hn hlt0
  have hlt1 : ∀ x ∈ p1, x.block < W.heap.size := fun x hx => by simpa using hW'.lt x (by simp [hx])
  have hb1 : ∀ (W' : World), Below W.heap.size W W' → DataW.Trod enc Tryz.prog W' 0 (fun b => decide (b < W.heap.size)) true 58 v1 d1 p1 := fun W' hn => Below.trod laid (by kernel_rfl) (of_decide_eq_true (by kernel_rfl)) h1 hn hlt1
  have main : Calls Tryz.prog 8 #[v0, v1] W fun e w' => e = .returned (.bool true) ∧ Below W.heap.size W w' := by
    obtain ⟨n, rfl⟩ := okWide_int Tryz.underlying3 (hval 0 3 v0 rfl rfl)
    obtain ⟨x, hx, hn⟩ := dec_arg (dec_i64 Tryz.underlying3) h0
    obtain rfl : n = x := by simpa [Value.cells, i64C] using hx
    obtain ⟨A, n0, c0, rfl⟩ := okWide_slice Tryz.underlying58 (hval 1 58 v1 rfl rfl)
    obtain ⟨l, hR, hl⟩ := arg_slice (f := opC) (size := 6) (fun _ => rfl) (by decide) Tryz.underlying58 (by kernel_rfl) dec_op h1
    have hR' := hR.rdr
    exact (circles_law W n hn _ l ⟨fun o ho => hl o ho⟩ (old W)).law
  refine main.mono fun e W' ⟨he, hb⟩ => ?_
  subst he
  refine ⟨_, rfl, _, _, _, [], p0 ++ (p1), [], hW', ?_, ?_, rfl, hb.frame _, fun h => by cases h⟩
  · exact trodAll_mk1 (shut_bool Tryz.underlying4 _)
  · exact trodAll_cons_mk (hb0 _ hb) (trodAll_mk1 (hb1 _ hb))

theorem over : Rows.circlesRow.holds Tryz.pinned (OpenSpec.ofChange Rows.circlesSpec) :=
  OpenClaim.holds_of_wide 8 Tryz.f8 rfl rfl rfl rfl rfl rfl rfl ⟨rfl, rfl, rfl, rfl, rfl⟩ rfl rfl rfl rfl rfl (by kernel_rfl) Tryz.func8 (by kernel_rfl)
    (of_decide_eq_true (by kernel_rfl)) (by unfold Func.isWrapper; first | (rw [if_pos (by decide +kernel)]; kernel_rfl) | (rw [if_neg (by decide +kernel)]; exact ⟨rfl, rfl⟩))
    (fun os started H enc _ => lifted os started H enc)

theorem proved : Rows.CirclesSaid := over
end Go.Proofs.YtapoehkdnglahabGreat.circles

