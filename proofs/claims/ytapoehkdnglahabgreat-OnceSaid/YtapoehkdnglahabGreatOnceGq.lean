/- A part of what Once needs. -/
import Derived.Test.YtapoehkdnglahabGreatOnceGp
set_option linter.unusedVariables false
set_option linter.unusedSimpArgs false
set_option linter.unusedSectionVars false
namespace Go.Proofs.YtapoehkdnglahabGreat
section
open Go.RowKit
instance zeroMesh : Zero Tryz.prog 108 (.agg #[.slice none 0 0, .map none, .bool false, .bool false, .bool false, .bool false, .bool false, .bool false, .bool false, .bool false, .bool false, .bool false, .bool false, .bool false, .bool false, .bool false, .bool false, .bool false, .bool false, .bool false, .bool false, .bool false, .bool false, .bool false, .bool false, .bool false, .bool false, .bool false, .bool false, .bool false, .bool false, .bool false, .bool false, .bool false, .bool false, .bool false, .bool false, .bool false, .slice none 0 0, .int .u64 0, .slice none 0 0]) [.slice none 0 0, .map none, .bool false, .bool false, .bool false, .bool false, .bool false, .bool false, .bool false, .bool false, .bool false, .bool false, .bool false, .bool false, .bool false, .bool false, .bool false, .bool false, .bool false, .bool false, .bool false, .bool false, .bool false, .bool false, .bool false, .bool false, .bool false, .bool false, .bool false, .bool false, .bool false, .bool false, .bool false, .bool false, .bool false, .bool false, .bool false, .bool false, .slice none 0 0, .int .u64 0, .slice none 0 0] := ⟨by kernel_rfl, rfl⟩
theorem H_convBs {P : Program} {n : Frm} {w0 : World} {E : Env} {H : HProp} {d : Option Tmp} {ty : TypeId} {pos : String} {after : Array Edge} {gu : Option (Nat × Bool)} {x : Operand} {src dst e : TypeId} {l : Str} (hx : E.ev x = some (strV l)) (hs : Und P src .string) (hd : Und P dst (.slice e)) (he : Und P e (.int .u8)) (hn : l.length ≤ 1000000) : OpH P n w0 ⟨d, .convert src dst x, ty, pos, after, gu⟩ E H (fun y : SV => slV' y) (fun y => rows e 1 byteC (slV' y) l * H) := by
  refine OpH.mk' (pre := emp) (post := fun y : SV => rows e 1 byteC (slV' y) l) ?_ emp_star.symm
  intro G a w K Q s hs' hK
  rw [emp_star] at hs'
  obtain ⟨pre, post0, F, hop, hH, hp⟩ := H_convB (H := G) (P := P) (n := n) (w0 := w0) (d := d) (ty := ty) (pos := pos) (after := after) (gu := gu) hx hs hd he hn
  refine hop F a w K Q s (hs'.cast hH) fun x w' hx' => ?_
  have h2 := hx'.cast (hp x).symm
  obtain ⟨A, c, rfl⟩ := rows_form h2
  exact hK (A, l.length, c) w' h2
theorem newSta_sound (a : UInt32) : (newSta a).Sound 0 := by
  have h : Sta.Says ⟨a, some (Nd.new a [] 0), [], 0, false⟩ (Nd.newO a [] 0) 0 := ⟨⟨_, rfl, Nd.new_rest _ _ _, Nd.new_self _ _ _, Nd.new_joins _ _ _, Nd.new_ne _ _ _⟩, by simp, by simp⟩
  have hw := h.wrote
  have e : Sta.write ⟨a, some (Nd.new a [] 0), [], 0, false⟩ (Nd.newO a [] 0) = newSta a := by
    unfold Sta.write newSta
    split <;> simp
  rw [e] at hw
  exact hw
theorem amap_snoc (s : Sta) : ∀ (sts : List Sta) (k : Nat), stFind sts s.addr = none → mset (amap k sts) s.addr ((k + sts.length : Nat) : Int) = amap k (sts ++ [s])
  | [], k, _ => rfl
  | x :: r, k, h => by
    simp only [stFind] at h
    by_cases e : x.addr = s.addr
    · rw [if_pos e] at h; cases h
    · rw [if_neg e] at h
      have h' : stFind r s.addr = none := by
        cases hr : stFind r s.addr with
        | none => rfl
        | some j => rw [hr] at h; cases h
      have ih := amap_snoc s r (k + 1) h'
      simp only [amap, List.cons_append, mset_cons, if_neg e, List.length_cons]
      rw [← ih]
      congr 2
      omega
theorem stFind_none {l : List UInt32} {a : UInt32} (h : a ∉ l) : stFind (l.map newSta) a = none := by
  induction l with
  | nil => rfl
  | cons x r ih =>
    simp only [List.map_cons, stFind]
    rw [if_neg (fun e => h (by rw [← e]; exact List.mem_cons_self)), ih (fun h' => h (List.mem_cons_of_mem _ h'))]
    rfl
theorem stasQ_snoc {bs : List Nat} {sts : List Sta} (b : Nat) (s : Sta) (h : bs.length = sts.length) : stasQ (bs ++ [b]) (sts ++ [s]) = staP b s * stasQ bs sts := by
  rw [stasQ_eq (by simp [h]), stasQ_eq h, zrow_snoc b s h]
attribute [local irreducible] WS LS OpQ OpT OpH OpTQ Spec SpecQ cel
variable (w0 : World)
set_option maxRecDepth 100000 in
set_option maxHeartbeats 16000000 in
theorem mnewM_spec (l : List UInt32) (hl : 0 < l.length ∧ l.length ≤ 6) (h0 : ∀ a ∈ l, a ≠ 0) (hn : l.Nodup) (v : Value) (X : HProp) [hX : Rdr w0 X v UInt32 1 wordC l] :
    Spec Tryz.prog w0 26 [v] X (fun x : Nat × MH => .tuple #[ptr x.1 0, .int .i64 0]) (fun x => mshI x.1 x.2 (Ms.new l) * X) := by
  refine Spec.enter Tryz.func26 rfl Tryz.ntmps26 rfl fun G => ?_
  simp only [argE]
  have h1 : ¬ (l.length : Int) = 0 := by omega
  have h2 : ¬ (6 : Int) < (l.length : Int) := by omega
  repeat' (first | (refine WS_seqK ?_; intro K hK) | (refine hK _ ?_; clear hK K) | refine stZ ?_ | (refine s2Z ?_ ?_ <;> intro hc <;> (try simp only [cS] at hc) <;> (try (exfalso; first | contradiction | omega))) | refine sbZ ?_ | refine sqZ ?_ | (refine LS_h (H_makeMap u32 i64) rfl ?_; intro r) | (refine LS_h (H_box rfl) rfl ?_; intro gm))
  refine WS_loop (fun kk τ => ∃ (q : Nat) (vs : Value) (bs : List Nat), q + kk = l.length ∧ bs.length = q ∧ τ = ⟨[(24, .int .i64 (q : Int)), (23, .int .i64 (l.length : Int)), (22, v), (4, ptr gm 0), (0, v)], [], cel gm 108 (mshC (Ms.new []) ⟨vs, bs, r, .slice none 0 0, .slice none 0 0⟩) * (rows 115 1 ptrC vs bs * (mp u32 i64 r (amap 0 ((l.take q).map newSta)) * (stasQ bs ((l.take q).map newSta) * (X * G))))⟩) ?_ ?_
  · refine ⟨l.length, _, ⟨0, .slice none 0 0, [], by omega, rfl, rfl⟩, ⟨rfl, rfl, rfl, rfl, rfl, trivial⟩, rfl, ?_⟩
    rw [List.take_zero, List.map_nil, stasQ_eq rfl]
    show Ent (cel gm 108 (mshC (Ms.new []) ⟨.slice none 0 0, [], r, .slice none 0 0, .slice none 0 0⟩) * (mp u32 i64 r [] * (X * G))) (cel gm 108 (mshC (Ms.new []) ⟨.slice none 0 0, [], r, .slice none 0 0, .slice none 0 0⟩) * (rows 115 1 ptrC (.slice none 0 0) [] * (mp u32 i64 r [] * (emp * (X * G)))))
    rw [emp_star]
    exact finE
  · rintro kk τ ⟨q, vs, bs, hqk, hbq, rfl⟩
    rcases Nat.lt_or_ge q l.length with hlt | hge
    · obtain ⟨a, ha⟩ : ∃ a, l[q]? = some a := ⟨_, List.getElem?_eq_getElem hlt⟩
      have hmem := List.mem_of_getElem? ha
      have ha0 : ¬ a = 0 := h0 a hmem
      have hnot : a ∉ l.take q := by
        intro h
        have hd : a ∈ l.drop q := List.mem_of_getElem? (i := 0) (by rw [List.getElem?_drop, Nat.add_zero, ha])
        have hn' : (l.take q ++ l.drop q).Nodup := by rw [List.take_append_drop]; exact hn
        exact (List.nodup_append.1 hn').2.2 a h a hd rfl
      have hfind : stFind ((l.take q).map newSta) (newSta a).addr = none := stFind_none hnot
      have hget : mget (amap 0 ((l.take q).map newSta)) a = none := by rw [amap_get]; show (stFind _ (newSta a).addr).map _ = none; rw [hfind]; rfl
      have hsnoc := amap_snoc (newSta a) ((l.take q).map newSta) 0 hfind
      rw [show ((0 + ((l.take q).map newSta).length : Nat) : Int) = (q : Int) by simp; omega] at hsnoc
      have htk : (l.take (q + 1)).map newSta = (l.take q).map newSta ++ [newSta a] := by
        rw [List.take_add_one, ha]; simp
      have hblen : bs.length = ((l.take q).map newSta).length := by rw [hbq]; simp; omega
      have hq1 : (q : Int) < (l.length : Int) := by omega
      have hbs6 : bs.length ≤ 6 := by omega
      have hjl : (Nd.newO a [] 0).journal.length ≤ 1000000 := by have := (newSta_sound a).jour; show (newSta a).journal.length ≤ _; omega
      have p4 := (nnew_spec w0 a [] (by simp) 0 (.slice none 0 0) (rows 5 1 byteC (.slice none 0 0) [])).rein (fun y : Nat × SV × SV × SV => (y.1, svV y.2)) (fun x => (x.1, svOf3 x.2)) (fun x w F hx => by rw [star_assoc, star_assoc, star_left_comm] at hx; show (x.1, svV (svOf3 x.2)) = x; rw [outR_form hx])
      have p5 := p4.conv (X' := emp) (fun Z => by rw [emp_star]; exact Ent.nil _ _ _ _ _) (fun _ _ => Ent.refl _)
      clear p4
      have hns : newSta a = ⟨a, some (Nd.new a [] 0), (Nd.newO a [] 0).journal, 0, false⟩ := rfl
      generalize Nd.new a [] 0 = t2 at *
      generalize Nd.newO a [] 0 = o2 at *
      simp only [outA, svV, slV'] at p5
      simp only [mshC]
      repeat' (first | (refine WS_seqK ?_; intro K hK) | (refine hK _ ?_; clear hK K) | refine stZ ?_ | (refine s2Z ?_ ?_ <;> intro hc <;> (try simp only [cS] at hc) <;> (try (exfalso; first | contradiction | omega))) | refine sbZ ?_ | refine sqZ ?_ | ((first | refine' LQ ?zh rfl ?_ | refine' DL_qp rfl rfl rfl ?zh ?_ | refine' DL_q rfl rfl ?zh ?_); case zh => intro F'; exact Q_lookupOk_n rfl rfl iI iI iI iI iI (by assumption)) | ((first | refine' LS_h ?zh rfl ?_ | refine' DL_h ?zh rfl rfl rfl ?_); (case zh => exact H_alloc iI); intro g) | (refine s0Z ?_; intro g) | ((first | refine' LS_h0 ?zh ?_ | refine' DL_h0 ?zh rfl rfl ?_); (case zh => exact H_mapUpdate rfl rfl rfl iI iI iI iI iI); intro g) | (refine LS_h (H_callX iI rfl p5 ⟨emp_star.symm⟩) rfl ?_; intro x5) | (show WS _ _ _ (.region 12 _ true) _ _; refine WS_drawK (.range 17) 13 [4, 8] (by decide +kernel) rfl ?_) | (refine DL_h (H_convBs rfl iI iI iI hjl) rfl rfl rfl ?_; intro vb) | (refine DL_h (H_box rfl) rfl rfl rfl ?_; intro bx) | (refine DL_h (H_buildSliceR ptrC [bx] iI iI iI rfl rfl rfl rfl rfl iI rfl rfl rfl) rfl rfl rfl ?_; intro vx) | (refine DL_h (H_appendR rfl rfl iI iI rfl iI iI ptrC_one (by first | omega | (simp [be_length] <;> omega)) rfl) rfl rfl rfl ?_; intro va))
      refine ⟨kk - 1, _, by omega, ⟨q + 1, va, bs ++ [bx], by omega, by simp [hbq], rfl⟩, ⟨rfl, rfl, rfl, rfl, rfl, trivial⟩, rfl, ?_⟩
      rw [htk, stasQ_snoc bx (newSta a) hblen, ← hsnoc, star_assoc (staP _ _)]
      simp only [star_assoc, emp_star, star_emp]
      refine Ent.trans (F := staB bx x5.1 (slV' vb) (newSta a) * (cel gm 108 (mshC (Ms.new []) ⟨va, bs ++ [bx], r, .slice none 0 0, .slice none 0 0⟩) * (rows 115 1 ptrC va (bs ++ [bx]) * (mp u32 i64 r (mset (amap 0 ((l.take q).map newSta)) a (q : Int)) * (stasQ bs ((l.take q).map newSta) * (X * G)))))) (by rw [hns]; simp only [staB, staC, ptrN, staN, mshC, star_assoc]; exact finE) ?_
      refine Ent.trans (staP_I (F := cel gm 108 (mshC (Ms.new []) ⟨va, bs ++ [bx], r, .slice none 0 0, .slice none 0 0⟩) * (rows 115 1 ptrC va (bs ++ [bx]) * (mp u32 i64 r (mset (amap 0 ((l.take q).map newSta)) a (q : Int)) * (stasQ bs ((l.take q).map newSta) * (X * G))))) x5.1 (slV' vb) (Ent.refl _)) ?_
      show Ent _ (cel gm 108 (mshC (Ms.new []) ⟨va, bs ++ [bx], r, .slice none 0 0, .slice none 0 0⟩) * (rows 115 1 ptrC va (bs ++ [bx]) * (mp u32 i64 r (mset (amap 0 ((l.take q).map newSta)) a (q : Int)) * (staP bx (newSta a) * (stasQ bs ((l.take q).map newSta) * (X * G))))))
      exact finE
    · obtain rfl : q = l.length := by omega
      have hq1 : ¬ (l.length : Int) < (l.length : Int) := by omega
      repeat' (first | (refine WS_seqK ?_; intro K hK) | (refine hK _ ?_; clear hK K) | refine stZ ?_ | (refine s2Z ?_ ?_ <;> intro hc <;> (try simp only [cS] at hc) <;> (try (exfalso; first | contradiction | omega))) | refine sbZ ?_ | refine sqZ ?_)
      refine ret_tmp2 (.inl rfl) rfl rfl rfl ⟨(gm, ⟨vs, bs, r, .slice none 0 0, .slice none 0 0⟩), rfl, ?_⟩
      rw [List.take_length, star_assoc (mshI _ _ _)]
      refine Ent.mshI (.slice none 0 0) (.slice none 0 0) ?_
      show Ent _ (cel gm 108 (mshC (Ms.new []) ⟨vs, bs, r, .slice none 0 0, .slice none 0 0⟩) * (rows 115 1 ptrC vs bs * (mp u32 i64 r (amap 0 (l.map newSta)) * (stasQ bs (l.map newSta) * (rows 114 3 flC (.slice none 0 0) [] * (X * G))))))
      exact finE
end

section
theorem Ms.Fine.mono {m : Ms} {c d : Nat} (h : m.Fine c) (hd : c ≤ d) : m.Fine d := ⟨h.short, fun i s hs => (h.sound i s hs).mono hd, h.air⟩
theorem Ms.Fine.did {m m' : Ms} {i c d n : Nat} (h : m.Fine c) (hD : m.Did m' i d n) (hc : c ≤ d) : m'.Fine d := by
  refine ⟨by rw [hD.kept.length]; exact h.short, fun j s hs => ?_, hD.air h.air⟩
  by_cases e : j = i
  · subst e
    obtain ⟨s2, h1, h2⟩ := hD.here
    rw [h1] at hs
    cases hs
    exact h2
  · rw [hD.kept.other j e] at hs
    exact (h.sound j s hs).mono hc
theorem Ms.Fine.mod {m : Ms} {i c : Nat} {f : Sta → Sta} (h : m.Fine c) (hf : ∀ s, s.Sound c → (f s).Sound c) : (m.mod i f).Fine c := by
  refine ⟨by show (m.sts.modify i f).length ≤ 6; rw [List.length_modify]; exact h.short, fun j s hs => ?_, ⟨h.air.few, fun x hx => ?_⟩⟩
  · have hs' : (m.sts.modify i f)[j]? = some s := hs
    rw [List.getElem?_modify] at hs'
    by_cases e : i = j
    · subst e
      cases hq : m.sts[i]? with
      | none => rw [hq] at hs'; simp at hs'
      | some q =>
        rw [hq] at hs'
        simp at hs'
        rw [← hs']
        exact hf q (h.sound i q hq)
    · cases hq : m.sts[j]? with
      | none => rw [hq] at hs'; simp at hs'
      | some q =>
        rw [hq] at hs'
        simp [e] at hs'
        rw [← hs']
        exact h.sound j q hq
  · show x.src < (m.sts.modify i f).length ∧ x.dst < (m.sts.modify i f).length ∧ _
    rw [List.length_modify]
    exact h.air.each x hx
theorem Sta.Sound.stop {s : Sta} {c : Nat} (h : s.Sound c) : s.stop.Sound c := ⟨(fun n hn => by cases hn), h.jour, h.tear⟩
theorem Sta.Sound.arm {s : Sta} {c : Nat} (h : s.Sound c) {n : Int} (hn : n ≤ 9223372036854775807) : (s.arm n).Sound c := ⟨h.node, h.jour, by show 0 ≤ max 0 n ∧ max 0 n ≤ 9223372036854775807; omega⟩
theorem Ms.Fine.clear {m : Ms} {c : Nat} (h : m.Fine c) : Ms.Fine { m with evs := [] } c := ⟨h.short, h.sound, ⟨h.air.few, h.air.each⟩⟩
theorem Ms.Fine.frame {m : Ms} {c : Nat} (h : m.Fine c) (o : OpD) (k : Nat) : (m.frame o k).Fine c := by
  unfold Ms.frame
  cases hf : m.air[k]? with
  | none => exact h
  | some f =>
    obtain ⟨a1, a2, a3⟩ := h.air.each f (List.mem_of_getElem? hf)
    have he : Ms.Fine { m with air := m.air.eraseIdx k } c := ⟨h.short, h.sound, h.air.erase k⟩
    simp only
    split
    · cases hs : m.sts[f.dst]? with
      | none => exact he
      | some s =>
        simp only [Option.bind_some]
        cases ht : s.node with
        | none => exact he
        | some t =>
          have hso := h.sound _ s hs
          have hrt := (hso.node t ht).1
          have hw := hrt.wentRcv m.now (((m.sts[f.src]?).map fun x : Sta => x.addr).getD 0) f.bytes
          have hD := Ms.Did.run (m := { m with air := m.air.eraseIdx k }) (i := f.dst) (Ms.Did.emit (Ms.mod_at hs) (hso.says ht hw) hw.pks.le)
          exact he.did hD (Nat.le_refl _)
    · split
      · exact he
      · split
        · exact ⟨h.short, h.sound, h.air.fly a1 a2 a3⟩
        · split
          · refine ⟨h.short, h.sound, ⟨?_, fun x hx => ?_⟩⟩
            · show (m.air.set k _).length ≤ 48
              rw [List.length_set]; exact h.air.few
            · rcases List.mem_or_eq_of_mem_set hx with hx | rfl
              · exact h.air.each x hx
              · refine ⟨a1, a2, ?_⟩
                show (f.bytes.take _).length ≤ 100000
                rw [List.length_take]; omega
          · exact h
theorem Ms.Fine.tick {m : Ms} {c : Nat} (h : m.Fine c) (hc : c ≤ 8500) (n : UInt64) (hn : (m.now + n).toNat ≤ 4611686018427387904) : (m.tick n).Fine (c + 1) := by
  have h1 : Ms.Fine { m with now := m.now + n } c := ⟨h.short, h.sound, ⟨h.air.few, h.air.each⟩⟩
  have hT := Ms.tickN_told h1 hc hn m.sts.length (Nat.le_refl _)
  exact ⟨by show (Ms.tickN m.sts.length { m with now := m.now + n }).sts.length ≤ 6; rw [hT.length]; exact h.short, hT.sound, hT.air⟩
theorem Ms.Fine.node {m : Ms} {c : Nat} (h : m.Fine c) (hc : c ≤ 8500) (hn : m.now.toNat ≤ 4611686018427387904) {o : OpD} (ho : o.Ok) (hk : o.kind = 1 ∨ o.kind = 2 ∨ o.kind = 8 ∨ o.kind = 9 ∨ o.kind = 10 ∨ o.kind = 11) : (m.nodeOp o).Fine (c + 1) := by
  have hev : ∀ e, (m.event e).Fine (c + 1) := fun e => ⟨h.short, fun i s hs => (h.sound i s hs).mono (Nat.le_succ c), ⟨h.air.few, h.air.each⟩⟩
  cases hb : m.bars o with
  | true => rw [Ms.nodeOp_bar hb]; exact hev _
  | false =>
    obtain ⟨i, s, e1, hs, hw, hj⟩ := Ms.bars_false hb
    have hat : m.at_ o.a = some s := by rw [e1, m.at_nat]; exact hs
    have hso := h.sound i s hs
    rcases hk with hk | hk | hk | hk | hk | hk
    · rw [Ms.nodeOp_link hb hk]
      split
      · exact ⟨h.short, fun i s hs => (h.sound i s hs).mono (Nat.le_succ c), ⟨h.air.few, h.air.each⟩⟩
      · exact h.mono (Nat.le_succ c)
    · obtain ⟨j, s2, e2, hs2⟩ := hj (.inr (.inl hk))
      cases ht : s.node with
      | none => rw [ht, hk] at hw; exact absurd (hw (by decide)) (fun h : true = false => by cases h)
      | some t =>
        rw [Ms.nodeOp_send hb hk hat ht (by rw [e2, m.at_nat]; exact hs2)]
        split
        · rename_i he
          have hrt := (hso.node t ht).1
          have hw := hrt.wentSend hn s2.addr o.text (by unfold Nd.sendE at he; split at he; cases he; omega)
          rw [e1, Int.toNat_natCast]
          exact h.did (Ms.Did.run (Ms.Did.emit (Ms.mod_at hs) ((hso.mono (Nat.le_succ c)).says ht hw) hw.pks.le)) (Nat.le_succ c)
        · exact hev _
    · obtain ⟨j, s2, e2, hs2⟩ := hj (.inr (.inr hk))
      cases ht : s.node with
      | none => rw [ht, hk] at hw; exact absurd (hw (by decide)) (fun h : true = false => by cases h)
      | some t =>
        rw [Ms.nodeOp_rcv hb hk hat ht (by rw [e2, m.at_nat]; exact hs2)]
        have hrt := (hso.node t ht).1
        have hw := hrt.wentRcv m.now s2.addr o.text
        rw [e1, Int.toNat_natCast]
        exact (h.did (Ms.Did.run (Ms.Did.emit (Ms.mod_at hs) (hso.says ht hw) hw.pks.le)) (Nat.le_refl c)).mono (Nat.le_succ c)
    · rw [Ms.nodeOp_stop hb hk]
      exact (h.mod fun s hs => hs.stop).mono (Nat.le_succ c)
    · rw [Ms.nodeOp_arm hb hk]
      exact (h.mod fun s hs => hs.arm ho.n.2).mono (Nat.le_succ c)
    · rw [Ms.nodeOp_boot hb hk hat, e1, Int.toNat_natCast]
      have hD := Ms.Did.emit (m := m.mod i (Sta.boot m.now)) (i := i) (c := c) (o := Nd.newO s.addr s.journal m.now) (Ms.mod_at (f := Sta.boot m.now) hs) (hso.boot m.now) (by rw [(Nd.new_frames s.addr s.journal m.now).1]; simp)
      have hk2 : m.Kept (m.mod i (Sta.boot m.now)) i := Ms.Kept.mod (fun _ => rfl)
      have hD2 : m.Did (Ms.emit i (m.mod i (Sta.boot m.now)) (Nd.newO s.addr s.journal m.now)) i c (1 + (Nd.newO s.addr s.journal m.now).frames.length) := ⟨hk2.trans hD.kept, hD.here, fun ha => hD.air ⟨ha.few, fun x hx => by rw [hk2.length]; exact ha.each x hx⟩, hD.evs⟩
      exact (h.did hD2 (Nat.le_refl c)).mono (Nat.le_succ c)
theorem Ms.Fine.do_ {m : Ms} {c : Nat} (h : m.Fine c) (hc : c ≤ 8500) (hn : m.now.toNat + 60000 ≤ 4611686018427387904) {o : OpD} (ho : o.Ok) : (m.do_ o).Fine (c + 1) := by
  have h1 := h.clear
  by_cases hF : o.kind = 4 ∨ o.kind = 5 ∨ o.kind = 6 ∨ o.kind = 7
  · rw [Ms.do_frame hF]
    split
    · exact (h1.frame _ _).mono (Nat.le_succ c)
    · exact h1.mono (Nat.le_succ c)
  · by_cases hT : o.kind = 3
    · rw [Ms.do_tick hT]
      split
      · rename_i hr
        refine h1.tick hc _ ?_
        rw [UInt64.toNat_add]
        refine Nat.le_trans (Nat.mod_le _ _) ?_
        have : (UInt64.ofNat o.n.toNat).toNat ≤ 60000 := by
          rw [UInt64.toNat_ofNat']
          exact Nat.le_trans (Nat.mod_le _ _) (by omega)
        show m.now.toNat + _ ≤ _
        omega
      · exact h1.mono (Nat.le_succ c)
    · by_cases hN : o.kind = 1 ∨ o.kind = 2 ∨ o.kind = 8 ∨ o.kind = 9 ∨ o.kind = 10 ∨ o.kind = 11
      · rw [Ms.do_node hN]
        exact h1.node hc (by show m.now.toNat ≤ _; omega) ho hN
      · rw [Ms.do_none hF hT hN]
        exact h1.mono (Nat.le_succ c)
def Ms.Same (m m' : Ms) : Prop := m'.now = m.now ∧ m'.sts.map (·.addr) = m.sts.map (·.addr)
theorem Ms.Same.did {m m' : Ms} {i d n : Nat} (hD : m.Did m' i d n) : m.Same m' := ⟨hD.kept.now, hD.kept.addrs⟩
theorem Ms.Same.mod {m : Ms} {i : Nat} {f : Sta → Sta} (hf : ∀ s, (f s).addr = s.addr) : m.Same (m.mod i f) := ⟨rfl, (Ms.Kept.mod (i := i) hf).addrs⟩
theorem Ms.Fine.frame_same {m : Ms} {c : Nat} (h : m.Fine c) (o : OpD) (k : Nat) : m.Same (m.frame o k) := by
  unfold Ms.frame
  cases hf : m.air[k]? with
  | none => exact ⟨rfl, rfl⟩
  | some f =>
    simp only
    split
    · cases hs : m.sts[f.dst]? with
      | none => exact ⟨rfl, rfl⟩
      | some s =>
        simp only [Option.bind_some]
        cases ht : s.node with
        | none => exact ⟨rfl, rfl⟩
        | some t =>
          have hso := h.sound _ s hs
          have hrt := (hso.node t ht).1
          have hw := hrt.wentRcv m.now (((m.sts[f.src]?).map fun x : Sta => x.addr).getD 0) f.bytes
          have hD := Ms.Did.run (m := { m with air := m.air.eraseIdx k }) (i := f.dst) (Ms.Did.emit (Ms.mod_at hs) (hso.says ht hw) hw.pks.le)
          exact ⟨hD.kept.now, hD.kept.addrs⟩
    · split
      · exact ⟨rfl, rfl⟩
      · split
        · exact ⟨rfl, rfl⟩
        · split
          · exact ⟨rfl, rfl⟩
          · exact ⟨rfl, rfl⟩
theorem Ms.Fine.node_same {m : Ms} {c : Nat} (h : m.Fine c) (hn : m.now.toNat ≤ 4611686018427387904) {o : OpD} (hk : o.kind = 1 ∨ o.kind = 2 ∨ o.kind = 8 ∨ o.kind = 9 ∨ o.kind = 10 ∨ o.kind = 11) : m.Same (m.nodeOp o) := by
  cases hb : m.bars o with
  | true => rw [Ms.nodeOp_bar hb]; exact ⟨rfl, rfl⟩
  | false =>
    obtain ⟨i, s, e1, hs, hw, hj⟩ := Ms.bars_false hb
    have hat : m.at_ o.a = some s := by rw [e1, m.at_nat]; exact hs
    have hso := h.sound i s hs
    rcases hk with hk | hk | hk | hk | hk | hk
    · rw [Ms.nodeOp_link hb hk]
      split <;> exact ⟨rfl, rfl⟩
    · obtain ⟨j, s2, e2, hs2⟩ := hj (.inr (.inl hk))
      cases ht : s.node with
      | none => rw [ht, hk] at hw; exact absurd (hw (by decide)) (fun h : true = false => by cases h)
      | some t =>
        rw [Ms.nodeOp_send hb hk hat ht (by rw [e2, m.at_nat]; exact hs2)]
        split
        · rename_i he
          have hrt := (hso.node t ht).1
          have hw := hrt.wentSend hn s2.addr o.text (by unfold Nd.sendE at he; split at he; cases he; omega)
          rw [e1, Int.toNat_natCast]
          exact Ms.Same.did (Ms.Did.run (Ms.Did.emit (Ms.mod_at hs) ((hso.mono (Nat.le_succ c)).says ht hw) hw.pks.le))
        · exact ⟨rfl, rfl⟩
    · obtain ⟨j, s2, e2, hs2⟩ := hj (.inr (.inr hk))
      cases ht : s.node with
      | none => rw [ht, hk] at hw; exact absurd (hw (by decide)) (fun h : true = false => by cases h)
      | some t =>
        rw [Ms.nodeOp_rcv hb hk hat ht (by rw [e2, m.at_nat]; exact hs2)]
        have hrt := (hso.node t ht).1
        have hw := hrt.wentRcv m.now s2.addr o.text
        rw [e1, Int.toNat_natCast]
        exact Ms.Same.did (Ms.Did.run (Ms.Did.emit (Ms.mod_at hs) (hso.says ht hw) hw.pks.le))
    · rw [Ms.nodeOp_stop hb hk]
      exact Ms.Same.mod fun _ => rfl
    · rw [Ms.nodeOp_arm hb hk]
      exact Ms.Same.mod fun _ => rfl
    · rw [Ms.nodeOp_boot hb hk hat, e1, Int.toNat_natCast]
      have hD := Ms.Did.emit (m := m.mod i (Sta.boot m.now)) (i := i) (c := c) (o := Nd.newO s.addr s.journal m.now) (Ms.mod_at (f := Sta.boot m.now) hs) (hso.boot m.now) (by rw [(Nd.new_frames s.addr s.journal m.now).1]; simp)
      have hk2 : m.Kept (m.mod i (Sta.boot m.now)) i := Ms.Kept.mod (fun _ => rfl)
      exact ⟨(hk2.trans hD.kept).now, (hk2.trans hD.kept).addrs⟩
theorem Ms.Fine.do_same {m : Ms} {c : Nat} (h : m.Fine c) (hc : c ≤ 8500) (hn : m.now.toNat + 60000 ≤ 4611686018427387904) (o : OpD) : (m.do_ o).now.toNat ≤ m.now.toNat + 60000 ∧ (m.do_ o).sts.map (·.addr) = m.sts.map (·.addr) := by
  have h1 := h.clear
  have fin : ∀ m', Ms.Same { m with evs := [] } m' → m'.now.toNat ≤ m.now.toNat + 60000 ∧ m'.sts.map (·.addr) = m.sts.map (·.addr) := fun m' hs => ⟨by rw [hs.1]; exact Nat.le_add_right _ _, hs.2⟩
  by_cases hF : o.kind = 4 ∨ o.kind = 5 ∨ o.kind = 6 ∨ o.kind = 7
  · rw [Ms.do_frame hF]
    split
    · exact fin _ (h1.frame_same _ _)
    · exact fin _ ⟨rfl, rfl⟩
  · by_cases hT : o.kind = 3
    · rw [Ms.do_tick hT]
      split
      · rename_i hr
        have h2 : (UInt64.ofNat o.n.toNat).toNat ≤ 60000 := by
          rw [UInt64.toNat_ofNat']
          exact Nat.le_trans (Nat.mod_le _ _) (by omega)
        have h3 : (m.now + UInt64.ofNat o.n.toNat).toNat ≤ m.now.toNat + 60000 := by
          rw [UInt64.toNat_add]
          exact Nat.le_trans (Nat.mod_le _ _) (by omega)
        have h4 : Ms.Fine { m with now := m.now + UInt64.ofNat o.n.toNat, evs := [] } c := ⟨h.short, h.sound, ⟨h.air.few, h.air.each⟩⟩
        have hT := Ms.tickN_told h4 hc (by show (m.now + UInt64.ofNat o.n.toNat).toNat ≤ _; omega) m.sts.length (Nat.le_refl _)
        refine ⟨?_, hT.addrs⟩
        show (Ms.tickN m.sts.length { m with now := m.now + UInt64.ofNat o.n.toNat, evs := [] }).now.toNat ≤ _
        rw [hT.now]
        exact h3
      · exact fin _ ⟨rfl, rfl⟩
    · by_cases hN : o.kind = 1 ∨ o.kind = 2 ∨ o.kind = 8 ∨ o.kind = 9 ∨ o.kind = 10 ∨ o.kind = 11
      · rw [Ms.do_node hN]
        exact fin _ (h1.node_same (by show m.now.toNat ≤ _; omega) hN)
      · rw [Ms.do_none hF hT hN]
        exact fin _ ⟨rfl, rfl⟩
theorem Ms.new_fine {l : List UInt32} (h : l.length ≤ 6) : (Ms.new l).Fine 0 := by
  refine ⟨by show (l.map newSta).length ≤ 6; simpa using h, fun i s hs => ?_, ⟨by show ([] : List Fl).length ≤ 48; simp, fun f hf => by cases hf⟩⟩
  have hs' : (l.map newSta)[i]? = some s := hs
  rw [List.getElem?_map] at hs'
  cases hq : l[i]? with
  | none => rw [hq] at hs'; cases hs'
  | some a => rw [hq] at hs'; cases hs'; exact newSta_sound a
end

section
open Go.RowKit
theorem Q_convT32 {P : Program} {n : Frm} {w0 : World} {E : Env} {H : HProp} {d : Option Tmp} {ty : TypeId} {pos : String} {after : Array Edge} {gu : Option (Nat × Bool)} {x : Operand} {src t : TypeId} {m : Int} {ds : TypeDesc} (k : Nat) (hx : E.ev x = some (.int .i64 m)) (hm : m = (k : Int)) (hk : k ≤ 1000000) (hs : Und P src ds) (hd : Und P t (.int .u32)) : OpQ P n w0 ⟨d, .convert src t x, ty, pos, after, gu⟩ E H (u32 (UInt32.ofNat k)) :=
  Q_convI hx hs hd (by
    subst hm
    rw [wrap_u32, UInt32.toNat_ofNat', Nat.mod_eq_of_lt (by omega)]
    omega)
def adr (i : Nat) : UInt32 := UInt32.ofNat (10 * i + 10)
def adrs (q : Nat) : List UInt32 := (List.range q).map adr
theorem adrs_len (q : Nat) : (adrs q).length = q := by simp [adrs]
theorem adrs_succ (q : Nat) : adrs (q + 1) = adrs q ++ [adr q] := by simp [adrs, List.range_succ]
theorem adr_toNat {i : Nat} (hi : i ≤ 1000) : (adr i).toNat = 10 * i + 10 := by
  unfold adr
  rw [UInt32.toNat_ofNat', Nat.mod_eq_of_lt (by omega)]
theorem adr_inj {i j : Nat} (hi : i ≤ 1000) (hj : j ≤ 1000) (h : adr i = adr j) : i = j := by
  have h2 := congrArg UInt32.toNat h
  rw [adr_toNat hi, adr_toNat hj] at h2
  omega
theorem adr_ne {i : Nat} (hi : i ≤ 1000) : adr i ≠ 0 := fun h => by
  have h2 := congrArg UInt32.toNat h
  rw [adr_toNat hi] at h2
  have h3 : (0 : UInt32).toNat = 0 := rfl
  omega
theorem adrs_nodup {q : Nat} (hq : q ≤ 1000) : (adrs q).Nodup := by
  induction q with
  | zero => exact List.nodup_nil
  | succ q ih =>
    rw [adrs_succ]
    refine List.nodup_append.2 ⟨ih (by omega), by simp, fun a ha b hb => ?_⟩
    simp at hb
    subst hb
    rintro rfl
    simp only [adrs, List.mem_map, List.mem_range] at ha
    obtain ⟨i, hi, e⟩ := ha
    have := adr_inj (by omega) (by omega) e
    omega
attribute [local irreducible] WS LS OpQ OpT OpH OpTQ Spec SpecQ cel
variable (w0 : World)
theorem keepPick_spec (n m : Int) (hn : -9223372036854775808 ≤ n ∧ n ≤ 9223372036854775807) (hm : 0 < m ∧ m ≤ 1000) : Spec Tryz.prog w0 17 [.int .i64 n, .int .i64 m] emp (fun _ : Unit => .int .i64 ((if n < 0 then -(n + 1) else n) % m)) (fun _ => emp) := by
  refine Spec.enter Tryz.func17 rfl Tryz.ntmps17 rfl fun G => ?_
  simp only [argE]
  by_cases h : n < 0
  · rw [if_pos h]
    repeat' (first | (refine WS_seqK ?_; intro K hK) | (refine hK _ ?_; clear hK K) | refine stZ ?_ | (refine s2Z ?_ ?_ <;> intro hc <;> (try simp only [cS] at hc) <;> (try (exfalso; first | contradiction | omega))) | refine sbZ ?_ | ((refine' LQ ?zh rfl ?_); case zh => intro F'; first | exact Q_move rfl | exact Q_assign rfl | exact Q_addI rfl rfl (by omega) | exact Q_remI rfl rfl (by omega) | exact Q_negI rfl (by omega)))
    exact ret_tmp (.inl rfl) rfl rfl ⟨(), rfl, finE⟩
  · rw [if_neg h]
    repeat' (first | (refine WS_seqK ?_; intro K hK) | (refine hK _ ?_; clear hK K) | refine stZ ?_ | (refine s2Z ?_ ?_ <;> intro hc <;> (try simp only [cS] at hc) <;> (try (exfalso; first | contradiction | omega))) | refine sbZ ?_ | ((refine' LQ ?zh rfl ?_); case zh => intro F'; first | exact Q_move rfl | exact Q_assign rfl | exact Q_remI rfl rfl (by omega)))
    exact ret_tmp (.inl rfl) rfl rfl ⟨(), rfl, finE⟩
set_option maxRecDepth 100000 in
set_option maxHeartbeats 8000000 in
theorem keepRow_spec (q : Nat) (hq : 0 < q ∧ q ≤ 6) : Spec Tryz.prog w0 18 [.int .i64 (q : Int)] emp (fun x : Nat × MH => ptr x.1 0) (fun x => mshI x.1 x.2 (Ms.new (adrs q))) := by
  refine Spec.enter Tryz.func18 rfl Tryz.ntmps18 rfl fun G => ?_
  simp only [argE]
  repeat' (first | (refine WS_seqK ?_; intro K hK) | (refine hK _ ?_; clear hK K) | refine stZ ?_ | ((refine' LQ ?zh rfl ?_); case zh => intro F'; exact Q_assign rfl))
  refine WS_loop (fun kk τ => ∃ (i : Nat) (v : Value), i + kk = q ∧ τ = ⟨[(4, .int .i64 (i : Int)), (3, v), (0, .int .i64 (q : Int))], [], rows 26 1 wordC v (adrs i) * G⟩) ?_ ?_
  · exact ⟨q, _, ⟨0, .slice none 0 0, by omega, rfl⟩, ⟨rfl, rfl, rfl, trivial⟩, rfl, by show Ent (emp * G) (rows 26 1 wordC (.slice none 0 0) [] * G); exact finE⟩
  · rintro kk τ ⟨i, v, hik, rfl⟩
    have hlen := adrs_len i
    rcases Nat.lt_or_ge i q with hlt | hge
    · have h1 : (i : Int) < (q : Int) := by omega
      repeat' (first | (refine WS_seqK ?_; intro K hK) | (refine hK _ ?_; clear hK K) | refine stZ ?_ | (refine s2Z ?_ ?_ <;> intro hc <;> (try simp only [cS] at hc) <;> (try (exfalso; first | contradiction | omega))) | refine sbZ ?_ | ((refine' LQ ?zh rfl ?_); case zh => intro F'; first | exact Q_move rfl | exact Q_assign rfl | exact Q_addI rfl rfl (by omega) | exact Q_mulI rfl rfl (by omega)) | (refine' LQ ?zh rfl ?_; (case zh => intro F'; exact Q_convT32 (10 * i + 10) rfl (by omega) (by omega) iI iI)) | (refine LS_h (H_buildSliceR wordC [adr i] iI iI iI rfl rfl rfl rfl rfl iI rfl rfl rfl) rfl ?_; intro vx) | (refine LS_h (H_appendR rfl rfl iI iI rfl iI iI wordC_one (by simp only [List.length_cons, List.length_nil]; omega) rfl) rfl ?_; intro va))
      refine ⟨kk - 1, _, by omega, ⟨i + 1, va, by omega, rfl⟩, ⟨rfl, rfl, rfl, trivial⟩, rfl, ?_⟩
      rw [adrs_succ]
      exact finE
    · obtain rfl : i = q := by omega
      have h1 : ¬ (i : Int) < (i : Int) := by omega
      have p1 := mnewM_spec w0 (adrs i) (by omega) (fun a ha => by
        simp only [adrs, List.mem_map, List.mem_range] at ha
        obtain ⟨j, hj, rfl⟩ := ha
        exact adr_ne (by omega)) (adrs_nodup (by omega)) v (rows 26 1 wordC v (adrs i))
      repeat' (first | (refine WS_seqK ?_; intro K hK) | (refine hK _ ?_; clear hK K) | refine stZ ?_ | (refine s2Z ?_ ?_ <;> intro hc <;> (try simp only [cS] at hc) <;> (try (exfalso; first | contradiction | omega))) | refine sbZ ?_ | ((refine' LQ ?zh rfl ?_); case zh => intro F'; first | exact Q_move rfl | exact Q_assign rfl | exact Q_extract rfl rfl) | (refine LS_h (H_callX iI rfl p1 iI) rfl ?_; intro x))
      exact ret_tmp (.inl rfl) rfl rfl ⟨x, rfl, finE⟩
end

section
structure LinesOk (me : UInt32) (rs : List Ln) : Prop where
  few : rs.length ≤ 8
  each : ∀ l ∈ rs, l.before.length ≤ 4 ∧ (l.valid = false → l.before = []) ∧ l.dest ≠ me
  rise : ∀ (i : Nat) x y, rs[i]? = some x → rs[i + 1]? = some y → x.dest.toNat < y.dest.toNat
theorem dests_sub (ls : List Ln) (ds : List UInt32) : ((ds.filterMap (lget ls)).map (·.dest)).Sublist ds := by
  induction ds with
  | nil => exact List.Sublist.refl _
  | cons d ds ih =>
    rw [List.filterMap_cons]
    cases hg : lget ls d with
    | none => exact ih.cons _
    | some l =>
      have hd : l.dest = d := by
        unfold lget at hg
        cases hf : lfind ls d with
        | none => rw [hf] at hg; cases hg
        | some i =>
          obtain ⟨l', h1, h2⟩ := lfind_some hf
          rw [hf, Option.bind_some, h1] at hg
          cases hg
          exact h2
      simp only [List.map_cons, hd]
      exact ih.cons_cons d
theorem listT_rise {ls : List Ln} (ok : TabOk ls) : ((listT ls).map (·.dest)).Pairwise fun a b => a.toNat < b.toNat := by
  have hn : (sortU (dests ls)).Nodup := (List.mergeSort_perm _ _).nodup_iff.2 ok.nodup
  have hp : (sortU (dests ls)).Pairwise fun a b => a.toNat ≤ b.toNat := rise_sortU _
  have hs : (sortU (dests ls)).Pairwise fun a b => a.toNat < b.toNat := by
    have := hp.and hn
    exact this.imp fun {a b} h => Nat.lt_of_le_of_ne h.1 fun e => h.2 (UInt32.toNat_inj.1 e)
  exact hs.sublist (dests_sub ls _)
theorem LnsOk.lines {self : UInt32} {ls : List Ln} (h : LnsOk self ls) : LinesOk self (listT ls) := by
  refine ⟨Nat.le_trans (listT_length ls) h.tab.short, fun l hl => ?_, fun i x y hx hy => ?_⟩
  · have hm := listT_mem' hl
    exact ⟨h.tab.before l hm, (h.line l hm).2, (h.line l hm).1⟩
  · have hr := listT_rise h.tab
    have hx' : ((listT ls).map (·.dest))[i]? = some x.dest := by rw [List.getElem?_map, hx]; rfl
    have hy' : ((listT ls).map (·.dest))[i + 1]? = some y.dest := by rw [List.getElem?_map, hy]; rfl
    obtain ⟨h1, e1⟩ := List.getElem?_eq_some_iff.1 hx'
    obtain ⟨h2, e2⟩ := List.getElem?_eq_some_iff.1 hy'
    have := List.pairwise_iff_getElem.1 hr i (i + 1) h1 h2 (Nat.lt_succ_self i)
    rw [e1, e2] at this
    exact this
def Ms.lines (m : Ms) (i : Int) : List Ln := ((((m.at_ i).bind (·.node)).map fun t : Nd => listT t.ls).getD [])
theorem Ms.Fine.lines {m : Ms} {c : Nat} (h : m.Fine c) {i : Nat} {s : Sta} (hs : m.sts[i]? = some s) : LinesOk s.addr (m.lines i) := by
  unfold Ms.lines
  rw [m.at_nat, hs]
  simp only [Option.bind_some]
  cases ht : s.node with
  | none => exact ⟨by simp, by simp, by simp⟩
  | some t =>
    obtain ⟨h1, h2, _⟩ := (h.sound i s hs).node t ht
    have := h1.inv.tab.lines
    rw [h2] at this
    exact this
def Ms.jour (m : Ms) (i : Int) : Str := ((m.at_ i).map (·.journal)).getD []
theorem Ms.Fine.jour {m : Ms} {c : Nat} (h : m.Fine c) {i : Nat} {s : Sta} {t : Nd} (hs : m.sts[i]? = some s) (ht : s.node = some t) : m.jour i ≠ [] ∧ (m.jour i).length % 13 = 0 ∧ (m.jour i).length ≤ 312 := by
  have hso := h.sound i s hs
  obtain ⟨h1, h2, h3, h4⟩ := hso.node t ht
  have e : m.jour i = recsB t.recs := by unfold Ms.jour; rw [m.at_nat, hs]; exact h3
  have hl : (m.jour i).length = 13 * t.recs.length := by rw [e, recsB_length]
  have h5 : t.recs.length ≠ 0 := fun h => h4 (List.eq_nil_of_length_eq_zero h)
  refine ⟨fun h => ?_, by omega, ?_⟩
  · rw [h] at hl
    simp only [List.length_nil] at hl
    omega
  · have := hso.jour
    rw [h3, ← e] at this
    exact this
end

section
open Go.RowKit
instance : FixLen opC 6 := ⟨fun _ => rfl⟩
structure OpsOk (l : List OpD) : Prop where
  n : ∀ o ∈ l, -9223372036854775808 ≤ o.n ∧ o.n ≤ 9223372036854775807
structure BndI (q i : Nat) (m : Ms) : Prop where
  fine : m.Fine i
  now : m.now.toNat ≤ i * 60000
  addrs : m.sts.map (·.addr) = (List.range q).map adr
theorem BndI.len {q i : Nat} {m : Ms} (h : BndI q i m) : m.sts.length = q := by
  have := congrArg List.length h.addrs
  simpa using this
theorem BndI.new {q : Nat} (hq : q ≤ 6) : BndI q 0 (Ms.new (adrs q)) := by
  refine ⟨Ms.new_fine (by rw [adrs_len]; exact hq), by show (0 : UInt64).toNat ≤ _; simp, ?_⟩
  show ((adrs q).map newSta).map (·.addr) = _
  rw [List.map_map]
  show (adrs q).map (fun a => a) = _
  simp [adrs]
theorem BndI.step {q i : Nat} {m : Ms} (h : BndI q i m) (hi : i < 4096) {o : OpD} (ho : o.Ok) : BndI q (i + 1) (m.do_ o) := by
  have hn := h.now
  have h1 := h.fine.do_ (by omega) (by omega) ho
  have h2 := h.fine.do_same (by omega) (by omega) o
  exact ⟨h1, by omega, h2.2.trans h.addrs⟩
theorem BndI.skip {q i : Nat} {m : Ms} (h : BndI q i m) : BndI q (i + 1) m := ⟨h.fine.mono (Nat.le_succ i), Nat.le_trans h.now (Nat.mul_le_mul_right _ (Nat.le_succ i)), h.addrs⟩
end

section
open Go.ChangeShapes Go.WideShapes Go.ChangeAt Go.RowKit Go.Deep
theorem dec_op : Dec 64 opC (fun _ o => i64R o.n) := fun {H enc w base spare held n c y} h => by
  obtain ⟨hl, ys, m, _, _, hf⟩ := struct_cells Tryz.underlying64 (by kernel_rfl) (by kernel_rfl) h
  obtain ⟨v0, y0, e0, _, t0⟩ := hf 0 _ rfl
  obtain ⟨v1, y1, e1, _, t1⟩ := hf 1 _ rfl
  obtain ⟨v2, y2, e2, _, t2⟩ := hf 2 _ rfl
  obtain ⟨v3, y3, e3, _, t3⟩ := hf 3 _ rfl
  obtain ⟨v4, y4, e4, _, t4⟩ := hf 4 _ rfl
  obtain ⟨v5, y5, e5, _, t5⟩ := hf 5 _ rfl
  obtain ⟨a0, q0, _⟩ := dec_i64 Tryz.underlying3 t0
  obtain ⟨a1, q1, _⟩ := dec_i64 Tryz.underlying3 t1
  obtain ⟨a2, q2, _⟩ := dec_i64 Tryz.underlying3 t2
  obtain ⟨a3, q3, k3⟩ := dec_i64 Tryz.underlying3 t3
  obtain ⟨a4, q4, _⟩ := dec_bool Tryz.underlying4 t4
  obtain ⟨a5, q5, _⟩ := dec_str Tryz.underlying9 t5
  refine ⟨⟨a0, a1, a2, a3, a4, a5⟩, ?_, k3⟩
  simp only [i64C, boolC, strC, List.cons.injEq, and_true] at q0 q1 q2 q3 q4 q5
  subst q0; subst q1; subst q2; subst q3; subst q4; subst q5
  match c, hl with
  | [c0, c1, c2, c3, c4, c5], _ => simp at e0 e1 e2 e3 e4 e5; subst e0; subst e1; subst e2; subst e3; subst e4; subst e5; rfl
end

section
def datB (x : Str) (b : Str) : Bool := match Pk.dec b with
  | some p => decide (p.kind = 9 ∧ p.payload = x)
  | none => false
def waitN (x : Str) (w : List (UInt32 × List Str)) : Nat := (w.map fun p => p.2.count x).sum
def framN (x : Str) (l : List (UInt32 × Str)) : Nat := l.countP fun f => datB x f.2
def camN (x : Str) (l : List (UInt32 × Str)) : Nat := l.countP fun y => decide (y.2 = x)
theorem waitN_cons (x : Str) (p : UInt32 × List Str) (b : List (UInt32 × List Str)) : waitN x (p :: b) = p.2.count x + waitN x b := by simp [waitN]
theorem wget_cons (p : UInt32 × List Str) (r : List (UInt32 × List Str)) (d : UInt32) : mget (p :: r) d = if p.1 = d then some p.2 else mget r d := mget_cons p.1 p.2 r d
theorem wset_cons (p : UInt32 × List Str) (r : List (UInt32 × List Str)) (d : UInt32) (l : List Str) : mset (p :: r) d l = if p.1 = d then (d, l) :: r else p :: mset r d l := mset_cons p.1 p.2 r d l
theorem wdel_cons (p : UInt32 × List Str) (r : List (UInt32 × List Str)) (d : UInt32) : mdel (p :: r) d = if p.1 = d then r else p :: mdel r d := mdel_cons p.1 p.2 r d
theorem waitN_mset (x : Str) (w : List (UInt32 × List Str)) (d : UInt32) (l : List Str) : waitN x (mset w d l) + ((mget w d).getD []).count x = waitN x w + l.count x := by
  induction w with
  | nil => simp [mset, mfind, mget, waitN]
  | cons p r ih =>
    rw [wset_cons, wget_cons]
    split
    · simp only [waitN_cons, Option.getD_some]; omega
    · simp only [waitN_cons]; omega
theorem waitN_mdel (x : Str) (w : List (UInt32 × List Str)) (d : UInt32) : waitN x (mdel w d) + ((mget w d).getD []).count x = waitN x w := by
  induction w with
  | nil => simp [mdel, mfind, mget, waitN]
  | cons p r ih =>
    rw [wdel_cons, wget_cons]
    split
    · simp only [waitN_cons, Option.getD_some]; omega
    · simp only [waitN_cons]; omega
theorem framN_snoc (x : Str) (l : List (UInt32 × Str)) (f : UInt32 × Str) : framN x (l ++ [f]) = framN x l + if datB x f.2 then 1 else 0 := by
  unfold framN
  rw [List.countP_append, List.countP_cons, List.countP_nil]
  omega
theorem camN_snoc (x : Str) (l : List (UInt32 × Str)) (y : UInt32 × Str) : camN x (l ++ [y]) = camN x l + if y.2 = x then 1 else 0 := by
  unfold camN
  rw [List.countP_append, List.countP_cons, List.countP_nil]
  simp
theorem dec_out {p q : Pk} (h : Pk.dec p.out = some q) : q = p ∧ p.Fits := by
  by_cases hf : p.Fits
  · rw [Pk.out_fit hf, Pk.dec_bytes hf] at h
    exact ⟨(Option.some.inj h).symm, hf⟩
  · rw [Pk.out_not hf] at h
    cases h
theorem datB_out (x : Str) (p : Pk) (h : datB x p.out = true) : p.kind = 9 ∧ p.payload = x := by
  unfold datB at h
  split at h
  · rename_i q hq
    obtain ⟨rfl, _⟩ := dec_out hq
    exact of_decide_eq_true h
  · cases h
def NextOk (ls : List Ln) : Prop := ∀ l ∈ ls, l.valid = true → l.next ≠ 0
theorem NextOk.lmod {ls : List Ln} (h : NextOk ls) (d : UInt32) (f : Ln → Ln) (hf : ∀ l ∈ ls, (f l).valid = true → (f l).next ≠ 0) : NextOk (lmod ls d f) := fun l hl => by
  rcases mem_lmod hl with hl | ⟨l', hl', rfl⟩
  · exact h l hl
  · exact hf l' hl'
theorem NextOk.use {ls : List Ln} (h : NextOk ls) (d : UInt32) (e : UInt64) : NextOk (useT ls d e) := h.lmod d _ fun l hl => by
  split
  · exact h l hl
  · exact h l hl
theorem NextOk.bef {ls : List Ln} (h : NextOk ls) (d nb : UInt32) : NextOk (befT ls d nb) := h.lmod d _ fun l hl => by
  split
  · exact h l hl
  · exact h l hl
theorem NextOk.bump {ls : List Ln} (h : NextOk ls) (d : UInt32) : NextOk (bumpT ls d) := h.lmod d _ fun l hl => h l hl
theorem NextOk.lose {ls : List Ln} (h : NextOk ls) (src d s : UInt32) : NextOk (loseT ls src d s) := h.lmod d _ fun l hl => by
  split
  · intro hv; cases hv
  · exact h l hl
theorem NextOk.exp {ls : List Ln} (h : NextOk ls) (now : UInt64) : NextOk (expT now ls) := fun l hl => by
  obtain ⟨l', hl', rfl⟩ := List.mem_map.1 hl
  unfold Ln.exp
  split
  · intro hv; cases hv
  · exact h l' hl'
theorem NextOk.brk {ls : List Ln} (h : NextOk ls) (nb : UInt32) : NextOk (brkT nb ls) := fun l hl => by
  obtain ⟨l', hl', rfl⟩ := List.mem_map.1 hl
  unfold Ln.brk
  split
  · intro hv; cases hv
  · exact h l' hl'
theorem NextOk.upd {ls : List Ln} (h : NextOk ls) (self : UInt32) (x : Ln) (hx : x.next ≠ 0) : NextOk (updT self ls x).2 := by
  have hp : NextOk (putT ls { x with valid := true, before := [] }) := fun l hl => by
    unfold putT at hl
    split at hl
    · rcases List.mem_or_eq_of_mem_set hl with hl | rfl
      · exact h l hl
      · exact fun _ => hx
    · rcases List.mem_append.1 hl with hl | hl
      · exact h l hl
      · simp at hl; subst hl; exact fun _ => hx
  unfold updT
  repeat' split
  all_goals first | exact h | exact hp
theorem NextOk.loses {src : UInt32} (l : List (UInt32 × UInt32)) : ∀ a : List Ln × List (UInt32 × UInt32) × Bool, NextOk a.1 → NextOk (l.foldl (loseStep src) a).1 := by
  induction l with
  | nil => intro a h; exact h
  | cons x l ih => intro a h; exact ih _ (h.lose src x.1 x.2)
theorem NextOk.lookT {ls : List Ln} (h : NextOk ls) {d : UInt32} {now : UInt64} {x : Ln} (hx : lookT ls d now = some x) : x.next ≠ 0 := by
  have hm := lookT_mem hx
  unfold Go.Proofs.YtapoehkdnglahabGreat.lookT at hx
  split at hx
  · split at hx
    · rename_i hv
      cases hx
      exact h _ hm hv.1
    · cases hx
  · cases hx
variable {T : Str → UInt32 → UInt32 → Prop} {a : UInt32} {B : Str → Nat}
structure Nd.On (T : Str → UInt32 → UInt32 → Prop) (a : UInt32) (B : Str → Nat) (s : Nd) : Prop where
  self : s.self = a
  wait : ∀ w ∈ s.wait, ∀ t ∈ w.2, T t w.1 s.self
  frames : ∀ f ∈ s.out.frames, ∀ p, Pk.dec f.2 = some p → p.kind = 9 → f.1 ≠ 0 ∧ T p.payload p.dest p.from_
  came : ∀ y ∈ s.out.came, T y.2 s.self y.1
  next : NextOk s.ls
  cnt : ∀ x, waitN x s.wait + framN x s.out.frames + camN x s.out.came ≤ B x
theorem Nd.On.to {s t : Nd} (h : s.On T a B) (h1 : t.self = s.self) (h2 : t.wait = s.wait) (h3 : t.out.frames = s.out.frames) (h4 : t.out.came = s.out.came) (h5 : NextOk t.ls) : t.On T a B :=
  ⟨h1.trans h.self, by rw [h1, h2]; exact h.wait, by rw [h3]; exact h.frames, by rw [h1, h4]; exact h.came, h5, by rw [h2, h3, h4]; exact h.cnt⟩
theorem Nd.On.same {s t : Nd} (h : s.On T a B) (m : s.Same t) : t.On T a B := h.to m.self m.wait m.frames m.came (by rw [m.ls]; exact h.next)
theorem Nd.On.tab {s : Nd} (h : s.On T a B) {l : List Ln} (hl : NextOk l) : Nd.On T a B { s with ls := l } := h.to rfl rfl rfl rfl hl
theorem Nd.On.send {s : Nd} (h : s.On T a B) (to : UInt32) (p : Pk) (hp : p.kind ≠ 9) : (s.send to p).On T a B := by
  refine ⟨h.self, h.wait, fun f hf q hq hk => ?_, h.came, h.next, fun x => ?_⟩
  · rcases List.mem_append.1 hf with hf | hf
    · exact h.frames f hf q hq hk
    · simp at hf
      subst hf
      obtain ⟨rfl, _⟩ := dec_out hq
      exact absurd hk hp
  · have := h.cnt x
    show waitN x s.wait + framN x (s.out.frames ++ [(to, p.out)]) + camN x s.out.came ≤ _
    rw [framN_snoc]
    have : datB x p.out = false := by
      cases hd : datB x p.out with
      | false => rfl
      | true => exact absurd (datB_out x p hd).1 hp
    simp only [this]
    simpa using h.cnt x
theorem Nd.On.more {s : Nd} {B' : Str → Nat} (h : s.On T a B) (hB : ∀ x, B x ≤ B' x) : s.On T a B' := ⟨h.self, h.wait, h.frames, h.came, h.next, fun x => Nat.le_trans (h.cnt x) (hB x)⟩
def plus (B : Str → Nat) (t : Str) : Str → Nat := fun x => B x + if t = x then 1 else 0
theorem Nd.On.sendD {s : Nd} (h : s.On T a B) (to : UInt32) (p : Pk) (hto : to ≠ 0) (hT : T p.payload p.dest p.from_) : (s.send to p).On T a (plus B p.payload) := by
  refine ⟨h.self, h.wait, fun f hf q hq hk => ?_, h.came, h.next, fun x => ?_⟩
  · rcases List.mem_append.1 hf with hf | hf
    · exact h.frames f hf q hq hk
    · simp at hf
      subst hf
      obtain ⟨rfl, _⟩ := dec_out hq
      exact ⟨hto, hT⟩
  · have := h.cnt x
    show waitN x s.wait + framN x (s.out.frames ++ [(to, p.out)]) + camN x s.out.came ≤ B x + _
    rw [framN_snoc]
    cases hd : datB x p.out with
    | false => simp; omega
    | true =>
      rw [if_pos (datB_out x p hd).2]
      simp; omega
theorem Nd.On.hand {s : Nd} (h : s.On T a B) (d : UInt32) (t : Str) (hT : T t d s.self) : (s.hand d t).On T a (plus B t) := by
  unfold Nd.hand
  split
  · exact h.more fun x => Nat.le_add_right _ _
  · rename_i x hx
    have h0 : Nd.On T a B { s with datas := s.datas + 1 } := h.to rfl rfl rfl rfl h.next
    have h1 := Nd.On.sendD h0 x.next ⟨8, 9, 0, false, s.datas + 1, d, 0, s.self, 0, 0, [], t⟩ (h.next.lookT hx) hT
    exact h1.tab (h.next.use _ _)
def pluses (B : Str → Nat) (l : List Str) : Str → Nat := fun x => B x + l.count x
theorem Nd.hand_self (s : Nd) (d : UInt32) (t : Str) : (s.hand d t).self = s.self ∧ (s.hand d t).wait = s.wait := by
  unfold Nd.hand
  split <;> exact ⟨rfl, rfl⟩
theorem Nd.handAll_self (s : Nd) (d : UInt32) (l : List Str) : (s.handAll d l).self = s.self ∧ (s.handAll d l).wait = s.wait := by
  induction l using snocInd with
  | nil => exact ⟨rfl, rfl⟩
  | snoc l t ih => rw [Nd.handAll_snoc]; obtain ⟨h1, h2⟩ := Nd.hand_self (s.handAll d l) d t; exact ⟨h1.trans ih.1, h2.trans ih.2⟩
theorem Nd.On.handAll {s : Nd} (h : s.On T a B) (d : UInt32) (l : List Str) (hT : ∀ t ∈ l, T t d s.self) : (s.handAll d l).On T a (pluses B l) := by
  induction l using snocInd with
  | nil => exact h.more fun x => by simp [pluses]
  | snoc l t ih =>
    rw [Nd.handAll_snoc]
    have h1 := ih fun t ht => hT t (by simp [ht])
    have h2 := h1.hand d t (by rw [(s.handAll_self d l).1]; exact hT t (by simp))
    refine h2.more fun x => ?_
    unfold plus pluses
    rw [List.count_append, List.count_cons, List.count_nil]
    simp only [beq_iff_eq]
    omega
theorem mget_mem' {w : List (UInt32 × List Str)} {d : UInt32} {t : Str} (h : t ∈ (mget w d).getD []) : ∃ p ∈ w, p.1 = d ∧ t ∈ p.2 := by
  induction w with
  | nil => simp [mget, mfind] at h
  | cons p r ih =>
    rw [wget_cons] at h
    split at h
    · rename_i e
      exact ⟨p, by simp, e, by simpa using h⟩
    · obtain ⟨q, h1, h2⟩ := ih h
      exact ⟨q, by simp [h1], h2⟩
theorem mdel_mem' {w : List (UInt32 × List Str)} {d : UInt32} {p : UInt32 × List Str} (h : p ∈ mdel w d) : p ∈ w := by
  unfold mdel at h
  split at h
  · exact (List.eraseIdx_sublist _ _).subset h
  · exact h
theorem Nd.On.texts {s : Nd} (h : s.On T a B) (d : UInt32) : ∀ t ∈ s.texts d, T t d s.self := fun t ht => by
  obtain ⟨p, h1, h2, h3⟩ := mget_mem' ht
  have := h.wait p h1 t h3
  rw [h2] at this
  exact this
theorem Nd.On.unwait {s : Nd} (h : s.On T a B) (d : UInt32) : (s.unwait d).On T a B := by
  refine ⟨h.self, fun w hw => h.wait w (mdel_mem' hw), h.frames, h.came, h.next, fun x => ?_⟩
  have h1 := h.cnt x
  have h2 := waitN_mdel x s.wait d
  show waitN x (mdel s.wait d) + framN x s.out.frames + camN x s.out.came ≤ _
  omega
theorem Nd.On.flush {s : Nd} (h : s.On T a B) (d : UInt32) : (s.flush d).On T a B := by
  have h1 := h.handAll d (s.texts d) (h.texts d)
  obtain ⟨e1, e2⟩ := s.handAll_self d (s.texts d)
  have h2 : ((s.handAll d (s.texts d)).unwait d).On T a B := by
    have h3 := h1.unwait d
    refine ⟨h3.self, h3.wait, h3.frames, h3.came, h3.next, fun x => ?_⟩
    have h4 := h1.cnt x
    have h5 := waitN_mdel x s.wait d
    rw [e2] at h4
    show waitN x (mdel (s.handAll d (s.texts d)).wait d) + framN x (s.handAll d (s.texts d)).out.frames + camN x (s.handAll d (s.texts d)).out.came ≤ _
    rw [e2]
    unfold pluses Nd.texts at h4
    unfold Nd.texts
    omega
  unfold Nd.flush
  simp only
  split
  · exact h2.to rfl rfl rfl rfl h2.next
  · exact h2
theorem Nd.On.drop {s : Nd} (h : s.On T a B) (r : Int) : (s.drop r).On T a B := h.to rfl rfl rfl rfl h.next
theorem Nd.On.arm {s : Nd} (h : s.On T a B) (i : Int) (w : UInt64) : (s.arm i w).On T a B := h.to rfl rfl rfl rfl h.next
theorem Nd.On.setOut {s : Nd} (h : s.On T a B) (i : Nat) (b : Bool) : (s.setOut i b).On T a B := h.to rfl rfl rfl rfl h.next
theorem Nd.remember_more (s : Nd) (r : Rq) : (s.remember r).wait = s.wait := by
  unfold Nd.remember
  dsimp only
  split <;> rfl
theorem Nd.On.remember {s : Nd} (h : s.On T a B) (r : Rq) : (s.remember r).On T a B := by
  obtain ⟨e1, e2, e3, e4, e5⟩ := s.remember_eqs r
  exact h.to e2 (s.remember_more r) (by rw [e4]) (by rw [e4]) (by rw [e1]; exact h.next)
theorem Nd.On.ask1 {s : Nd} (h : s.On T a B) (x : Sr) : (s.ask1 x).On T a B := by
  have h0 : Nd.On T a B { s with seq := growS s.seq } := h.to rfl rfl rfl rfl h.next
  have h1 := h0.same (Nd.Same.note { s with seq := growS s.seq })
  unfold Nd.ask1
  simp only
  generalize Nd.note { s with seq := growS s.seq } = t at *
  refine Nd.On.remember (Nd.On.send (s := { t with ids := t.ids + 1, sent := trimS (t.sent ++ [t.now]) }) ?_ 0 _ (by simp)) _
  exact h1.to rfl rfl rfl rfl h1.next
theorem Nd.On.ask {s : Nd} (h : s.On T a B) (k : Nat) (x : Sr) : (s.ask k x).On T a B := by
  unfold Nd.ask
  split
  · exact ((h.setOut _ _).drop _).arm _ _
  · split
    · exact ((h.setOut _ _).drop _).arm _ _
    · exact ((h.setOut _ _).ask1 _).arm _ _
theorem Nd.On.again {s : Nd} (h : s.On T a B) (k : Nat) (x : Sr) : (s.again k x).On T a B := by
  unfold Nd.again
  split
  · exact h.flush _
  · split
    · split
      · rename_i y _
        exact Nd.On.ask (s := { s with srs := s.srs.set k y }) (h.to rfl rfl rfl rfl h.next) k y
      · have h1 : (s.drops (s.texts x.dest).length 5).On T a B := h.to rfl rfl rfl rfl h.next
        have h2 := h1.unwait x.dest
        exact h2.to rfl rfl rfl rfl h2.next
    · exact h.ask _ _
theorem Nd.On.step {s t : Nd} {now : UInt64} (h : s.On T a B) (hst : s.step now = some t) : t.On T a B := by
  unfold Nd.step at hst
  split at hst
  · cases hst
  · rename_i i _
    simp only at hst
    have h0 : Nd.On T a B { s with clk := s.clk.eraseIdx i } := h.to rfl rfl rfl rfl h.next
    split at hst
    · split at hst
      · cases hst; exact h0.again _ _
      · cases hst; exact h0
    · cases hst; exact h0
theorem Nd.On.ticks (now : UInt64) : ∀ (f : Nat) (s : Nd), s.On T a B → (s.ticks f now).On T a B
  | 0, s, h => h
  | f + 1, s, h => by
    unfold Nd.ticks
    cases hs : s.step now with
    | none => exact h
    | some t => exact Nd.On.ticks now f t (h.step hs)
theorem Nd.On.answer {s : Nd} (h : s.On T a B) (p : Pk) : (s.answer p).On T a B := by
  unfold Nd.answer
  split
  · exact h.send _ _ (by simp)
  · exact h.drop _
theorem Nd.On.req3 {s : Nd} (h : s.On T a B) (p : Pk) (hp : p.kind ≠ 9) : (s.req3 p).On T a B := by
  unfold Nd.req3
  split
  · exact h.drop _
  · split <;> exact h.send _ _ hp
theorem Nd.On.req2 {s : Nd} (h : s.On T a B) (p : Pk) (hp : p.kind ≠ 9) : (s.req2 p).On T a B := by
  unfold Nd.req2
  split
  · have h0 : Nd.On T a B { s with seq := if p.unknown then s.seq else max s.seq p.destSeq } := h.to rfl rfl rfl rfl h.next
    exact h0.answer _
  · split
    · split
      · rename_i x _ _
        unfold Nd.ans2
        refine Nd.On.answer (h.tab (NextOk.bef ?_ _ _)) _
        split
        · exact h.next.bef _ _
        · exact h.next
      · exact h.req3 p hp
    · exact h.req3 p hp
theorem Nd.On.req {s : Nd} (h : s.On T a B) (src : UInt32) (hs : src ≠ 0) (p : Pk) (hp : p.kind ≠ 9) : (s.req src p).On T a B := by
  unfold Nd.req
  split
  · exact h.drop _
  · simp only
    have h1 := h.remember ⟨p.from_, p.id⟩
    generalize s.remember ⟨p.from_, p.id⟩ = s1 at *
    have h2 : NextOk (s1.reqU src p).2 := h1.next.upd _ _ hs
    split
    · exact (h1.tab h2).drop _
    · refine Nd.On.req2 (h1.tab ?_) p hp
      split
      · exact h2.use _ _
      · exact h2
theorem Nd.On.lost {s : Nd} (h : s.On T a B) (l : List (UInt32 × UInt32)) : (s.lost l).On T a B := by
  unfold Nd.lost
  split
  · exact h.send _ _ (by simp [Pk.lose])
  · exact h
theorem Nd.On.los {s : Nd} (h : s.On T a B) (src : UInt32) (p : Pk) : (s.los src p).On T a B := by
  have h1 := (h.tab (NextOk.loses (src := src) p.lost (s.ls, [], false) h.next)).lost (loseAll src s.ls p.lost).2.1
  unfold Nd.los
  simp only
  split
  · exact h1
  · exact h1.drop _
theorem Nd.On.brk {s : Nd} (h : s.On T a B) (nb : UInt32) : (s.brk nb).On T a B := (h.tab (h.next.brk nb)).lost _
theorem Nd.On.came_ {s : Nd} (h : s.On T a B) (y : UInt32 × Str) (hT : T y.2 s.self y.1) : (s.came y).On T a (plus B y.2) := by
  refine ⟨h.self, h.wait, h.frames, fun z hz => ?_, h.next, fun x => ?_⟩
  · rcases List.mem_append.1 hz with hz | hz
    · exact h.came z hz
    · simp at hz; subst hz; exact hT
  · have := h.cnt x
    show waitN x s.wait + framN x s.out.frames + camN x (s.out.came ++ [y]) ≤ B x + _
    rw [camN_snoc]
    omega
theorem Nd.On.tell {s : Nd} (h : s.On T a B) (to d q : UInt32) : (s.tell to d q).On T a B := h.send _ _ (by simp [Pk.lose])
theorem Nd.On.dat {s : Nd} (h : s.On T a B) (src : UInt32) (p : Pk) (hT : T p.payload p.dest p.from_) : (s.dat src p).On T a (plus B p.payload) := by
  have hm := h.more (B' := plus B p.payload) fun x => Nat.le_add_right _ _
  unfold Nd.dat
  split
  · rename_i e
    refine h.came_ (p.from_, p.payload) ?_
    show T p.payload s.self p.from_
    rw [← e]
    exact hT
  · split
    · exact hm.drop _
    · split
      · exact ((hm.drop 3).tab (h.next.bump _)).tell _ _ _
      · rename_i x hx
        have h1 := h.sendD x.next { p with ttl := p.ttl - 1 } (h.next.lookT hx) hT
        exact h1.tab ((h.next.use _ _).use _ _)
theorem Nd.On.rep {s : Nd} (h : s.On T a B) (src : UInt32) (hs : src ≠ 0) (p : Pk) (hp : p.kind ≠ 9) : (s.rep src p).On T a B := by
  unfold Nd.rep
  split
  · exact h.drop _
  · simp only
    have h2 : NextOk (updT s.self s.ls (Ln.learned p.dest p.destSeq (hop1 p) src (s.now + p.life.toUInt64))).2 := h.next.upd _ _ hs
    generalize (updT s.self s.ls (Ln.learned p.dest p.destSeq (hop1 p) src (s.now + p.life.toUInt64))) = u at *
    have h3 := h.tab h2
    split
    · exact h3.drop _
    · split
      · have h4 : Nd.On T a B (if (lookT u.2 p.dest s.now).isSome then Nd.flush { s with ls := u.2 } p.dest else { s with ls := u.2 }) := by
          split
          · exact h3.flush _
          · exact h3
        split
        · exact h4.drop _
        · exact h4
      · split
        · split <;> exact h3.drop _
        · split
          · exact h3.drop _
          · rename_i b _ _
            have h5 := h3.send b.next { p with ttl := p.ttl - 1, hops := hop1 p } hp
            exact h5.tab (NextOk.use (NextOk.bef (NextOk.bef h2 _ _) _ _) _ _)
def gain (B : Str → Nat) (f : Str) : Str → Nat := fun x => B x + if datB x f then 1 else 0
theorem Nd.On.handle {s : Nd} (h : s.On T a B) (src : UInt32) (hs : src ≠ 0) {f : Str} {p : Pk} (hp : Pk.dec f = some p) (hT : p.kind = 9 → T p.payload p.dest p.from_) : (s.handle src p).On T a (gain B f) := by
  have hm := h.more (B' := gain B f) fun x => Nat.le_add_right _ _
  unfold Nd.handle
  split
  · rename_i e; exact hm.req src hs p (by omega)
  · split
    · rename_i e; exact hm.rep src hs p (by omega)
    · split
      · exact hm.los _ _
      · rename_i e1 e2 e3
        have hk : p.kind = 9 := by
          obtain ⟨⟨_, hh⟩, _⟩ := Pk.dec_some hp
          rcases hh with hh | hh | hh | hh
          · exact absurd hh.1 e1
          · exact absurd hh.1 e2
          · exact absurd hh.1 e3
          · exact hh.1
        refine (h.dat src p (hT hk)).more fun x => ?_
        unfold plus gain datB
        rw [hp]
        simp only [hk, true_and, decide_eq_true_eq]
        omega
theorem Nd.On.rcvQ {s : Nd} (h : s.On T a B) (now : UInt64) (src : UInt32) (f : Str) : (s.rcvQ now src f).On T a B := by
  unfold Nd.rcvQ
  split
  · exact h.drop _
  · rename_i p _
    split
    · exact h.drop _
    · split
      · have h1 := h.tell src p.dest (numT s.ls p.dest)
        exact Nd.On.drop (h1.to (t := { s.tell src p.dest (numT s.ls p.dest) with silent := now + 2000 }) rfl rfl rfl rfl h1.next) 8
      · exact h.drop _
theorem Nd.On.rcv {s : Nd} (h : s.On T a B) (now : UInt64) (src : UInt32) (f : Str) (hT : ∀ p, Pk.dec f = some p → p.kind = 9 → T p.payload p.dest p.from_) : (s.rcv now src f).On T a (gain B f) := by
  have hm := h.more (B' := gain B f) fun x => Nat.le_add_right _ _
  unfold Nd.rcv
  split
  · exact hm.rcvQ _ _ _
  · rename_i p hp
    split
    · exact hm.rcvQ _ _ _
    · rename_i hn
      simp only [not_or] at hn
      exact h.handle src hn.1 hp (hT p hp)
theorem Nd.On.sendT {s : Nd} (h : s.On T a B) (d : UInt32) (t : Str) (hT : T t d s.self) : (s.sendT d t).On T a (plus B t) := by
  rw [Nd.sendT_eq]
  split
  · exact h.hand d t hT
  · have h1 : (s.roomFor d).On T a B := by
      unfold Nd.roomFor
      split
      · refine Nd.On.drop (s := { s with wait := mset s.wait d ((s.texts d).drop 1) }) ⟨h.self, fun w hw t ht => ?_, h.frames, h.came, h.next, fun x => ?_⟩ _
        · rcases mset_mem' hw with hw | rfl
          · exact h.wait w hw t ht
          · exact h.texts d t (List.mem_of_mem_drop ht)
        · have h2 := h.cnt x
          have h3 := waitN_mset x s.wait d ((s.texts d).drop 1)
          have h4 : ((s.texts d).drop 1).count x ≤ (s.texts d).count x := (List.drop_sublist _ _).count_le _
          unfold Nd.texts at *
          show waitN x (mset s.wait d _) + framN x s.out.frames + camN x s.out.came ≤ _
          omega
      · exact h
    have h5 : ((s.roomFor d).put d t).On T a (plus B t) := by
      refine ⟨h1.self, fun w hw y hy => ?_, h1.frames, h1.came, h1.next, fun x => ?_⟩
      · have e : (s.roomFor d).self = s.self := (s.roomFor_eqs d).2.2.2.2.2.2.1
        rcases mset_mem' hw with hw | rfl
        · exact h1.wait w hw y hy
        · rcases List.mem_append.1 hy with hy | hy
          · exact h1.texts d y hy
          · simp at hy
            subst hy
            show T y d (s.roomFor d).self
            rw [e]
            exact hT
      · have h2 := h1.cnt x
        have h3 := waitN_mset x (s.roomFor d).wait d ((s.roomFor d).texts d ++ [t])
        rw [List.count_append, List.count_cons, List.count_nil] at h3
        simp only [beq_iff_eq] at h3
        show waitN x (mset (s.roomFor d).wait d ((s.roomFor d).texts d ++ [t])) + framN x (s.roomFor d).out.frames + camN x (s.roomFor d).out.came ≤ B x + _
        unfold Nd.texts at *
        omega
    split
    · exact h5
    · exact Nd.On.ask (s := ((s.roomFor d).put d t).newSr d) (h5.to rfl rfl rfl rfl h5.next) _ _
structure Nd.Idle (T : Str → UInt32 → UInt32 → Prop) (a : UInt32) (s : Nd) : Prop where
  self : s.self = a
  wait : ∀ w ∈ s.wait, ∀ t ∈ w.2, T t w.1 s.self
  next : NextOk s.ls
theorem Nd.Idle.begin {s : Nd} (h : s.Idle T a) (now : UInt64) : (s.begin now).On T a fun x => waitN x s.wait := by
  have m := Nd.Same.note { s with now := now, out := OutD.zero, ls := expT now s.ls }
  unfold Nd.begin
  refine Nd.On.same ?_ m
  exact ⟨h.self, h.wait, fun f hf => (by cases hf), fun y hy => (by cases hy), h.next.exp now, fun x => by show waitN x s.wait + framN x [] + camN x [] ≤ _; simp [framN, camN]⟩
theorem Nd.On.done {s : Nd} (h : s.On T a B) : s.done.On T a B := by
  obtain ⟨e1, e2, e3, e4, e5, e6, e7, e8, e9, e10, e11, e12, e13, e14, e15, e16, e17, e18⟩ := s.done_same
  exact h.to e1 e9 e8 e17 (by rw [e2]; exact h.next)
theorem Nd.On.idle {s : Nd} (h : s.On T a B) : s.Idle T a := ⟨h.self, h.wait, h.next⟩
theorem Nd.Idle.tick {s : Nd} (h : s.Idle T a) (now : UInt64) : (s.tickF now).On T a fun x => waitN x s.wait := (Nd.On.ticks now _ _ (h.begin now)).done
theorem Nd.Idle.rcv {s : Nd} (h : s.Idle T a) (now : UInt64) (src : UInt32) (f : Str) (hT : ∀ p, Pk.dec f = some p → p.kind = 9 → T p.payload p.dest p.from_) : (s.rcvF now src f).On T a (gain (fun x => waitN x s.wait) f) := ((h.begin now).rcv now src f hT).done
theorem Nd.Idle.brk {s : Nd} (h : s.Idle T a) (now : UInt64) (nb : UInt32) : (s.brkF now nb).On T a fun x => waitN x s.wait := ((h.begin now).brk nb).done
theorem Nd.Idle.sendF {s : Nd} (h : s.Idle T a) (now : UInt64) (d : UInt32) (t : Str) (hT : T t d s.self) : (s.sendF now d t).On T a (plus (fun x => waitN x s.wait) t) := by
  refine Nd.On.done ((h.begin now).sendT d t ?_)
  have : (s.begin now).self = s.self := Nd.begin_self s now
  rw [this]
  exact hT
theorem Nd.new_self' (self : UInt32) (b : Str) (now : UInt64) : (Nd.new self b now).self = self := by
  rw [(Nd.new_same self b now).self]
  unfold Nd.booted
  split <;> rfl
theorem NextOk.new (self : UInt32) (c : List Rec) : NextOk (newT self c) := by
  have key : ∀ (l : List Rec) (a : List Ln), (∀ x ∈ a, x.valid = false) → ∀ x ∈ l.foldl (newStep self) a, x.valid = false := by
    intro l
    induction l with
    | nil => intro a h; exact h
    | cons r l ih =>
      intro a h
      refine ih _ fun x hx => ?_
      unfold newStep at hx
      split at hx
      · unfold putT at hx
        split at hx
        · rcases List.mem_or_eq_of_mem_set hx with hx | rfl
          · exact h x hx
          · rfl
        · rcases List.mem_append.1 hx with hx | hx
          · exact h x hx
          · simp at hx; subst hx; rfl
      · exact h x hx
  intro x hx hv
  rw [key c [] (fun x hx => by cases hx) x hx] at hv
  cases hv
theorem Nd.Idle.new (self : UInt32) (b : Str) (now : UInt64) : (Nd.new self b now).Idle T self ∧ ∀ x, waitN x (Nd.new self b now).wait = 0 := by
  have m := Nd.new_same self b now
  have hb : (Nd.booted self b now).wait = [] ∧ NextOk (Nd.booted self b now).ls := by
    unfold Nd.booted
    split
    · exact ⟨rfl, NextOk.new _ _⟩
    · exact ⟨rfl, fun l hl => by cases hl⟩
  refine ⟨⟨Nd.new_self' self b now, ?_, ?_⟩, fun x => ?_⟩
  · rw [m.wait, hb.1]; intro w hw; cases hw
  · rw [m.ls]; exact hb.2
  · rw [m.wait, hb.1]; rfl
end

section
def lenF (k n : UInt8) : Nat := if k = 1 then 25 else if k = 2 then 21 else if k = 3 then 5 + 8 * n.toNat else 17 + n.toNat
theorem dec_lenF {s : List UInt8} {q : Pk} (h : Pk.dec s = some q) : s.length = lenF (byteAt s 1) (byteAt s 4) ∧ 13 ≤ s.length := by
  unfold Pk.dec at h
  split at h
  · rename_i t k f z n l
    split at h
    · unfold Pk.body at h
      have e1 : byteAt (t :: k :: f :: z :: n :: l) 1 = k := rfl
      have e4 : byteAt (t :: k :: f :: z :: n :: l) 4 = n := rfl
      rw [e1, e4]
      simp only [List.length_cons]
      repeat' split at h
      all_goals first
        | (cases h; done)
        | (rename_i hk hc; subst hk; simp [lenF]; omega)
        | (rename_i hk hc; subst hk; obtain ⟨hc1, hc2⟩ := hc; simp [lenF]; omega)
    · cases h
  · cases h
def Stub (b : Str) : Prop := b = [] ∨ ∃ e q n, Pk.dec e = some q ∧ b = e.take n
theorem Stub.take {b : Str} (h : Stub b) (n : Nat) : Stub (b.take n) := by
  rcases h with rfl | ⟨e, q, k, h1, rfl⟩
  · exact .inl (by simp)
  · exact .inr ⟨e, q, min n k, h1, by rw [List.take_take]⟩
theorem Stub.out (p : Pk) : Stub p.out := by
  by_cases h : p.Fits
  · rw [Pk.out_fit h]
    exact .inr ⟨p.bytes, p, p.bytes.length, Pk.dec_bytes h, by simp⟩
  · rw [Pk.out_not h]; exact .inl rfl
theorem Stub.less {b : Str} (h : Stub b) {n : Nat} (hn : n < b.length) : Pk.dec (b.take n) = none := by
  rcases h with rfl | ⟨e, q, k, h1, rfl⟩
  · simp at hn
  · cases h2 : Pk.dec ((e.take k).take n) with
    | none => rfl
    | some r =>
      rw [List.length_take] at hn
      rw [List.take_take, Nat.min_eq_left (by omega)] at h2
      obtain ⟨a1, a2⟩ := dec_lenF h1
      obtain ⟨b1, b2⟩ := dec_lenF h2
      rw [List.length_take] at b1 b2
      have e' : ∀ i, i < n → byteAt (e.take n) i = byteAt e i := fun i hi => by simp only [byteAt]; rw [List.getElem?_take, if_pos hi]
      rw [e' 1 (by omega), e' 4 (by omega)] at b1
      omega
def nodW (x : Str) (s : Sta) : Nat := match s.node with
  | some t => waitN x t.wait
  | none => 0
def Ms.waits (m : Ms) (x : Str) : Nat := (m.sts.map (nodW x)).sum
def airN (x : Str) (l : List Fl) : Nat := l.countP fun f => datB x f.bytes
def evN (x : Str) (l : List Ev) : Nat := (l.map fun e => camN x e.out.came).sum
def Ms.full (m : Ms) (x : Str) : Nat := m.waits x + airN x m.air + evN x m.evs
theorem airN_sub {x : Str} {a b : List Fl} (h : a.Sublist b) : airN x a ≤ airN x b := h.countP_le
theorem airN_snoc (x : Str) (l : List Fl) (f : Fl) : airN x (l ++ [f]) = airN x l + if datB x f.bytes then 1 else 0 := by
  unfold airN
  rw [List.countP_append, List.countP_cons, List.countP_nil]
  omega
theorem airN_erase {x : Str} : ∀ {l : List Fl} {k : Nat} {f : Fl}, l[k]? = some f → airN x (l.eraseIdx k) + (if datB x f.bytes then 1 else 0) = airN x l
  | [], _, _, h => by simp at h
  | g :: l, 0, f, h => by
    simp at h; subst h
    show airN x l + _ = airN x (g :: l)
    unfold airN
    rw [List.countP_cons]
  | g :: l, k + 1, f, h => by
    have ih := airN_erase (x := x) (l := l) (k := k) (f := f) (by simpa using h)
    show airN x (g :: l.eraseIdx k) + _ = airN x (g :: l)
    unfold airN at ih ⊢
    rw [List.countP_cons, List.countP_cons]
    omega
theorem airN_set {x : Str} : ∀ {l : List Fl} {k : Nat} {f g : Fl}, l[k]? = some f → (datB x g.bytes = true → datB x f.bytes = true) → airN x (l.set k g) ≤ airN x l
  | [], _, _, _, h, _ => by simp at h
  | y :: l, 0, f, g, h, hg => by
    simp at h; subst h
    show airN x (g :: l) ≤ airN x (y :: l)
    unfold airN
    rw [List.countP_cons, List.countP_cons]
    by_cases h1 : datB x g.bytes = true
    · rw [if_pos h1, if_pos (hg h1)]; exact Nat.le_refl _
    · rw [if_neg h1]; omega
  | y :: l, k + 1, f, g, h, hg => by
    have ih := airN_set (x := x) (l := l) (k := k) (f := f) (g := g) (by simpa using h) hg
    show airN x (y :: l.set k g) ≤ airN x (y :: l)
    unfold airN at ih ⊢
    rw [List.countP_cons, List.countP_cons]
    omega
theorem evN_snoc (x : Str) (l : List Ev) (e : Ev) : evN x (l ++ [e]) = evN x l + camN x e.out.came := by simp [evN]
theorem waits_modify {x : Str} {f : Sta → Sta} : ∀ {l : List Sta} {i : Nat} {s : Sta}, l[i]? = some s → ((l.modify i f).map (nodW x)).sum + nodW x s = (l.map (nodW x)).sum + nodW x (f s)
  | [], _, _, h => by simp at h
  | y :: l, 0, s, h => by
    simp at h; subst h
    show ((f y :: l).map (nodW x)).sum + _ = _
    simp only [List.map_cons, List.sum_cons]
    omega
  | y :: l, i + 1, s, h => by
    have ih := waits_modify (x := x) (f := f) (l := l) (i := i) (s := s) (by simpa using h)
    show ((y :: l.modify i f).map (nodW x)).sum + _ = _
    simp only [List.map_cons, List.sum_cons]
    omega
theorem Ms.waits_mod {m : Ms} {x : Str} {i : Nat} {s : Sta} {f : Sta → Sta} (h : m.sts[i]? = some s) : (m.mod i f).waits x + nodW x s = m.waits x + nodW x (f s) := waits_modify h
variable {T : Str → UInt32 → UInt32 → Prop}
def Carries (T : Str → UInt32 → UInt32 → Prop) (b : Str) : Prop := ∀ p, Pk.dec b = some p → p.kind = 9 → T p.payload p.dest p.from_
structure Ms.On (T : Str → UInt32 → UInt32 → Prop) (m : Ms) : Prop where
  idle : ∀ (i : Nat) s t, m.sts[i]? = some s → s.node = some t → t.Idle T s.addr
  air : ∀ f ∈ m.air, Stub f.bytes ∧ Carries T f.bytes
  evs : ∀ e ∈ m.evs, ∀ y ∈ e.out.came, ∃ i : Nat, e.node = i ∧ ∃ a, (m.sts.map (·.addr))[i]? = some a ∧ T y.2 a y.1
structure Ms.Led (T : Str → UInt32 → UInt32 → Prop) (m m' : Ms) (k : Str → Nat) : Prop where
  addrs : m'.sts.map (·.addr) = m.sts.map (·.addr)
  on : m'.On T
  full : ∀ x, m'.full x ≤ m.full x + k x
theorem Ms.Led.rfl' {m : Ms} (h : m.On T) (k : Str → Nat) : m.Led T m k := ⟨rfl, h, fun x => Nat.le_add_right _ _⟩
theorem Ms.Led.trans {m m1 m2 : Ms} {k1 k2 : Str → Nat} (h : m.Led T m1 k1) (h2 : m1.Led T m2 k2) : m.Led T m2 (fun x => k1 x + k2 x) := ⟨h2.addrs.trans h.addrs, h2.on, fun x => by have := h.full x; have := h2.full x; omega⟩
theorem Ms.Led.le {m m' : Ms} {k k' : Str → Nat} (h : m.Led T m' k) (hk : ∀ x, k x ≤ k' x) : m.Led T m' k' := ⟨h.addrs, h.on, fun x => by have := h.full x; have := hk x; omega⟩
theorem Ms.Led.fly {m : Ms} (hm : m.On T) (g : Fl) (h1 : Stub g.bytes) (h2 : Carries T g.bytes) : m.Led T (m.fly g) (fun x => if datB x g.bytes then 1 else 0) := by
  refine ⟨rfl, ⟨hm.idle, fun f hf => ?_, hm.evs⟩, fun x => ?_⟩
  · rcases Ms.fly_mem hf with hf | rfl
    · exact hm.air f hf
    · exact ⟨h1, h2⟩
  · have h3 : airN x (m.fly g).air ≤ airN x m.air + if datB x g.bytes then 1 else 0 := by
      rw [← airN_snoc]
      unfold Ms.fly
      simp only
      split
      · exact airN_sub (List.eraseIdx_sublist _ _)
      · exact Nat.le_refl _
    show m.waits x + airN x (m.fly g).air + evN x m.evs ≤ m.waits x + airN x m.air + evN x m.evs + _
    omega
theorem Ms.Led.cast {m : Ms} (hm : m.On T) (i : Nat) (b : Str) (h1 : Stub b) (h2 : ∀ p, Pk.dec b = some p → p.kind ≠ 9) : ∀ k, m.Led T (Ms.castN i b k m) (fun _ => 0)
  | 0 => Ms.Led.rfl' hm _
  | k + 1 => by
    have ih := Ms.Led.cast hm i b h1 h2 k
    unfold Ms.castN
    split
    · refine (ih.trans (Ms.Led.fly ih.on ⟨i, k, b⟩ h1 fun p hp hk => absurd hk (h2 p hp))).le fun x => ?_
      have : datB x b = false := by
        unfold datB
        split
        · rename_i p hp
          simp [h2 p hp]
        · rfl
      simp [this]
    · exact ih
theorem Ms.Led.event {m : Ms} (hm : m.On T) (e : Ev) (he : ∀ y ∈ e.out.came, ∃ i : Nat, e.node = i ∧ ∃ a, (m.sts.map (·.addr))[i]? = some a ∧ T y.2 a y.1) : m.Led T (m.event e) (fun x => camN x e.out.came) := by
  refine ⟨rfl, ⟨hm.idle, hm.air, fun f hf => ?_⟩, fun x => ?_⟩
  · rcases List.mem_append.1 hf with hf | hf
    · exact hm.evs f hf
    · simp at hf; subst hf; exact he
  · show m.waits x + airN x m.air + evN x (m.evs ++ [e]) ≤ m.waits x + airN x m.air + evN x m.evs + _
    rw [evN_snoc]; omega
theorem Ms.On.mod {m : Ms} (hm : m.On T) {i : Nat} {f : Sta → Sta} (ha : ∀ s, (f s).addr = s.addr) (h : ∀ s t, m.sts[i]? = some s → (f s).node = some t → t.Idle T s.addr) : (m.mod i f).On T := by
  have hk : m.Kept (m.mod i f) i := Ms.Kept.mod ha
  refine ⟨fun j s t hs ht => ?_, hm.air, fun e he y hy => ?_⟩
  · by_cases e : j = i
    · subst e
      cases hq : m.sts[j]? with
      | none =>
        have hs' : (m.sts.modify j f)[j]? = some s := hs
        rw [List.getElem?_modify, hq] at hs'
        simp at hs'
      | some q =>
        rw [Ms.mod_at hq] at hs
        cases hs
        rw [ha]
        exact h q t hq ht
    · rw [hk.other j e] at hs
      exact hm.idle j s t hs ht
  · rw [hk.addrs]; exact hm.evs e he y hy
theorem Ms.Led.mod {m : Ms} (hm : m.On T) {i : Nat} {f : Sta → Sta} {k : Str → Nat} (ha : ∀ s, (f s).addr = s.addr) (h : ∀ s t, m.sts[i]? = some s → (f s).node = some t → t.Idle T s.addr) (hk : ∀ s x, m.sts[i]? = some s → nodW x (f s) ≤ nodW x s + k x) : m.Led T (m.mod i f) k := by
  refine ⟨(Ms.Kept.mod (i := i) ha).addrs, hm.mod ha h, fun x => ?_⟩
  show (m.mod i f).waits x + airN x m.air + evN x m.evs ≤ m.waits x + airN x m.air + evN x m.evs + k x
  cases hq : m.sts[i]? with
  | none =>
    have : m.mod i f = m := by
      show ({ m with sts := m.sts.modify i f } : Ms) = m
      have : m.sts.modify i f = m.sts := by
        apply List.ext_getElem?
        intro j
        rw [List.getElem?_modify]
        by_cases e : i = j
        · subst e; rw [hq]; rfl
        · cases m.sts[j]? with
          | none => rfl
          | some y => simp [e]
      rw [this]
    rw [this]; omega
  | some s =>
    have h1 := Ms.waits_mod (x := x) (f := f) hq
    have h2 := hk s x hq
    omega
theorem Ms.Led.run {m : Ms} (hm : m.On T) {i : Nat} {s0 : Sta} {s t : Nd} {B : Str → Nat} (h0 : m.sts[i]? = some s0) (hs : s0.node = some s) (ht : t.On T s0.addr B) {k : Str → Nat} (hB : ∀ x, waitN x t.wait ≤ waitN x s.wait + k x) : m.Led T (m.mod i (·.run t)) k := by
  refine Ms.Led.mod hm (fun _ => rfl) (fun s1 t1 h1 h2 => ?_) fun s1 x h1 => ?_
  · rw [h0] at h1; cases h1
    have : t = t1 := Option.some.inj h2
    subst this
    exact ht.idle
  · rw [h0] at h1; cases h1
    unfold nodW
    rw [hs]
    exact hB x
theorem Ms.Led.frame {m : Ms} (hm : m.On T) {i : Nat} {s : Sta} (hs : m.sts[i]? = some s) {sub : Ms → OutD → Ms} (f : UInt32 × Str) (h1 : Stub f.2) (h2 : ∀ p, Pk.dec f.2 = some p → p.kind = 9 → f.1 ≠ 0 ∧ T p.payload p.dest p.from_)
    (hsub : ∀ t, s.node = some t → m.Led T (sub (m.mod i (·.run (t.brkF m.now f.1))) (t.brkF m.now f.1).out) (fun _ => 0)) : m.Led T (Ms.frameO sub i m f) (fun x => if datB x f.2 then 1 else 0) := by
  unfold Ms.frameO
  split
  · rename_i h0
    exact (Ms.Led.cast hm i f.2 h1 (fun p hp hk => (h2 p hp hk).1 h0) _).le fun x => Nat.zero_le _
  · split
    · exact Ms.Led.fly hm ⟨i, _, f.2⟩ h1 fun p hp hk => (h2 p hp hk).2
    · rw [hs]
      simp only [Option.bind_some]
      cases hn : s.node with
      | none => exact Ms.Led.rfl' hm _
      | some t => exact (hsub t hn).le fun x => Nat.zero_le _
theorem Ms.Led.emitR {m : Ms} (hm : m.On T) {i : Nat} {s : Sta} (hs : m.sts[i]? = some s) {sub : Ms → OutD → Ms} (o : OutD) (h1 : ∀ f ∈ o.frames, Stub f.2 ∧ ∀ p, Pk.dec f.2 = some p → p.kind = 9 → f.1 ≠ 0 ∧ T p.payload p.dest p.from_) (h2 : ∀ y ∈ o.came, T y.2 s.addr y.1)
    (hsub : ∀ m' s' t' nb, Ms.On T m' → m'.sts[i]? = some s' → s'.node = some t' → m'.Led T (sub (m'.mod i (·.run (t'.brkF m'.now nb))) (t'.brkF m'.now nb).out) (fun _ => 0)) : m.Led T (Ms.emitR sub i m o) (fun x => framN x o.frames + camN x o.came) := by
  unfold Ms.emitR
  split
  · exact Ms.Led.rfl' hm _
  · rw [hs]
    simp only
    split
    · have h3 : m.Led T (m.mod i (·.torn o)) (fun _ => 0) := by
        refine Ms.Led.mod hm (fun s => Sta.torn_addr s o) (fun s1 t1 e1 e2 => ?_) fun s1 x e1 => ?_
        · cases e2
        · exact Nat.zero_le _
      exact (h3.trans (Ms.Led.event h3.on ⟨i, 0, OutD.zero⟩ fun y hy => by cases hy)).le fun x => by simp [OutD.zero, camN]
    · have h3 : m.Led T (m.mod i (·.write o)) (fun _ => 0) := Ms.Led.mod hm (fun s => rfl) (fun s1 t1 e1 e2 => hm.idle i s1 t1 e1 e2) fun s1 x e1 => Nat.le_refl _
      have ha : ((m.mod i (·.write o)).sts.map (·.addr))[i]? = some s.addr := by rw [h3.addrs, List.getElem?_map, hs]; rfl
      have h4 := h3.trans (Ms.Led.event h3.on ⟨i, 0, o⟩ fun y hy => ⟨i, rfl, s.addr, ha, h2 y hy⟩)
      have key : ∀ (l : List (UInt32 × Str)) (m' : Ms), (∀ f ∈ l, f ∈ o.frames) → m'.On T → (∃ s', m'.sts[i]? = some s') → m'.Led T (l.foldl (Ms.frameO sub i) m') (fun x => framN x l) := by
        intro l
        induction l with
        | nil => intro m' _ hm' _; exact Ms.Led.rfl' hm' _
        | cons f l ih =>
          intro m' hl hm' ⟨s', hs'⟩
          obtain ⟨f1, f2⟩ := h1 f (hl f (by simp))
          have a1 := Ms.Led.frame hm' hs' (sub := sub) f f1 f2 fun t ht => hsub m' s' t f.1 hm' hs' ht
          have hlen : ∃ s'', (Ms.frameO sub i m' f).sts[i]? = some s'' := by
            have e1 := congrArg List.length a1.addrs
            simp only [List.length_map] at e1
            have e2 := (List.getElem?_eq_some_iff.1 hs').1
            exact ⟨_, List.getElem?_eq_getElem (by omega)⟩
          have a2 := ih (Ms.frameO sub i m' f) (fun g hg => hl g (by simp [hg])) a1.on hlen
          rw [List.foldl_cons]
          refine (a1.trans a2).le fun x => ?_
          unfold framN
          rw [List.countP_cons]
          omega
      have h5 := key o.frames ((m.mod i (·.write o)).event ⟨i, 0, o⟩) (fun f hf => hf) h4.on ⟨_, Ms.mod_at hs⟩
      exact (h4.trans h5).le fun x => by
        show 0 + camN x o.came + framN x o.frames ≤ framN x o.frames + camN x o.came
        omega
theorem Ms.Led.run_brk {m : Ms} (hm : m.On T) {i : Nat} {s : Sta} {t : Nd} (hs : m.sts[i]? = some s) (ht : s.node = some t) (nb : UInt32) : m.Led T (m.mod i (·.run (t.brkF m.now nb))) (fun _ => 0) ∧ (∀ x, waitN x (t.brkF m.now nb).wait + framN x (t.brkF m.now nb).out.frames + camN x (t.brkF m.now nb).out.came ≤ waitN x t.wait) := by
  have h1 := (hm.idle i s t hs ht).brk m.now nb
  exact ⟨Ms.Led.run hm hs ht h1 fun x => by have := h1.cnt x; omega, h1.cnt⟩
theorem out_part {o : OutD} (h : o.Pks) : ∀ f ∈ o.frames, Stub f.2 := by
  obtain ⟨l, hl⟩ := h
  intro f hf
  rw [hl] at hf
  obtain ⟨x, _, rfl⟩ := List.mem_map.1 hf
  exact Stub.out x.2
theorem Ms.Led.callR {m : Ms} (hm : m.On T) {i : Nat} {s0 : Sta} {s t : Nd} {sub : Ms → OutD → Ms} (h0 : m.sts[i]? = some s0) (hs : s0.node = some s) {k : Str → Nat} (ht : t.On T s0.addr fun x => waitN x s.wait + k x) (hp : t.out.Pks)
    (hsub : ∀ m' s' t' nb, Ms.On T m' → m'.sts[i]? = some s' → s'.node = some t' → m'.Led T (sub (m'.mod i (·.run (t'.brkF m'.now nb))) (t'.brkF m'.now nb).out) (fun _ => 0)) : m.Led T (Ms.emitR sub i (m.mod i (·.run t)) t.out) k := by
  have hon : (m.mod i (·.run t)).On T := by
    refine hm.mod (fun _ => rfl) fun s1 t1 h1 h2 => ?_
    rw [h0] at h1; cases h1
    have : t = t1 := Option.some.inj h2
    subst this
    exact ht.idle
  have h2 := Ms.Led.emitR hon (i := i) (sub := sub) (Ms.mod_at (f := (·.run t)) h0) t.out (fun f hf => ⟨out_part hp f hf, ht.frames f hf⟩) (fun y hy => by have := ht.came y hy; rw [ht.self] at this; exact this) hsub
  refine ⟨h2.addrs.trans (Ms.Kept.mod (i := i) (f := (·.run t)) fun _ => rfl).addrs, h2.on, fun x => ?_⟩
  have e1 := h2.full x
  have e2 := ht.cnt x
  have e3 := Ms.waits_mod (x := x) (f := (·.run t)) h0
  have e4 : nodW x s0 = waitN x s.wait := by unfold nodW; rw [hs]
  have e5 : nodW x (s0.run t) = waitN x t.wait := rfl
  have e6 : (m.mod i (·.run t)).full x = (m.mod i (·.run t)).waits x + airN x m.air + evN x m.evs := rfl
  have e7 : m.full x = m.waits x + airN x m.air + evN x m.evs := rfl
  omega
theorem Ms.Led.emit {m : Ms} (hm : m.On T) {i : Nat} {s0 : Sta} {s t : Nd} (h0 : m.sts[i]? = some s0) (hs : s0.node = some s) {k : Str → Nat} (ht : t.On T s0.addr fun x => waitN x s.wait + k x) (hp : t.out.Pks) : m.Led T (Ms.emit i (m.mod i (·.run t)) t.out) k := by
  refine Ms.Led.callR hm h0 hs ht hp fun m' s' t' nb hm' hs' ht' => ?_
  have hb := (hm'.idle i s' t' hs' ht').brk m'.now nb
  exact Ms.Led.callR hm' hs' ht' (hb.more fun x => Nat.le_add_right _ _) (Nd.brkF_pks _ _ _) fun m2 s2 t2 nb2 hm2 hs2 ht2 => (Ms.Led.run_brk hm2 hs2 ht2 nb2).1
theorem Ms.Led.tickN {m : Ms} (hm : m.On T) : ∀ k, m.Led T (Ms.tickN k m) (fun _ => 0)
  | 0 => Ms.Led.rfl' hm _
  | k + 1 => by
    have ih := Ms.Led.tickN hm k
    unfold Ms.tickN
    cases hs : (Ms.tickN k m).sts[k]? with
    | none => exact ih
    | some s =>
      simp only [Option.bind_some]
      cases ht : s.node with
      | none => exact ih
      | some t =>
        have h1 := (ih.on.idle k s t hs ht).tick (Ms.tickN k m).now
        exact ih.trans (Ms.Led.emit ih.on hs ht (k := fun _ => 0) (h1.more fun x => Nat.le_add_right _ _) (Nd.tickF_pks _ _))
theorem Ms.Led.air {m : Ms} (hm : m.On T) (l : List Fl) (hl : ∀ f ∈ l, Stub f.bytes ∧ Carries T f.bytes) (hn : ∀ x, airN x l ≤ airN x m.air) : m.Led T { m with air := l } (fun _ => 0) :=
  ⟨rfl, ⟨hm.idle, hl, hm.evs⟩, fun x => by have := hn x; show m.waits x + airN x l + evN x m.evs ≤ m.waits x + airN x m.air + evN x m.evs + 0; omega⟩
theorem Ms.Led.frameOp {m : Ms} (hm : m.On T) (o : OpD) (k : Nat) (hk : o.kind ≠ 6) : m.Led T (m.frame o k) (fun _ => 0) := by
  unfold Ms.frame
  cases hf : m.air[k]? with
  | none => exact Ms.Led.rfl' hm _
  | some f =>
    have hfm := hm.air f (List.mem_of_getElem? hf)
    have he : Ms.On T { m with air := m.air.eraseIdx k } := ⟨hm.idle, fun g hg => hm.air g ((List.eraseIdx_sublist _ _).subset hg), hm.evs⟩
    have hle : m.Led T { m with air := m.air.eraseIdx k } (fun _ => 0) := Ms.Led.air hm _ (fun g hg => hm.air g ((List.eraseIdx_sublist _ _).subset hg)) fun x => airN_sub (List.eraseIdx_sublist _ _)
    simp only
    split
    · cases hs : m.sts[f.dst]? with
      | none => exact hle
      | some s =>
        simp only [Option.bind_some]
        cases ht : s.node with
        | none => exact hle
        | some t =>
          have h1 := (hm.idle _ s t hs ht).rcv m.now (((m.sts[f.src]?).map fun x : Sta => x.addr).getD 0) f.bytes hfm.2
          have h2 := Ms.Led.emit (m := { m with air := m.air.eraseIdx k }) he (i := f.dst) hs ht (k := fun x => if datB x f.bytes then 1 else 0) h1 (Nd.rcvF_pks _ _ _ _)
          refine ⟨h2.addrs, h2.on, fun x => Nat.le_trans (h2.full x) ?_⟩
          have e2 := airN_erase (x := x) hf
          have e3 : Ms.full { m with air := m.air.eraseIdx k } x = m.waits x + airN x (m.air.eraseIdx k) + evN x m.evs := rfl
          have e4 : m.full x = m.waits x + airN x m.air + evN x m.evs := rfl
          omega
    · split
      · exact hle
      · split
        · have hb : (f.bytes.take (f.bytes.length - min o.n.toNat f.bytes.length) = f.bytes) ∨ Pk.dec (f.bytes.take (f.bytes.length - min o.n.toNat f.bytes.length)) = none := by
            by_cases hz : min o.n.toNat f.bytes.length = 0
            · left; rw [hz]; simp
            · right; exact hfm.1.less (by omega)
          generalize hc : f.bytes.take (f.bytes.length - min o.n.toNat f.bytes.length) = c at *
          refine Ms.Led.air hm _ (fun g hg => ?_) fun x => airN_set hf fun hd => ?_
          · rcases List.mem_or_eq_of_mem_set hg with hg | rfl
            · exact hm.air g hg
            · refine ⟨by show Stub c; rw [← hc]; exact hfm.1.take _, fun p hp hk => ?_⟩
              rcases hb with hb | hb
              · exact hfm.2 p (by rw [← hb]; exact hp) hk
              · have hp' : Pk.dec c = some p := hp
                rw [hb] at hp'; cases hp'
          · rcases hb with hb | hb
            · rw [← hb]; exact hd
            · have hd' : datB x c = true := hd
              unfold datB at hd'
              rw [hb] at hd'
              cases hd'
        · exact Ms.Led.rfl' hm _
def sends (o : OpD) : Str → Nat := fun x => if o.kind = 2 ∧ o.text = x then 1 else 0
theorem Ms.Led.nodeOp {m : Ms} (hm : m.On T) (o : OpD) (hk : o.kind = 1 ∨ o.kind = 2 ∨ o.kind = 8 ∨ o.kind = 9 ∨ o.kind = 10 ∨ o.kind = 11) (h8 : o.kind ≠ 8) (hT : ∀ (i j : Nat) a b, o.kind = 2 → o.a = i → o.b = j → (m.sts.map (·.addr))[i]? = some a → (m.sts.map (·.addr))[j]? = some b → T o.text b a) : m.Led T (m.nodeOp o) (sends o) := by
  have hev : ∀ (i e : Int), m.Led T (m.refuse i e) (sends o) := fun i e => (Ms.Led.event hm ⟨i, e, OutD.zero⟩ fun y hy => by cases hy).le fun x => by simp [OutD.zero, camN]
  cases hb : m.bars o with
  | true => rw [Ms.nodeOp_bar hb]; exact hev _ _
  | false =>
    obtain ⟨i, s, e1, hs, hw, hj⟩ := Ms.bars_false hb
    have hat : m.at_ o.a = some s := by rw [e1, m.at_nat]; exact hs
    rcases hk with hk | hk | hk | hk | hk | hk
    · rw [Ms.nodeOp_link hb hk]
      split
      · exact ⟨rfl, ⟨hm.idle, hm.air, hm.evs⟩, fun x => Nat.le_add_right _ _⟩
      · exact Ms.Led.rfl' hm _
    · obtain ⟨j, s2, e2, hs2⟩ := hj (.inr (.inl hk))
      cases ht : s.node with
      | none => rw [ht, hk] at hw; exact absurd (hw (by decide)) (fun h : true = false => by cases h)
      | some t =>
        rw [Ms.nodeOp_send hb hk hat ht (by rw [e2, m.at_nat]; exact hs2)]
        split
        · have hid := hm.idle i s t hs ht
          have h1 := hid.sendF m.now s2.addr o.text (by
            rw [hid.self]
            exact hT i j s.addr s2.addr hk e1 e2 (by rw [List.getElem?_map, hs]; rfl) (by rw [List.getElem?_map, hs2]; rfl))
          rw [e1, Int.toNat_natCast]
          refine (Ms.Led.emit hm hs ht (k := fun x => if o.text = x then 1 else 0) h1 (Nd.sendF_pks _ _ _ _)).le fun x => ?_
          unfold sends
          simp only [hk, true_and]
          exact Nat.le_refl _
        · exact hev _ _
    · exact absurd hk h8
    · rw [Ms.nodeOp_stop hb hk]
      exact Ms.Led.mod hm (fun _ => rfl) (fun s1 t1 h1 h2 => by cases h2) fun s1 x h1 => Nat.zero_le _
    · rw [Ms.nodeOp_arm hb hk]
      refine Ms.Led.mod hm (fun _ => rfl) (fun s1 t1 h1 h2 => ?_) fun s1 x h1 => Nat.le_add_right _ _
      rw [e1, Int.toNat_natCast] at h1
      exact hm.idle i s1 t1 h1 h2
    · rw [Ms.nodeOp_boot hb hk hat, e1, Int.toNat_natCast]
      have hnew := Nd.Idle.new (T := T) s.addr s.journal m.now
      have h1 : m.Led T (m.mod i (Sta.boot m.now)) (fun _ => 0) := by
        refine Ms.Led.mod hm (fun _ => rfl) (fun s1 t1 h1 h2 => ?_) fun s1 x h1 => ?_
        · rw [hs] at h1; cases h1
          have : Nd.new s.addr s.journal m.now = t1 := Option.some.inj h2
          subst this
          exact hnew.1
        · rw [hs] at h1; cases h1
          show waitN x (Nd.new s.addr s.journal m.now).wait ≤ _
          rw [hnew.2 x]; exact Nat.zero_le _
      obtain ⟨f1, f2, f3⟩ := Nd.new_frames s.addr s.journal m.now
      have h2 := Ms.Led.emitR (sub := Ms.emit0 i) h1.on (i := i) (Ms.mod_at (f := Sta.boot m.now) hs) (Nd.newO s.addr s.journal m.now) (by rw [f1]; intro f hf; cases hf) (by rw [f2]; intro f hf; cases hf) fun m' s' t' nb hm' hs' ht' => by
        have hb := (hm'.idle i s' t' hs' ht').brk m'.now nb
        exact Ms.Led.callR hm' hs' ht' (hb.more fun x => Nat.le_add_right _ _) (Nd.brkF_pks _ _ _) fun m2 s2 t2 nb2 hm2 hs2 ht2 => (Ms.Led.run_brk hm2 hs2 ht2 nb2).1
      refine (h1.trans h2).le fun x => ?_
      rw [f1, f2]
      simp [framN, camN]
theorem Ms.Led.do_ {m : Ms} (hm : m.On T) (o : OpD) (h6 : o.kind ≠ 6) (h8 : o.kind ≠ 8) (hT : ∀ (i j : Nat) a b, o.kind = 2 → o.a = i → o.b = j → (m.sts.map (·.addr))[i]? = some a → (m.sts.map (·.addr))[j]? = some b → T o.text b a) : Ms.Led T { m with evs := [] } (m.do_ o) (sends o) := by
  have h0 : Ms.On T { m with evs := [] } := ⟨hm.idle, hm.air, fun e he => by cases he⟩
  by_cases hF : o.kind = 4 ∨ o.kind = 5 ∨ o.kind = 6 ∨ o.kind = 7
  · rw [Ms.do_frame hF]
    split
    · exact (Ms.Led.frameOp h0 _ _ h6).le fun x => Nat.zero_le _
    · exact Ms.Led.rfl' h0 _
  · by_cases hK : o.kind = 3
    · rw [Ms.do_tick hK]
      split
      · have h1 : Ms.On T { m with now := m.now + UInt64.ofNat o.n.toNat, evs := [] } := ⟨hm.idle, hm.air, fun e he => by cases he⟩
        have h2 := Ms.Led.tickN h1 m.sts.length
        exact ⟨h2.addrs, h2.on, fun x => Nat.le_trans (h2.full x) (Nat.add_le_add_left (Nat.zero_le _) _)⟩
      · exact Ms.Led.rfl' h0 _
    · by_cases hN : o.kind = 1 ∨ o.kind = 2 ∨ o.kind = 8 ∨ o.kind = 9 ∨ o.kind = 10 ∨ o.kind = 11
      · rw [Ms.do_node hN]
        exact Ms.Led.nodeOp h0 o hN h8 hT
      · rw [Ms.do_none hF hK hN]
        exact Ms.Led.rfl' h0 _
theorem Ms.On.new (l : List UInt32) : (Ms.new l).On T ∧ ∀ x, (Ms.new l).full x = 0 := by
  refine ⟨⟨fun i s t hs ht => ?_, fun f hf => (by cases hf), fun e he => (by cases he)⟩, fun x => ?_⟩
  · have hs' : (l.map newSta)[i]? = some s := hs
    rw [List.getElem?_map] at hs'
    cases hq : l[i]? with
    | none => rw [hq] at hs'; cases hs'
    | some a =>
      rw [hq] at hs'; cases hs'
      have : Nd.new a [] 0 = t := Option.some.inj ht
      subst this
      exact (Nd.Idle.new a [] 0).1
  · show (Ms.new l).waits x + 0 + 0 = 0
    unfold Ms.waits
    show ((l.map newSta).map (nodW x)).sum + 0 + 0 = 0
    induction l with
    | nil => rfl
    | cons a l ih =>
      simp only [List.map_cons, List.sum_cons]
      have : nodW x (newSta a) = 0 := (Nd.Idle.new (T := fun _ _ _ => True) a [] 0).2 x
      omega
end

end Go.Proofs.YtapoehkdnglahabGreat

