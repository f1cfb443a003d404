/- A part of what Arrives needs. -/
import Derived.Test.YtapoehkdnglahabGreatArrivesGo
set_option maxHeartbeats 32000000
set_option linter.unusedVariables false
set_option linter.unusedSimpArgs false
set_option linter.unusedSectionVars false
namespace Go.Proofs.YtapoehkdnglahabGreat
section
open Go.RowKit
def Ms.hset (m : Ms) (q : Nat) (b : Bool) : Ms := { m with hears := fun k => if k = q then b else m.hears k }
theorem Ms.link_eq (m : Ms) (i j : Nat) (b : Bool) : m.link i j b = (m.hset (i * 6 + j) b).hset (j * 6 + i) b := by
 unfold Ms.link Ms.hset
 simp only
 congr 1
 funext k
 by_cases h1 : k = i * 6 + j
 ·rw [if_pos (.inl h1)]
  split
  ·rfl
  ·rfl
 ·by_cases h2 : k = j * 6 + i
  ·rw [if_pos (.inr h2), if_pos h2]
  ·rw [if_neg (fun h => h.elim h1 h2), if_neg h2, if_neg h1]
theorem hear_set (m : Ms) (h : MH) {i j : Nat} (hi : i < 6) (hj : j < 6) (b : Bool) : pasteL (mshC m h) (0 + 2 + i * 6 + j * 1) [.bool b] = some (mshC (m.hset (i * 6 + j) b) h) := by
 have a : i = 0 ∨ i = 1 ∨ i = 2 ∨ i = 3 ∨ i = 4 ∨ i = 5 := by omega
 have b : j = 0 ∨ j = 1 ∨ j = 2 ∨ j = 3 ∨ j = 4 ∨ j = 5 := by omega
 rcases a with rfl | rfl | rfl | rfl | rfl | rfl <;> rcases b with rfl | rfl | rfl | rfl | rfl | rfl <;> rfl
section
variable {P : Program} {n : Frm} {w0 : World} {E : Env} {H : HProp} {d : Option Tmp} {ty : TypeId} {pos : String} {after : Array Edge} {gu : Option (Nat × Bool)} {x y : Operand}
theorem WS_drawR3S {D : List Deferred} {Q : Exit → St → Prop} {l l' : List Oper} {F F1 F2 F3 : HProp} {id : Nat} (t t2 t3 : Nat) (b2 : Nat) (s2 : Sta) (idx : List Nat) {g off g2 off2 g3 off3 : Nat} {bt bt2 bt3 : TypeId} {cs cs2 cs3 : List Value} (hs : statD P l idx (fun _ => false) 1000 = true) (hl : permL l idx = some l') (hx : E.get t = some (ptr g off)) (hx2 : E.get t2 = some (ptr g2 off2)) (hx3 : E.get t3 = some (ptr g3 off3)) (hR : LimbB H g bt cs F1) (hR2 : LimbB F1 g2 bt2 cs2 F2) (hR3 : LimbB F2 g3 bt3 cs3 F3) (hR4 : Own F3 (staP b2 s2) F) (h : DL P n w0 l.toArray Q D (cel g bt cs * (cel g2 bt2 cs2 * (cel g3 bt3 cs3 * staP b2 s2))) emp (fun _ => false) 1000 0 false l' E F) : WS P n w0 (.region id l.toArray true) Q ⟨E, D, H⟩ :=
 WS_draw idx l' (cel g bt cs * (cel g2 bt2 cs2 * (cel g3 bt3 cs3 * staP b2 s2))) emp F _ 1000 hs (by rw [emp_star, hR.eq, hR2.eq, hR3.eq, hR4.eq, star_assoc, star_assoc, star_assoc]) (permL_eq hl) h
theorem Q_nilE {t e t2 : TypeId} (hx : E.ev x = some (.pointer none)) (hy : E.ev y = some (.pointer none)) (h : Und P t (.pointer e)) : OpQ P n w0 ⟨d, .binOp .eql t x y t2, ty, pos, after, gu⟩ E H (.bool true) := Q_bin hx hy eqlNilN
theorem Q_nilF {t e t2 : TypeId} {g off : Nat} (hx : E.ev x = some (ptr g off)) (hy : E.ev y = some (.pointer none)) (h : Und P t (.pointer e)) : OpQ P n w0 ⟨d, .binOp .eql t x y t2, ty, pos, after, gu⟩ E H (.bool false) := Q_bin hx hy eqlNilP
end
theorem Ms.at_nat (m : Ms) (i : Nat) : m.at_ (i : Int) = m.sts[i]? := by
 unfold Ms.at_
 rw [if_neg (by omega)]
 simp
theorem Ms.at_out {m : Ms} {i : Int} (h : i < 0 ∨ (m.sts.length : Int) ≤ i) : m.at_ i = none := by
 unfold Ms.at_
 split
 ·rfl
 ·exact List.getElem?_eq_none (by omega)
theorem Ms.nodeOp_bar {m : Ms} {o : OpD} (h : m.bars o = true) : m.nodeOp o = m.refuse 0 5 := by
 unfold Ms.nodeOp; rw [if_pos h]
def Sta.boot (now : UInt64) (s : Sta) : Sta := { s with node := some (Nd.new s.addr s.journal now), armed := false }
theorem Sta.Sound.boot {s : Sta} {c : Nat} (h : s.Sound c) (now : UInt64) : (s.boot now).Says (Nd.newO s.addr s.journal now) c :=
 ⟨⟨_, rfl, (Nd.new_rest _ _ _).mono (Nat.zero_le _), Nd.new_self _ _ _, Nd.new_joins _ _ _, Nd.new_ne _ _ _⟩, h.jour, h.tear⟩
def Sta.arm (n : Int) (s : Sta) : Sta := { s with armed := true, tear := max 0 n }
theorem Ms.nodeOp_link {m : Ms} {o : OpD} (hb : m.bars o = false) (hk : o.kind = 1) : m.nodeOp o = if o.a ≠ o.b then m.link o.a.toNat o.b.toNat o.on else m := by
 unfold Ms.nodeOp
 rw [hb, if_neg (by decide), if_pos hk]
theorem Ms.nodeOp_send {m : Ms} {o : OpD} {s s2 : Sta} {t : Nd} (hb : m.bars o = false) (hk : o.kind = 2) (h1 : m.at_ o.a = some s) (ht : s.node = some t) (h2 : m.at_ o.b = some s2) : m.nodeOp o = if t.sendE s2.addr o.text = 0 then Ms.emit o.a.toNat (m.mod o.a.toNat (·.run (t.sendF m.now s2.addr o.text))) (t.sendF m.now s2.addr o.text).out else m.refuse o.a (t.sendE s2.addr o.text) := by
 unfold Ms.nodeOp
 rw [hb, if_neg (by decide), if_neg (by rw [hk]; decide), if_pos hk, h1, h2]
 simp only [Option.bind_some, ht]
 unfold Nd.sendE
 by_cases h16 : 16 < o.text.length
 ·rw [if_pos h16, if_pos h16, if_neg (by decide)]
 ·rw [if_neg h16, if_neg h16]
  by_cases h0 : s2.addr = t.self ∨ s2.addr = 0
  ·rw [if_pos h0, if_pos h0, if_neg (by decide)]
  ·rw [if_neg h0, if_neg h0, if_pos rfl]
theorem Ms.nodeOp_rcv {m : Ms} {o : OpD} {s s2 : Sta} {t : Nd} (hb : m.bars o = false) (hk : o.kind = 8) (h1 : m.at_ o.a = some s) (ht : s.node = some t) (h2 : m.at_ o.b = some s2) : m.nodeOp o = Ms.emit o.a.toNat (m.mod o.a.toNat (·.run (t.rcvF m.now s2.addr o.text))) (t.rcvF m.now s2.addr o.text).out := by
 unfold Ms.nodeOp
 rw [hb, if_neg (by decide), if_neg (by rw [hk]; decide), if_neg (by rw [hk]; decide), if_pos hk, h1, h2]
 simp only [Option.bind_some, ht]
theorem Ms.nodeOp_stop {m : Ms} {o : OpD} (hb : m.bars o = false) (hk : o.kind = 9) : m.nodeOp o = m.mod o.a.toNat Sta.stop := by
 unfold Ms.nodeOp
 rw [hb, if_neg (by decide), if_neg (by rw [hk]; decide), if_neg (by rw [hk]; decide), if_neg (by rw [hk]; decide), if_pos hk]
theorem Ms.nodeOp_arm {m : Ms} {o : OpD} (hb : m.bars o = false) (hk : o.kind = 10) : m.nodeOp o = m.mod o.a.toNat (Sta.arm o.n) := by
 unfold Ms.nodeOp
 rw [hb, if_neg (by decide), if_neg (by rw [hk]; decide), if_neg (by rw [hk]; decide), if_neg (by rw [hk]; decide), if_neg (by rw [hk]; decide), if_pos hk]
 rfl
theorem Ms.nodeOp_boot {m : Ms} {o : OpD} {s : Sta} (hb : m.bars o = false) (hk : o.kind = 11) (h1 : m.at_ o.a = some s) : m.nodeOp o = Ms.emit o.a.toNat (m.mod o.a.toNat (Sta.boot m.now)) (Nd.newO s.addr s.journal m.now) := by
 unfold Ms.nodeOp
 rw [hb, if_neg (by decide), if_neg (by rw [hk]; decide), if_neg (by rw [hk]; decide), if_neg (by rw [hk]; decide), if_neg (by rw [hk]; decide), if_neg (by rw [hk]; decide), h1]
 rfl
theorem Ms.bars_false {m : Ms} {o : OpD} (h : m.bars o = false) : ∃ i s, o.a = ((i : Nat) : Int) ∧ m.sts[i]? = some s ∧ (o.kind ≠ 1 → s.node.isNone = decide (o.kind = 11)) ∧ (o.kind = 1 ∨ o.kind = 2 ∨ o.kind = 8 → ∃ j s2, o.b = ((j : Nat) : Int) ∧ m.sts[j]? = some s2) := by
 unfold Ms.bars at h
 rw [Bool.or_eq_false_iff, Bool.or_eq_false_iff] at h
 obtain ⟨⟨h1, h2⟩, h3⟩ := h
 have hin : ∀ x : Int, (m.at_ x).isNone = false → ∃ i s, x = ((i : Nat) : Int) ∧ m.sts[i]? = some s := fun x hx => by
  unfold Ms.at_ at hx
  split at hx
  ·cases hx
  ·obtain ⟨s, hs⟩ := Option.isSome_iff_exists.1 (by simpa using hx : (m.sts[x.toNat]?).isSome = true)
   exact ⟨x.toNat, s, by omega, hs⟩
 obtain ⟨i, s, e1, e2⟩ := hin _ h1
 refine ⟨i, s, e1, e2, fun hk => ?_, fun hk => ?_⟩
 ·rw [e1, m.at_nat, e2, decide_eq_false hk] at h3
  simpa using h3
 ·apply hin
  rcases hk with hk | hk | hk
  ·rw [hk] at h2; simpa using h2
  ·rw [hk] at h2; simpa using h2
  ·rw [hk] at h2; simpa using h2
attribute [local irreducible] WS LS OpQ OpT OpH OpTQ Spec SpecQ cel
variable (w0 : World)
theorem stationG_spec (g : Nat) (m : Ms) (h : MH) (i : Int) (hl : h.bs.length ≤ 6) : ∃ vb, (vb = .pointer none ∨ ∃ b2, vb = ptr b2 0) ∧ Spec Tryz.prog w0 43 [ptr g 0, .int .i64 i] (cel g 108 (mshC m h) * rows 115 1 ptrC h.vs h.bs) (fun _ : Unit => vb) (fun _ => cel g 108 (mshC m h) * rows 115 1 ptrC h.vs h.bs) := by
 by_cases hi : i < 0 ∨ (h.bs.length : Int) ≤ i
 ·exact ⟨_, .inl rfl, stationNo_spec w0 g m h i hi hl⟩
 ·obtain ⟨j, rfl⟩ : ∃ j : Nat, i = (j : Int) := ⟨i.toNat, by omega⟩
  obtain ⟨b, hb⟩ : ∃ b, h.bs[j]? = some b := ⟨_, List.getElem?_eq_getElem (by omega)⟩
  exact ⟨_, .inr ⟨b, rfl⟩, station_spec w0 g m h j b hb hl⟩
set_option maxRecDepth 100000 in
theorem mnodeBar_spec (gm : Nat) (k : MH) (m : Ms) (el : List ES) (o : OpD) (c : Nat) (hf : m.Fine c) (hk : o.kind = 1 ∨ o.kind = 2 ∨ o.kind = 8 ∨ o.kind = 9 ∨ o.kind = 10 ∨ o.kind = 11) (hev : m.evs = []) (hbar : m.bars o = true) : Spec Tryz.prog w0 41 [ptr gm 0, opA o] (mshA gm k m el) (fun _ : List ES => .tuple #[]) (fun new => mshA gm k (m.refuse 0 5) (el ++ new) * evsO new) := by
  obtain ⟨kind, oa, ob, on_, oo, ot⟩ := o
  simp only at hk
  have h6 := hf.short
  refine Spec.enter Tryz.func41 rfl Tryz.ntmps41 rfl fun G => ?_
  refine WS_msh fun va ve hel => ?_
  refine WS_mlen fun hbl => ?_
  have hell : el.length = 0 := by
    have := congrArg List.length hel
    rw [hev] at this
    simpa using this
  have p3 := refuse_spec w0 gm m ⟨k.vs, k.bs, k.r, va, ve⟩ el 0 5 (by omega)
  obtain ⟨vb, hvb, p2⟩ := stationG_spec w0 gm m ⟨k.vs, k.bs, k.r, va, ve⟩ ob (by show k.bs.length ≤ 6; omega)
  simp only [opA, opC, argE]
  by_cases ha : oa < 0 ∨ (k.bs.length : Int) ≤ oa
  · have hno : m.nodeOp ⟨kind, oa, ob, on_, oo, ot⟩ = m.refuse 0 5 := Ms.nodeOp_bar (by unfold Ms.bars; simp only; rw [Ms.at_out (by omega)]; rfl)
    have p1 := stationNo_spec w0 gm m ⟨k.vs, k.bs, k.r, va, ve⟩ oa ha (by show k.bs.length ≤ 6; omega)
    simp only [mshP, mshC] at p1 p2 p3 ⊢
    repeat' (first | ((refine' DL_q rfl rfl ?zh ?_); case zh => intro F'; exact Q_nilE rfl rfl iI) | (show WS _ _ _ (.region 3 _ true) _ _; refine WS_drawA (.range 25) (by decide +kernel) rfl ?_) | (refine WS_seqK ?_; intro K hK) | (refine hK _ ?_; clear hK K) | refine stZ ?_ | (refine s2Z ?_ ?_ <;> intro hc <;> (try simp only [cS] at hc) <;> (try (exfalso; first | contradiction | omega))) | refine sqZ ?_ | ((first | refine LS_binS rfl rfl iI rfl ?_ ?_ | refine LS_binN rfl rfl iI rfl ?_ ?_ | refine DL_binS rfl rfl iI rfl ?_ ?_) <;> intro hc) | (refine shZ ?_; intro g) | (show WS _ _ _ (.region 1 _ true) _ _; refine WS_drawRL 3 [0, 1, 2, 4, 5, 6, 3, 7, 8, 9] 6 [] (by decide +kernel) rfl rfl iI ?_) | (refine DL_h (H_callX iI rfl p1 iI) rfl rfl rfl ?_; intro u1) | (refine DL_h (H_callX iI rfl p2 iI) rfl rfl rfl ?_; intro u2) | (refine LS_h (H_callX iI rfl p3 iI) rfl ?_; intro ve2))
    all_goals
      refine ret_none (.inl rfl) rfl ⟨[evBare 0 5], rfl, ?_⟩
      rw [star_assoc (mshA _ _ _ _)]
      refine Ent.msh (m := m.refuse 0 5) va ve2 (by rw [List.map_append, hel]; rfl) ?_
      simp only [mshP, mshC, staB, staC, Ms.refuse, Ms.event, evsO, evO, outR, evBare, svV, slV', OutD.zero, star_emp]
      exact finE
  obtain ⟨i, rfl⟩ : ∃ i : Nat, oa = (i : Int) := ⟨oa.toNat, by omega⟩
  have hi : i < k.bs.length := by omega
  obtain ⟨b, hb⟩ : ∃ b, k.bs[i]? = some b := ⟨_, List.getElem?_eq_getElem hi⟩
  obtain ⟨s, hs⟩ : ∃ s, m.sts[i]? = some s := ⟨_, List.getElem?_eq_getElem (by omega)⟩
  have hat : m.at_ (i : Int) = some s := (m.at_nat i).trans hs
  have hso := hf.sound i s hs
  have p1 := station_spec w0 gm m ⟨k.vs, k.bs, k.r, va, ve⟩ i b hb (by show k.bs.length ≤ 6; omega)
  clear ha
  -- a node that is wanted and is not there, or is there and is not wanted
  by_cases hw : kind ≠ 1 ∧ (s.node.isNone != decide (kind = 11)) = true
  · have hno : m.nodeOp ⟨kind, (i : Int), ob, on_, oo, ot⟩ = m.refuse 0 5 := Ms.nodeOp_bar (by
      unfold Ms.bars
      simp only
      rw [hat]
      simp only [Option.bind_some, hw.2, Bool.and_true, decide_eq_false hw.1, Bool.not_false, Bool.or_true])
    obtain ⟨R, e1, e2⟩ := stas_open hbl hb hs
    refine WS_sta e1 fun gn vj => ?_
    unfold mshS
    obtain ⟨hw1, hw2⟩ := hw
    simp only [mshC] at p1 p2 p3
    simp only [mshC, staB, staC]
    cases ht : s.node with
    | none =>
      rw [ht] at hw2
      have hk11 : ¬ kind = 11 := fun e => by rw [decide_eq_true e] at hw2; cases hw2
      simp only [ptrN, staN]
      rcases hvb with rfl | ⟨b2, rfl⟩
      all_goals
        repeat' (first | ((first | refine' DL_q rfl rfl ?zh ?_ | refine' DL_qg rfl rfl rfl ?zh ?_); case zh => intro F'; first | exact Q_nilE rfl rfl iI | exact Q_nilF rfl rfl iI) | (show WS _ _ _ (.region 3 _ true) _ _; refine WS_drawA (.range 25) (by decide +kernel) rfl ?_) | (refine WS_seqK ?_; intro K hK) | (refine hK _ ?_; clear hK K) | refine stZ ?_ | (refine s2Z ?_ ?_ <;> intro hc <;> (try simp only [cS] at hc) <;> (try (exfalso; first | contradiction | omega))) | refine sqZ ?_ | ((first | refine' LQ ?zh rfl ?_ | refine' DL_q rfl rfl ?zh ?_ | refine' DL_qg rfl rfl rfl ?zh ?_); case zh => intro F'; first | exact Q_bin_f rfl rfl iI (by first | assumption | omega | decide | rfl) | exact Q_bin_nt rfl rfl iI (by first | assumption | omega | decide | rfl)) | ((first | refine LS_binS rfl rfl iI rfl ?_ ?_ | refine LS_binN rfl rfl iI rfl ?_ ?_ | refine DL_binS rfl rfl iI rfl ?_ ?_) <;> intro hc) | (refine shZ ?_; intro g) | (show WS _ _ _ (.region 1 _ true) _ _; refine WS_drawRL 3 [0, 1, 2, 4, 5, 6, 3, 7, 8, 9] 6 [] (by decide +kernel) rfl rfl iI ?_) | (refine DL_h (H_callX iI rfl p1 iI) rfl rfl rfl ?_; intro u1) | (refine DL_h (H_callX iI rfl p2 iI) rfl rfl rfl ?_; intro u2) | (refine LS_h (H_callX iI rfl p3 iI) rfl ?_; intro ve2))
        all_goals
          refine ret_none (.inl rfl) rfl ⟨[evBare 0 5], rfl, ?_⟩
          rw [star_assoc (mshA _ _ _ _)]
          refine Ent.msh (m := m.refuse 0 5) va ve2 (by rw [List.map_append, hel]; rfl) ?_
          refine Ent.sta (m := m.refuse 0 5) gn vj e1 ?_
          unfold mshS
          simp only [mshP, mshC, staB, staC, ht, ptrN, staN, Ms.refuse, Ms.event, evsO, evO, outR, evBare, svV, slV', OutD.zero, star_emp]
          exact finE
    | some t =>
      rw [ht] at hw2
      have hk11 : kind = 11 := by
        by_cases e : kind = 11
        · exact e
        · rw [decide_eq_false e] at hw2; cases hw2
      subst hk11
      simp only [ptrN, staN]
      rcases hvb with rfl | ⟨b2, rfl⟩
      all_goals
        repeat' (first | ((first | refine' DL_q rfl rfl ?zh ?_ | refine' DL_qg rfl rfl rfl ?zh ?_); case zh => intro F'; exact Q_nilF rfl rfl iI) | (show WS _ _ _ (.region 3 _ true) _ _; refine WS_drawA (.range 25) (by decide +kernel) rfl ?_) | (refine WS_seqK ?_; intro K hK) | (refine hK _ ?_; clear hK K) | refine stZ ?_ | (refine s2Z ?_ ?_ <;> intro hc <;> (try simp only [cS] at hc) <;> (try (exfalso; first | contradiction | omega))) | refine sqZ ?_ | ((first | refine' LQ ?zh rfl ?_ | refine' DL_q rfl rfl ?zh ?_ | refine' DL_qg rfl rfl rfl ?zh ?_); case zh => intro F'; first | exact Q_bin_t rfl rfl iI (by first | assumption | omega | decide | rfl) | exact Q_bin_f rfl rfl iI (by first | assumption | omega | decide | rfl) | exact Q_bin_nt rfl rfl iI (by first | assumption | omega | decide | rfl)) | (refine shZ ?_; intro g) | (show WS _ _ _ (.region 1 _ true) _ _; refine WS_drawRL 3 [0, 1, 2, 4, 5, 6, 3, 7, 8, 9] 6 [] (by decide +kernel) rfl rfl iI ?_) | (refine DL_h (H_callX iI rfl p1 iI) rfl rfl rfl ?_; intro u1) | (refine DL_h (H_callX iI rfl p2 iI) rfl rfl rfl ?_; intro u2) | (refine LS_h (H_callX iI rfl p3 iI) rfl ?_; intro ve2))
        all_goals
          refine ret_none (.inl rfl) rfl ⟨[evBare 0 5], rfl, ?_⟩
          rw [star_assoc (mshA _ _ _ _)]
          refine Ent.msh (m := m.refuse 0 5) va ve2 (by rw [List.map_append, hel]; rfl) ?_
          refine Ent.sta (m := m.refuse 0 5) gn vj e1 ?_
          unfold mshS
          simp only [mshP, mshC, staB, staC, ht, ptrN, staN, Ms.refuse, Ms.event, evsO, evO, outR, evBare, svV, slV', OutD.zero, star_emp]
          exact finE
  -- the other node is wanted and is not there
  by_cases hbo : (kind = 1 ∨ kind = 2 ∨ kind = 8) ∧ (ob < 0 ∨ (k.bs.length : Int) ≤ ob)
  · obtain ⟨hk2, hbo⟩ := hbo
    clear p2
    have p2 := stationNo_spec w0 gm m ⟨k.vs, k.bs, k.r, va, ve⟩ ob hbo (by show k.bs.length ≤ 6; omega)
    simp only [mshP, mshC] at p1 p2 p3 ⊢
    repeat' (first | ((first | refine' DL_q rfl rfl ?zh ?_ | refine' DL_qg rfl rfl rfl ?zh ?_); case zh => intro F'; first | exact Q_nilE rfl rfl iI | exact Q_nilF rfl rfl iI) | (show WS _ _ _ (.region 3 _ true) _ _; refine WS_drawA (.range 25) (by decide +kernel) rfl ?_) | (refine WS_seqK ?_; intro K hK) | (refine hK _ ?_; clear hK K) | refine stZ ?_ | (refine s2Z ?_ ?_ <;> intro hc <;> (try simp only [cS] at hc) <;> (try (exfalso; first | contradiction | omega))) | refine sqZ ?_ | ((first | refine' LQ ?zh rfl ?_ | refine' DL_q rfl rfl ?zh ?_ | refine' DL_qg rfl rfl rfl ?zh ?_); case zh => intro F'; exact Q_bin_t rfl rfl iI (by first | assumption | omega | decide | rfl)) | ((first | refine LS_binS rfl rfl iI rfl ?_ ?_ | refine LS_binN rfl rfl iI rfl ?_ ?_ | refine DL_binS rfl rfl iI rfl ?_ ?_) <;> intro hc) | (refine shZ ?_; intro g) | (show WS _ _ _ (.region 1 _ true) _ _; refine WS_drawRL 3 [0, 1, 2, 4, 5, 6, 3, 7, 8, 9] 6 [] (by decide +kernel) rfl rfl iI ?_) | (refine DL_h (H_callX iI rfl p1 iI) rfl rfl rfl ?_; intro u1) | (refine DL_h (H_callX iI rfl p2 iI) rfl rfl rfl ?_; intro u2) | (refine LS_h (H_callX iI rfl p3 iI) rfl ?_; intro ve2))
    all_goals
      refine ret_none (.inl rfl) rfl ⟨[evBare 0 5], rfl, ?_⟩
      rw [star_assoc (mshA _ _ _ _)]
      refine Ent.msh (m := m.refuse 0 5) va ve2 (by rw [List.map_append, hel]; rfl) ?_
      simp only [mshP, mshC, staB, staC, Ms.refuse, Ms.event, evsO, evO, outR, evBare, svV, slV', OutD.zero, star_emp]
      exact finE
  -- what is not barred
  have hbars : m.bars ⟨kind, (i : Int), ob, on_, oo, ot⟩ = false := by
    unfold Ms.bars
    simp only
    rw [hat]
    simp only [Option.isNone_some, Bool.false_or, Option.bind_some]
    have h1 : ((decide (kind = 1) || decide (kind = 2) || decide (kind = 8)) && (m.at_ ob).isNone) = false := by
      by_cases e : kind = 1 ∨ kind = 2 ∨ kind = 8
      · have hr : ¬ (ob < 0 ∨ (k.bs.length : Int) ≤ ob) := fun h => hbo ⟨e, h⟩
        obtain ⟨j, rfl⟩ : ∃ j : Nat, ob = (j : Int) := ⟨ob.toNat, by omega⟩
        rw [m.at_nat, List.getElem?_eq_getElem (show j < m.sts.length by omega)]
        simp
      · rw [decide_eq_false (fun h => e (.inl h)), decide_eq_false (fun h => e (.inr (.inl h))), decide_eq_false (fun h => e (.inr (.inr h)))]; rfl
    rw [h1, Bool.false_or]
    by_cases e : kind = 1
    · rw [decide_eq_true e]; rfl
    · cases hv : (s.node.isNone != decide (kind = 11)) with
      | false => rw [Bool.and_false]
      | true => exact absurd ⟨e, hv⟩ hw
  rw [hbars] at hbar
  cases hbar
set_option maxRecDepth 100000 in
theorem mlink_spec (gm : Nat) (k : MH) (m : Ms) (el : List ES) (o : OpD) (c : Nat) (hf : m.Fine c) (hev : m.evs = []) (hbars : m.bars o = false) (hk : o.kind = 1) : Spec Tryz.prog w0 41 [ptr gm 0, opA o] (mshA gm k m el) (fun _ : List ES => .tuple #[]) (fun new => mshA gm k (m.nodeOp o) (el ++ new) * evsO new) := by
  obtain ⟨i, s, ei, hs, hw, hjb⟩ := Ms.bars_false hbars
  obtain ⟨kind, oa, ob, on_, oo, ot⟩ := o
  simp only at hk ei hw hjb
  subst hk
  subst ei
  have h6 := hf.short
  refine Spec.enter Tryz.func41 rfl Tryz.ntmps41 rfl fun G => ?_
  refine WS_msh fun va ve hel => ?_
  refine WS_mlen fun hbl => ?_
  have hell : el.length = 0 := by
    have := congrArg List.length hel
    rw [hev] at this
    simpa using this
  have hi := (List.getElem?_eq_some_iff.1 hs).1
  obtain ⟨b, hb⟩ : ∃ b, k.bs[i]? = some b := ⟨_, List.getElem?_eq_getElem (by omega)⟩
  have hat : m.at_ (i : Int) = some s := (m.at_nat i).trans hs
  have hso := hf.sound i s hs
  have p1 := station_spec w0 gm m ⟨k.vs, k.bs, k.r, va, ve⟩ i b hb (by show k.bs.length ≤ 6; omega)
  simp only [opA, opC, argE]
  obtain ⟨j, s2, ej, hs2⟩ := hjb (.inl rfl)
  subst ej
  have hj := (List.getElem?_eq_some_iff.1 hs2).1
  obtain ⟨b2, hb2⟩ : ∃ b, k.bs[j]? = some b := ⟨_, List.getElem?_eq_getElem (by omega)⟩
  have hat2 : m.at_ (j : Int) = some s2 := (m.at_nat j).trans hs2
  have p2 := station_spec w0 gm m ⟨k.vs, k.bs, k.r, va, ve⟩ j b2 hb2 (by show k.bs.length ≤ 6; omega)
  rw [Ms.nodeOp_link hbars rfl]
  simp only [Int.toNat_natCast]
  by_cases hij : (i : Int) = (j : Int)
  · rw [if_neg (fun h => h hij)]
    simp only [mshP, mshC] at p1 p2 ⊢
    repeat' (first | ((first | refine' DL_q rfl rfl ?zh ?_ | refine' DL_qg rfl rfl rfl ?zh ?_); case zh => intro F'; exact Q_nilF rfl rfl iI) | (show WS _ _ _ (.region 3 _ true) _ _; refine WS_drawA (.range 25) (by decide +kernel) rfl ?_) | (refine WS_seqK ?_; intro K hK) | (refine hK _ ?_; clear hK K) | refine stZ ?_ | (refine s2Z ?_ ?_ <;> intro hc <;> (try simp only [cS] at hc) <;> (try (exfalso; first | contradiction | omega))) | refine sqZ ?_ | ((first | refine' LQ ?zh rfl ?_ | refine' DL_q rfl rfl ?zh ?_ | refine' DL_qg rfl rfl rfl ?zh ?_); case zh => intro F'; first | exact Q_bin_t rfl rfl iI (by first | assumption | omega | decide | rfl) | exact Q_bin_nf rfl rfl iI (by first | assumption | omega | decide | rfl)) | (refine shZ ?_; intro g) | (show WS _ _ _ (.region 1 _ true) _ _; refine WS_drawRL 3 [0, 1, 2, 4, 5, 6, 3, 7, 8, 9] 6 [] (by decide +kernel) rfl rfl iI ?_) | (refine DL_h (H_callX iI rfl p1 iI) rfl rfl rfl ?_; intro u1) | (refine DL_h (H_callX iI rfl p2 iI) rfl rfl rfl ?_; intro u2))
    refine ret_none (.inr rfl) rfl ⟨[], rfl, ?_⟩
    rw [List.append_nil, star_assoc (mshA _ _ _ _)]
    refine Ent.msh va ve hel ?_
    simp only [mshP, mshC, evsO, emp_star]
    exact finE
  · rw [if_pos hij, Ms.link_eq]
    have hi6 : i < 6 := by omega
    have hj6 : j < 6 := by omega
    have q1 := hear_set m ⟨k.vs, k.bs, k.r, va, ve⟩ hi6 hj6 oo
    have q2 := hear_set (m.hset (i * 6 + j) oo) ⟨k.vs, k.bs, k.r, va, ve⟩ hj6 hi6 oo
    simp only [mshP]
    simp only at p1 p2
    repeat' (first | ((first | refine' DL_q rfl rfl ?zh ?_ | refine' DL_qg rfl rfl rfl ?zh ?_); case zh => intro F'; exact Q_nilF rfl rfl iI) | (show WS _ _ _ (.region 3 _ true) _ _; refine WS_drawA (.range 25) (by decide +kernel) rfl ?_) | (refine WS_seqK ?_; intro K hK) | (refine hK _ ?_; clear hK K) | refine stZ ?_ | (refine s2Z ?_ ?_ <;> intro hc <;> (try simp only [cS] at hc) <;> (try (exfalso; first | contradiction | omega))) | refine sqZ ?_ | ((first | refine' LQ ?zh rfl ?_ | refine' DL_q rfl rfl ?zh ?_ | refine' DL_qg rfl rfl rfl ?zh ?_); case zh => intro F'; first | exact Q_bin_t rfl rfl iI (by first | assumption | omega | decide | rfl) | exact Q_bin_nt rfl rfl iI (by first | assumption | omega | decide | rfl) | exact Q_bin_nf rfl rfl iI (by first | assumption | omega | decide | rfl)) | (refine shZ ?_; intro g) | (show WS _ _ _ (.region 1 _ true) _ _; refine WS_drawRL 3 [0, 1, 2, 4, 5, 6, 3, 7, 8, 9] 6 [] (by decide +kernel) rfl rfl iI ?_) | (refine DL_h (H_callX iI rfl p1 iI) rfl rfl rfl ?_; intro u1) | (refine DL_h (H_callX iI rfl p2 iI) rfl rfl rfl ?_; intro u2) | (show WS _ _ _ (.region 8 _ true) _ _; refine WS_drawRL 3 [0, 1, 2, 3, 4, 5, 6, 7, 8, 9, 10, 11, 12, 13, 14, 15, 16, 17, 19, 20, 21, 18, 22, 23] 21 [] (by decide +kernel) rfl rfl iI ?_) | (refine' DL_q rfl rfl ?zh ?_; (case zh => intro F'; exact Q_indexArr rfl rfl iI iI iI (by assumption))) | (refine' DL_h0 ?zh rfl rfl ?_; (case zh => first | exact H_store rfl rfl iI rfl iI q1 | exact H_store rfl rfl iI rfl iI q2); intro g))
    refine ret_none (.inr rfl) rfl ⟨[], rfl, ?_⟩
    rw [List.append_nil, star_assoc (mshA _ _ _ _)]
    refine Ent.msh va ve hel ?_
    rw [show mshP gm ((m.hset (i * 6 + j) oo).hset (j * 6 + i) oo) ⟨k.vs, k.bs, k.r, va, ve⟩ el = cel gm 108 (mshC ((m.hset (i * 6 + j) oo).hset (j * 6 + i) oo) ⟨k.vs, k.bs, k.r, va, ve⟩) * (rows 115 1 ptrC k.vs k.bs * (mp u32 i64 k.r (amap 0 m.sts) * (stasQ k.bs m.sts * (rows 114 3 flC va m.air * rows 68 7 evC ve el)))) from rfl]
    simp only [evsO, emp_star]
    exact finE
set_option maxRecDepth 100000 in
theorem mstop_spec (gm : Nat) (k : MH) (m : Ms) (el : List ES) (o : OpD) (c : Nat) (hf : m.Fine c) (hev : m.evs = []) (hbars : m.bars o = false) (hk : o.kind = 9) : Spec Tryz.prog w0 41 [ptr gm 0, opA o] (mshA gm k m el) (fun _ : List ES => .tuple #[]) (fun new => mshA gm k (m.nodeOp o) (el ++ new) * evsO new) := by
  obtain ⟨i, s, ei, hs, hw, hjb⟩ := Ms.bars_false hbars
  obtain ⟨kind, oa, ob, on_, oo, ot⟩ := o
  simp only at hk ei hw hjb
  subst hk
  subst ei
  have h6 := hf.short
  refine Spec.enter Tryz.func41 rfl Tryz.ntmps41 rfl fun G => ?_
  refine WS_msh fun va ve hel => ?_
  refine WS_mlen fun hbl => ?_
  have hell : el.length = 0 := by
    have := congrArg List.length hel
    rw [hev] at this
    simpa using this
  have hi := (List.getElem?_eq_some_iff.1 hs).1
  obtain ⟨b, hb⟩ : ∃ b, k.bs[i]? = some b := ⟨_, List.getElem?_eq_getElem (by omega)⟩
  have hat : m.at_ (i : Int) = some s := (m.at_nat i).trans hs
  have hso := hf.sound i s hs
  have p1 := station_spec w0 gm m ⟨k.vs, k.bs, k.r, va, ve⟩ i b hb (by show k.bs.length ≤ 6; omega)
  simp only [opA, opC, argE]
  obtain ⟨vb, hvb, p2⟩ := stationG_spec w0 gm m ⟨k.vs, k.bs, k.r, va, ve⟩ ob (by show k.bs.length ≤ 6; omega)
  cases ht : s.node with
  | none => rw [ht] at hw; exact absurd (hw (by decide)) (fun h : true = false => by cases h)
  | some t =>
    rw [Ms.nodeOp_stop hbars rfl]
    simp only [Int.toNat_natCast]
    obtain ⟨R, e1, e2⟩ := stas_open hbl hb hs
    refine WS_sta e1 fun gn vj => ?_
    unfold mshS
    have p4 := ststop_spec w0 b gn vj s
    simp only [mshC, staB, staC, Sta.stop, ht, ptrN, staN] at p1 p2 p4 ⊢
    repeat' (first | ((first | refine' DL_q rfl rfl ?zh ?_ | refine' DL_qg rfl rfl rfl ?zh ?_); case zh => intro F'; exact Q_nilF rfl rfl iI) | (show WS _ _ _ (.region 3 _ true) _ _; refine WS_drawA (.range 25) (by decide +kernel) rfl ?_) | (refine WS_seqK ?_; intro K hK) | (refine hK _ ?_; clear hK K) | refine stZ ?_ | (refine s2Z ?_ ?_ <;> intro hc <;> (try simp only [cS] at hc) <;> (try (exfalso; first | contradiction | omega))) | refine sqZ ?_ | ((first | refine' LQ ?zh rfl ?_ | refine' DL_q rfl rfl ?zh ?_ | refine' DL_qg rfl rfl rfl ?zh ?_); case zh => intro F'; first | exact Q_bin_t rfl rfl iI (by first | assumption | omega | decide | rfl) | exact Q_bin_f rfl rfl iI (by first | assumption | omega | decide | rfl) | exact Q_bin_nt rfl rfl iI (by first | assumption | omega | decide | rfl) | exact Q_bin_nf rfl rfl iI (by first | assumption | omega | decide | rfl)) | (refine shZ ?_; intro g) | (show WS _ _ _ (.region 1 _ true) _ _; refine WS_drawRL 3 [0, 1, 2, 4, 5, 6, 3, 7, 8, 9] 6 [] (by decide +kernel) rfl rfl iI ?_) | (refine DL_h (H_callX iI rfl p1 iI) rfl rfl rfl ?_; intro u1) | (refine DL_h (H_callX iI rfl p2 iI) rfl rfl rfl ?_; intro u2) | (refine LS_h (H_callX iI rfl p4 iI) rfl ?_; intro u4))
    refine ret_none (.inr rfl) rfl ⟨[], rfl, ?_⟩
    rw [List.append_nil, star_assoc (mshA _ _ _ _)]
    refine Ent.msh (m := m.mod i Sta.stop) va ve hel ?_
    refine Ent.sta (m := m.mod i Sta.stop) gn vj (e2 Sta.stop) ?_
    unfold mshS
    rw [show amap 0 (m.mod i Sta.stop).sts = amap 0 m.sts from amap_mod m i fun _ => rfl]
    simp only [mshC, Ms.mod, staB, staC, Sta.stop, ptrN, staN, evsO, emp_star]
    exact finE
set_option maxRecDepth 100000 in
theorem marm_spec (gm : Nat) (k : MH) (m : Ms) (el : List ES) (o : OpD) (c : Nat) (hf : m.Fine c) (hon : o.n ≤ 9223372036854775807) (hev : m.evs = []) (hbars : m.bars o = false) (hk : o.kind = 10) : Spec Tryz.prog w0 41 [ptr gm 0, opA o] (mshA gm k m el) (fun _ : List ES => .tuple #[]) (fun new => mshA gm k (m.nodeOp o) (el ++ new) * evsO new) := by
  obtain ⟨i, s, ei, hs, hw, hjb⟩ := Ms.bars_false hbars
  obtain ⟨kind, oa, ob, on_, oo, ot⟩ := o
  simp only at hk ei hw hjb hon
  subst hk
  subst ei
  have h6 := hf.short
  refine Spec.enter Tryz.func41 rfl Tryz.ntmps41 rfl fun G => ?_
  refine WS_msh fun va ve hel => ?_
  refine WS_mlen fun hbl => ?_
  have hell : el.length = 0 := by
    have := congrArg List.length hel
    rw [hev] at this
    simpa using this
  have hi := (List.getElem?_eq_some_iff.1 hs).1
  obtain ⟨b, hb⟩ : ∃ b, k.bs[i]? = some b := ⟨_, List.getElem?_eq_getElem (by omega)⟩
  have hat : m.at_ (i : Int) = some s := (m.at_nat i).trans hs
  have hso := hf.sound i s hs
  have p1 := station_spec w0 gm m ⟨k.vs, k.bs, k.r, va, ve⟩ i b hb (by show k.bs.length ≤ 6; omega)
  simp only [opA, opC, argE]
  obtain ⟨vb, hvb, p2⟩ := stationG_spec w0 gm m ⟨k.vs, k.bs, k.r, va, ve⟩ ob (by show k.bs.length ≤ 6; omega)
  cases ht : s.node with
  | none => rw [ht] at hw; exact absurd (hw (by decide)) (fun h : true = false => by cases h)
  | some t =>
    rw [Ms.nodeOp_arm hbars rfl]
    simp only [Int.toNat_natCast]
    obtain ⟨R, e1, e2⟩ := stas_open hbl hb hs
    refine WS_sta e1 fun gn vj => ?_
    unfold mshS
    simp only [mshC] at p1 p2
    simp only [mshC, staB, staC, ht, ptrN, staN]
    repeat' (first | ((first | refine' DL_q rfl rfl ?zh ?_ | refine' DL_qg rfl rfl rfl ?zh ?_); case zh => intro F'; exact Q_nilF rfl rfl iI) | (show WS _ _ _ (.region 3 _ true) _ _; refine WS_drawA (.range 25) (by decide +kernel) rfl ?_) | (refine WS_seqK ?_; intro K hK) | (refine hK _ ?_; clear hK K) | refine stZ ?_ | (refine s2Z ?_ ?_ <;> intro hc <;> (try simp only [cS] at hc) <;> (try (exfalso; first | contradiction | omega))) | refine sqZ ?_ | ((first | refine' LQ ?zh rfl ?_ | refine' DL_q rfl rfl ?zh ?_ | refine' DL_qg rfl rfl rfl ?zh ?_); case zh => intro F'; first | exact Q_bin_t rfl rfl iI (by first | assumption | omega | decide | rfl) | exact Q_bin_f rfl rfl iI (by first | assumption | omega | decide | rfl) | exact Q_bin_nt rfl rfl iI (by first | assumption | omega | decide | rfl) | exact Q_bin_nf rfl rfl iI (by first | assumption | omega | decide | rfl) | exact Q_maxI rfl rfl) | (refine shZ ?_; intro g) | (refine s0Z ?_; intro g) | (show WS _ _ _ (.region 1 _ true) _ _; refine WS_drawRL 3 [0, 1, 2, 4, 5, 6, 3, 7, 8, 9] 6 [] (by decide +kernel) rfl rfl iI ?_) | (refine DL_h (H_callX iI rfl p1 iI) rfl rfl rfl ?_; intro u1) | (refine DL_h (H_callX iI rfl p2 iI) rfl rfl rfl ?_; intro u2) | (show WS _ _ _ (.region 19 _ true) _ _; refine WS_drawRL 3 (.range 11) 7 [] (by decide +kernel) rfl rfl iI ?_))
    refine ret_none (.inr rfl) rfl ⟨[], rfl, ?_⟩
    rw [List.append_nil, star_assoc (mshA _ _ _ _)]
    refine Ent.msh (m := m.mod i (Sta.arm on_)) va ve hel ?_
    refine Ent.sta (m := m.mod i (Sta.arm on_)) gn vj (e2 (Sta.arm on_)) ?_
    unfold mshS
    rw [show amap 0 (m.mod i (Sta.arm on_)).sts = amap 0 m.sts from amap_mod m i fun _ => rfl]
    simp only [mshC, Ms.mod, staB, staC, Sta.arm, ht, ptrN, staN, evsO, emp_star]
    exact finE
end

section
open Go.RowKit
def svOf : Value → SV
 | .slice A n c => (A, n, c)
 | _ => (none, 0, 0)
def svOf3 (v : Value × Value × Value) : SV × SV × SV := (svOf v.1, svOf v.2.1, svOf v.2.2)
theorem outR_form {w0 w : World} {o : OutD} {v : Value × Value × Value} {F : HProp} (h : Sat w0 w (outR o v * F)) : svV (svOf3 v) = v := by
 unfold outR at h
 have e (a b c d : HProp) : a * (b * c) * d = a * (b * (c * d)) := by rw [star_assoc, star_assoc]
 rw [e] at h
 obtain ⟨A1, c1, e1⟩ := rows_form h
 have h2 := h
 rw [star_left_comm] at h2
 obtain ⟨A2, c2, e2⟩ := rows_form h2
 have h3 := h
 rw [star_left_comm (rows _ _ _ v.2.1 _), star_left_comm] at h3
 obtain ⟨A3, c3, e3⟩ := rows_form h3
 obtain ⟨v1, v2, v3⟩ := v
 simp only at e1 e2 e3
 subst e1 e2 e3
 rfl
theorem Spec.rein {P : Program} {w0 : World} {f : FuncId} {args : List Value} {X : HProp} {α β : Type} {res : α → Value} {post : α → HProp} (h : Spec P w0 f args X res post) (φ : β → α) (ψ : α → β) (hi : ∀ x w F, Sat w0 w (post x * F) → φ (ψ x) = x) : Spec P w0 f args X (fun y => res (φ y)) (fun y => post (φ y)) := fun G w hs => (h G w hs).mono fun e w' ⟨x, he, hx⟩ => ⟨ψ x, by show e = .returned (res (φ (ψ x))); rw [hi x w' G hx]; exact he, by show Sat w0 w' (post (φ (ψ x)) * G); rw [hi x w' G hx]; exact hx⟩
end

section
open Go.RowKit
attribute [local irreducible] WS LS OpQ OpT OpH OpTQ Spec SpecQ cel
variable (w0 : World)
set_option maxRecDepth 100000 in
theorem mtext_spec (gm : Nat) (k : MH) (m : Ms) (el : List ES) (o : OpD) (c : Nat) (hf : m.Fine c) (hc : c ≤ 8500) (hn : m.now.toNat ≤ 4611686018427387904) (hev : m.evs = []) (hbars : m.bars o = false) (hk : o.kind = 2) : Spec Tryz.prog w0 41 [ptr gm 0, opA o] (mshA gm k m el) (fun _ : List ES => .tuple #[]) (fun new => mshA gm k (m.nodeOp o) (el ++ new) * evsO new) := by
  obtain ⟨i, s, ei, hs, hw, hjb⟩ := Ms.bars_false hbars
  obtain ⟨kind, oa, ob, on_, oo, ot⟩ := o
  simp only at hk ei hw hjb
  subst hk
  subst ei
  have h6 := hf.short
  refine Spec.enter Tryz.func41 rfl Tryz.ntmps41 rfl fun G => ?_
  refine WS_msh fun va ve hel => ?_
  refine WS_mlen fun hbl => ?_
  have hell : el.length = 0 := by
    have := congrArg List.length hel
    rw [hev] at this
    simpa using this
  have hi := (List.getElem?_eq_some_iff.1 hs).1
  obtain ⟨b, hb⟩ : ∃ b, k.bs[i]? = some b := ⟨_, List.getElem?_eq_getElem (by omega)⟩
  have hat : m.at_ (i : Int) = some s := (m.at_nat i).trans hs
  have hso := hf.sound i s hs
  have p1 := station_spec w0 gm m ⟨k.vs, k.bs, k.r, va, ve⟩ i b hb (by show k.bs.length ≤ 6; omega)
  simp only [opA, opC, argE]
  cases ht : s.node with
  | none => rw [ht] at hw; exact absurd (hw (by decide)) (fun h : true = false => by cases h)
  | some t =>
    have hrt := (hso.node t ht).1
    obtain ⟨j, s2, ej, hs2⟩ := hjb (.inr (.inl rfl))
    subst ej
    have hj := (List.getElem?_eq_some_iff.1 hs2).1
    obtain ⟨b2, hb2⟩ : ∃ b, k.bs[j]? = some b := ⟨_, List.getElem?_eq_getElem (by omega)⟩
    have hat2 : m.at_ (j : Int) = some s2 := (m.at_nat j).trans hs2
    have p2 := station_spec w0 gm m ⟨k.vs, k.bs, k.r, va, ve⟩ j b2 hb2 (by show k.bs.length ≤ 6; omega)
    rw [Ms.nodeOp_send hbars rfl hat ht hat2]
    simp only [Int.toNat_natCast]
    by_cases hij : i = j
    · obtain rfl : b = b2 := by rw [hij, hb2] at hb; exact (Option.some.inj hb).symm
      obtain rfl : s = s2 := by rw [hij, hs2] at hs; exact (Option.some.inj hs).symm
      obtain ⟨R, e1, e2⟩ := stas_open hbl hb hs
      refine WS_sta e1 fun gn vj => ?_
      unfold mshS
      simp only [mshC] at p1 p2
      by_cases he : t.sendE s.addr ot = 0
      · rw [if_pos he]
        have hw := hrt.wentSend hn s.addr ot (by unfold Nd.sendE at he; split at he; cases he; omega)
        have hfr := Nd.sendF_frames t m.now s.addr ot
        have p4 := (nsendT_spec w0 gn t m.now s.addr ot hrt hc hn he).rein svV svOf3 (fun x w F hx => by rw [star_assoc, star_left_comm] at hx; exact outR_form hx)
        have p5 := fun (v : SV × SV × SV) => emitX_spec w0 gm k i b (c + 1) hb m el (t.sendF m.now s.addr ot).out (svV v) s (·.run (t.sendF m.now s.addr ot)) (t.sendF m.now s.addr ot) (fun _ => rfl) rfl hs ((hso.mono (Nat.le_succ c)).says ht hw) hw.pks.le (by omega) hf.air (by rw [hev]; simp only [List.length_nil]; omega) h6 hel R (e2 _) va ve gn vj
        generalize t.sendF m.now s.addr ot = t2 at *
        simp only [mshC, staB, staC, ht, ptrN, staN]
        simp only [outA, svV, slV', mshC, Sta.run_tear, Sta.run_armed, Sta.run_journal, star_assoc] at p4 p5 ⊢
        repeat' (first | ((first | refine' DL_q rfl rfl ?zh ?_ | refine' DL_qg rfl rfl rfl ?zh ?_); case zh => intro F'; exact Q_nilF rfl rfl iI) | (show WS _ _ _ (.region 3 _ true) _ _; refine WS_drawA (.range 25) (by decide +kernel) rfl ?_) | (refine WS_seqK ?_; intro K hK) | (refine hK _ ?_; clear hK K) | refine stZ ?_ | (refine s2Z ?_ ?_ <;> intro hc <;> (try simp only [cS] at hc) <;> (try (exfalso; first | contradiction | omega))) | (refine DL_alloc iI rfl ?_; intro g) | refine sqZ ?_ | ((first | refine' LQ ?zh rfl ?_ | refine' DL_q rfl rfl ?zh ?_ | refine' DL_qg rfl rfl rfl ?zh ?_); case zh => intro F'; first | exact Q_bin_t rfl rfl iI (by first | assumption | omega | decide | rfl) | exact Q_bin_f rfl rfl iI (by first | assumption | omega | decide | rfl) | exact Q_bin_nt rfl rfl iI (by first | assumption | omega | decide | rfl) | exact Q_bin_nf rfl rfl iI (by first | assumption | omega | decide | rfl)) | (refine shZ ?_; intro g) | (refine s0Z ?_; intro g) | (show WS _ _ _ (.region 1 _ true) _ _; refine WS_drawRL 3 [0, 1, 2, 4, 5, 6, 3, 7, 8, 9] 6 [] (by decide +kernel) rfl rfl iI ?_) | (refine DL_h (H_callX iI rfl p1 iI) rfl rfl rfl ?_; intro u1) | (refine DL_h (H_callX iI rfl p2 iI) rfl rfl rfl ?_; intro u2) | (show WS _ _ _ (.region 10 _ true) _ _; first | refine WS_drawR3S 3 0 4 b2 s2 (List.range 21) (by decide +kernel) rfl rfl rfl rfl iI iI iI iI ?_ | refine WS_drawR3 3 0 4 (List.range 21) (by decide +kernel) rfl rfl rfl rfl iI iI iI ?_) | (refine DL_h (H_callX iI rfl p4 iI) rfl rfl rfl ?_; intro x4) | (refine LS_h (H_callX iI rfl (p5 x4) iI) rfl ?_; intro new2))
        exact ret_none (.inr rfl) rfl ⟨new2, rfl, finE⟩
      · rw [if_neg he]
        have p4 := nsendNo_spec w0 gn t m.now s.addr ot he
        have p3 := refuse_spec w0 gm m ⟨k.vs, k.bs, k.r, va, ve⟩ el (i : Int) (t.sendE s.addr ot) (by omega)
        generalize t.sendE s.addr ot = e at *
        simp only [mshC, staB, staC, ht, ptrN, staN, star_assoc]
        simp only [outNo, mshC] at p3 p4
        repeat' (first | ((first | refine' DL_q rfl rfl ?zh ?_ | refine' DL_qg rfl rfl rfl ?zh ?_); case zh => intro F'; exact Q_nilF rfl rfl iI) | (show WS _ _ _ (.region 3 _ true) _ _; refine WS_drawA (.range 25) (by decide +kernel) rfl ?_) | (refine WS_seqK ?_; intro K hK) | (refine hK _ ?_; clear hK K) | refine stZ ?_ | (refine s2Z ?_ ?_ <;> intro hc <;> (try simp only [cS] at hc) <;> (try (exfalso; first | contradiction | omega))) | (refine DL_alloc iI rfl ?_; intro g) | refine sqZ ?_ | ((first | refine' LQ ?zh rfl ?_ | refine' DL_q rfl rfl ?zh ?_ | refine' DL_qg rfl rfl rfl ?zh ?_); case zh => intro F'; first | exact Q_bin_t rfl rfl iI (by first | assumption | omega | decide | rfl) | exact Q_bin_f rfl rfl iI (by first | assumption | omega | decide | rfl) | exact Q_bin_nt rfl rfl iI (by first | assumption | omega | decide | rfl) | exact Q_bin_nf rfl rfl iI (by first | assumption | omega | decide | rfl)) | (refine shZ ?_; intro g) | (refine s0Z ?_; intro g) | (show WS _ _ _ (.region 1 _ true) _ _; refine WS_drawRL 3 [0, 1, 2, 4, 5, 6, 3, 7, 8, 9] 6 [] (by decide +kernel) rfl rfl iI ?_) | (refine DL_h (H_callX iI rfl p1 iI) rfl rfl rfl ?_; intro u1) | (refine DL_h (H_callX iI rfl p2 iI) rfl rfl rfl ?_; intro u2) | (show WS _ _ _ (.region 10 _ true) _ _; first | refine WS_drawR3S 3 0 4 b2 s2 (List.range 21) (by decide +kernel) rfl rfl rfl rfl iI iI iI iI ?_ | refine WS_drawR3 3 0 4 (List.range 21) (by decide +kernel) rfl rfl rfl rfl iI iI iI ?_) | (refine DL_h (H_callX iI rfl p4 iI) rfl rfl rfl ?_; intro x4) | (refine LS_h (H_callX iI rfl p3 iI) rfl ?_; intro ve2))
        refine ret_none (.inl rfl) rfl ⟨[evBare (i : Int) e], rfl, ?_⟩
        (try rw [star_assoc (mshA _ _ _ _)])
        refine Ent.msh (m := m.refuse (i : Int) e) va ve2 (by rw [List.map_append, hel]; rfl) ?_
        refine Ent.sta (m := m.refuse (i : Int) e) gn vj e1 ?_
        unfold mshS
        simp only [mshP, mshC, staB, staC, ht, ptrN, staN, Ms.refuse, Ms.event, evsO, evO, outR, evBare, svV, slV', OutD.zero, star_emp]
        exact finE
    · obtain ⟨R, e1, e2⟩ := stas_open2 hbl hb hs hb2 hs2 hij
      refine WS_sta e1 fun gn vj => ?_
      unfold mshS
      simp only [mshC] at p1 p2
      by_cases he : t.sendE s2.addr ot = 0
      · rw [if_pos he]
        have hw := hrt.wentSend hn s2.addr ot (by unfold Nd.sendE at he; split at he; cases he; omega)
        have hfr := Nd.sendF_frames t m.now s2.addr ot
        have p4 := (nsendT_spec w0 gn t m.now s2.addr ot hrt hc hn he).rein svV svOf3 (fun x w F hx => by rw [star_assoc, star_left_comm] at hx; exact outR_form hx)
        have p5 := fun (v : SV × SV × SV) => emitX_spec w0 gm k i b (c + 1) hb m el (t.sendF m.now s2.addr ot).out (svV v) s (·.run (t.sendF m.now s2.addr ot)) (t.sendF m.now s2.addr ot) (fun _ => rfl) rfl hs ((hso.mono (Nat.le_succ c)).says ht hw) hw.pks.le (by omega) hf.air (by rw [hev]; simp only [List.length_nil]; omega) h6 hel (staP b2 s2 * R) (e2 _) va ve gn vj
        generalize t.sendF m.now s2.addr ot = t2 at *
        simp only [mshC, staB, staC, ht, ptrN, staN]
        simp only [outA, svV, slV', mshC, Sta.run_tear, Sta.run_armed, Sta.run_journal, star_assoc] at p4 p5 ⊢
        repeat' (first | ((first | refine' DL_q rfl rfl ?zh ?_ | refine' DL_qg rfl rfl rfl ?zh ?_); case zh => intro F'; exact Q_nilF rfl rfl iI) | (show WS _ _ _ (.region 3 _ true) _ _; refine WS_drawA (.range 25) (by decide +kernel) rfl ?_) | (refine WS_seqK ?_; intro K hK) | (refine hK _ ?_; clear hK K) | refine stZ ?_ | (refine s2Z ?_ ?_ <;> intro hc <;> (try simp only [cS] at hc) <;> (try (exfalso; first | contradiction | omega))) | (refine DL_alloc iI rfl ?_; intro g) | refine sqZ ?_ | ((first | refine' LQ ?zh rfl ?_ | refine' DL_q rfl rfl ?zh ?_ | refine' DL_qg rfl rfl rfl ?zh ?_); case zh => intro F'; first | exact Q_bin_t rfl rfl iI (by first | assumption | omega | decide | rfl) | exact Q_bin_f rfl rfl iI (by first | assumption | omega | decide | rfl) | exact Q_bin_nt rfl rfl iI (by first | assumption | omega | decide | rfl) | exact Q_bin_nf rfl rfl iI (by first | assumption | omega | decide | rfl)) | (refine shZ ?_; intro g) | (refine s0Z ?_; intro g) | (show WS _ _ _ (.region 1 _ true) _ _; refine WS_drawRL 3 [0, 1, 2, 4, 5, 6, 3, 7, 8, 9] 6 [] (by decide +kernel) rfl rfl iI ?_) | (refine DL_h (H_callX iI rfl p1 iI) rfl rfl rfl ?_; intro u1) | (refine DL_h (H_callX iI rfl p2 iI) rfl rfl rfl ?_; intro u2) | (show WS _ _ _ (.region 10 _ true) _ _; first | refine WS_drawR3S 3 0 4 b2 s2 (List.range 21) (by decide +kernel) rfl rfl rfl rfl iI iI iI iI ?_ | refine WS_drawR3 3 0 4 (List.range 21) (by decide +kernel) rfl rfl rfl rfl iI iI iI ?_) | ((first | refine' DL_qp rfl rfl rfl ?zh ?_ | refine' DL_q rfl rfl ?zh ?_); (case zh => intro F'; exact Q_loadSta (s := s2) (b := b2) rfl iI iI)) | (refine DL_h (H_callX iI rfl p4 iI) rfl rfl rfl ?_; intro x4) | (refine LS_h (H_callX iI rfl (p5 x4) iI) rfl ?_; intro new2))
        exact ret_none (.inr rfl) rfl ⟨new2, rfl, finE⟩
      · rw [if_neg he]
        have p4 := nsendNo_spec w0 gn t m.now s2.addr ot he
        have p3 := refuse_spec w0 gm m ⟨k.vs, k.bs, k.r, va, ve⟩ el (i : Int) (t.sendE s2.addr ot) (by omega)
        generalize t.sendE s2.addr ot = e at *
        simp only [mshC, staB, staC, ht, ptrN, staN, star_assoc]
        simp only [outNo, mshC] at p3 p4
        repeat' (first | ((first | refine' DL_q rfl rfl ?zh ?_ | refine' DL_qg rfl rfl rfl ?zh ?_); case zh => intro F'; exact Q_nilF rfl rfl iI) | (show WS _ _ _ (.region 3 _ true) _ _; refine WS_drawA (.range 25) (by decide +kernel) rfl ?_) | (refine WS_seqK ?_; intro K hK) | (refine hK _ ?_; clear hK K) | refine stZ ?_ | (refine s2Z ?_ ?_ <;> intro hc <;> (try simp only [cS] at hc) <;> (try (exfalso; first | contradiction | omega))) | (refine DL_alloc iI rfl ?_; intro g) | refine sqZ ?_ | ((first | refine' LQ ?zh rfl ?_ | refine' DL_q rfl rfl ?zh ?_ | refine' DL_qg rfl rfl rfl ?zh ?_); case zh => intro F'; first | exact Q_bin_t rfl rfl iI (by first | assumption | omega | decide | rfl) | exact Q_bin_f rfl rfl iI (by first | assumption | omega | decide | rfl) | exact Q_bin_nt rfl rfl iI (by first | assumption | omega | decide | rfl) | exact Q_bin_nf rfl rfl iI (by first | assumption | omega | decide | rfl)) | (refine shZ ?_; intro g) | (refine s0Z ?_; intro g) | (show WS _ _ _ (.region 1 _ true) _ _; refine WS_drawRL 3 [0, 1, 2, 4, 5, 6, 3, 7, 8, 9] 6 [] (by decide +kernel) rfl rfl iI ?_) | (refine DL_h (H_callX iI rfl p1 iI) rfl rfl rfl ?_; intro u1) | (refine DL_h (H_callX iI rfl p2 iI) rfl rfl rfl ?_; intro u2) | (show WS _ _ _ (.region 10 _ true) _ _; first | refine WS_drawR3S 3 0 4 b2 s2 (List.range 21) (by decide +kernel) rfl rfl rfl rfl iI iI iI iI ?_ | refine WS_drawR3 3 0 4 (List.range 21) (by decide +kernel) rfl rfl rfl rfl iI iI iI ?_) | ((first | refine' DL_qp rfl rfl rfl ?zh ?_ | refine' DL_q rfl rfl ?zh ?_); (case zh => intro F'; exact Q_loadSta (s := s2) (b := b2) rfl iI iI)) | (refine DL_h (H_callX iI rfl p4 iI) rfl rfl rfl ?_; intro x4) | (refine LS_h (H_callX iI rfl p3 iI) rfl ?_; intro ve2))
        refine ret_none (.inl rfl) rfl ⟨[evBare (i : Int) e], rfl, ?_⟩
        (try rw [star_assoc (mshA _ _ _ _)])
        refine Ent.msh (m := m.refuse (i : Int) e) va ve2 (by rw [List.map_append, hel]; rfl) ?_
        refine Ent.sta (m := m.refuse (i : Int) e) gn vj e1 ?_
        unfold mshS
        simp only [mshP, mshC, staB, staC, ht, ptrN, staN, Ms.refuse, Ms.event, evsO, evO, outR, evBare, svV, slV', OutD.zero, star_emp]
        exact finE
end

section
open Go.RowKit
attribute [local irreducible] WS LS OpQ OpT OpH OpTQ Spec SpecQ cel
variable (w0 : World)
set_option maxRecDepth 100000 in
theorem mhear_spec (gm : Nat) (k : MH) (m : Ms) (el : List ES) (o : OpD) (c : Nat) (hf : m.Fine c) (hx : o.text.length ≤ 100000) (hev : m.evs = []) (hbars : m.bars o = false) (hk : o.kind = 8) : Spec Tryz.prog w0 41 [ptr gm 0, opA o] (mshA gm k m el) (fun _ : List ES => .tuple #[]) (fun new => mshA gm k (m.nodeOp o) (el ++ new) * evsO new) := by
  obtain ⟨i, s, ei, hs, hw, hjb⟩ := Ms.bars_false hbars
  obtain ⟨kind, oa, ob, on_, oo, ot⟩ := o
  simp only at hk ei hw hjb hx
  subst hk
  subst ei
  have h6 := hf.short
  refine Spec.enter Tryz.func41 rfl Tryz.ntmps41 rfl fun G => ?_
  refine WS_msh fun va ve hel => ?_
  refine WS_mlen fun hbl => ?_
  have hell : el.length = 0 := by
    have := congrArg List.length hel
    rw [hev] at this
    simpa using this
  have hi := (List.getElem?_eq_some_iff.1 hs).1
  obtain ⟨b, hb⟩ : ∃ b, k.bs[i]? = some b := ⟨_, List.getElem?_eq_getElem (by omega)⟩
  have hat : m.at_ (i : Int) = some s := (m.at_nat i).trans hs
  have hso := hf.sound i s hs
  have p1 := station_spec w0 gm m ⟨k.vs, k.bs, k.r, va, ve⟩ i b hb (by show k.bs.length ≤ 6; omega)
  simp only [opA, opC, argE]
  cases ht : s.node with
  | none => rw [ht] at hw; exact absurd (hw (by decide)) (fun h : true = false => by cases h)
  | some t =>
    have hrt := (hso.node t ht).1
    obtain ⟨j, s2, ej, hs2⟩ := hjb (.inr (.inr rfl))
    subst ej
    have hj := (List.getElem?_eq_some_iff.1 hs2).1
    obtain ⟨b2, hb2⟩ : ∃ b, k.bs[j]? = some b := ⟨_, List.getElem?_eq_getElem (by omega)⟩
    have hat2 : m.at_ (j : Int) = some s2 := (m.at_nat j).trans hs2
    have p2 := station_spec w0 gm m ⟨k.vs, k.bs, k.r, va, ve⟩ j b2 hb2 (by show k.bs.length ≤ 6; omega)
    rw [Ms.nodeOp_rcv hbars rfl hat ht hat2]
    simp only [Int.toNat_natCast]
    by_cases hij : i = j
    · obtain rfl : b = b2 := by rw [hij, hb2] at hb; exact (Option.some.inj hb).symm
      obtain rfl : s = s2 := by rw [hij, hs2] at hs; exact (Option.some.inj hs).symm
      obtain ⟨R, e1, e2⟩ := stas_open hbl hb hs
      refine WS_sta e1 fun gn vj => ?_
      unfold mshS
      simp only [mshC] at p1 p2
      have hw := hrt.wentRcv m.now s.addr ot
      have hfr := rcvF_few hrt m.now s.addr ot
      have p4 := fun v => nrcv_spec w0 gn t m.now s.addr ot hrt hx v (rows 5 1 byteC v ot)
      have p5 := fun v => emitX_spec w0 gm k i b c hb m el (t.rcvF m.now s.addr ot).out v s (·.run (t.rcvF m.now s.addr ot)) (t.rcvF m.now s.addr ot) (fun _ => rfl) rfl hs (hso.says ht hw) hw.pks.le (by omega) hf.air (by rw [hev]; simp only [List.length_nil]; omega) h6 hel R (e2 _) va ve gn vj
      generalize t.rcvF m.now s.addr ot = t2 at *
      simp only [mshC, staB, staC, ht, ptrN, staN]
      simp only [outA, mshC, Sta.run_tear, Sta.run_armed, Sta.run_journal, star_assoc] at p4 p5 ⊢
      repeat' (first | ((first | refine' DL_q rfl rfl ?zh ?_ | refine' DL_qg rfl rfl rfl ?zh ?_); case zh => intro F'; exact Q_nilF rfl rfl iI) | (show WS _ _ _ (.region 3 _ true) _ _; refine WS_drawA (.range 25) (by decide +kernel) rfl ?_) | (refine WS_seqK ?_; intro K hK) | (refine hK _ ?_; clear hK K) | refine stZ ?_ | (refine s2Z ?_ ?_ <;> intro hc <;> (try simp only [cS] at hc) <;> (try (exfalso; first | contradiction | omega))) | refine sqZ ?_ | ((first | refine' LQ ?zh rfl ?_ | refine' DL_qp rfl rfl rfl ?zh ?_ | refine' DL_q rfl rfl ?zh ?_ | refine' DL_qg rfl rfl rfl ?zh ?_); case zh => intro F'; first | exact Q_bin_t rfl rfl iI (by first | assumption | omega | decide | rfl) | exact Q_bin_f rfl rfl iI (by first | assumption | omega | decide | rfl) | exact Q_bin_nt rfl rfl iI (by first | assumption | omega | decide | rfl) | exact Q_bin_nf rfl rfl iI (by first | assumption | omega | decide | rfl)) | (refine shZ ?_; intro g) | (show WS _ _ _ (.region 1 _ true) _ _; refine WS_drawRL 3 [0, 1, 2, 4, 5, 6, 3, 7, 8, 9] 6 [] (by decide +kernel) rfl rfl iI ?_) | (refine DL_h (H_callX iI rfl p1 iI) rfl rfl rfl ?_; intro u1) | (refine DL_h (H_callX iI rfl p2 iI) rfl rfl rfl ?_; intro u2) | (show WS _ _ _ (.region 15 _ true) _ _; refine WS_drawRL 3 (.range 20) 18 [6, 10, 14] (by decide +kernel) rfl rfl iI ?_) | (refine DL_h (H_convB rfl iI iI iI (by omega)) rfl rfl rfl ?_; intro vb2) | (refine DL_h (H_callX iI rfl (p4 _) iI) rfl rfl rfl ?_; intro x4) | (refine DL_h (H_callX iI rfl (p5 x4) iI) rfl rfl rfl ?_; intro new2))
      exact ret_none (.inr rfl) rfl ⟨new2, rfl, finE⟩
    · obtain ⟨R, e1, e2⟩ := stas_open2 hbl hb hs hb2 hs2 hij
      refine WS_sta e1 fun gn vj => ?_
      unfold mshS
      simp only [mshC] at p1 p2
      have hw := hrt.wentRcv m.now s2.addr ot
      have hfr := rcvF_few hrt m.now s2.addr ot
      have p4 := fun v => nrcv_spec w0 gn t m.now s2.addr ot hrt hx v (rows 5 1 byteC v ot)
      have p5 := fun v => emitX_spec w0 gm k i b c hb m el (t.rcvF m.now s2.addr ot).out v s (·.run (t.rcvF m.now s2.addr ot)) (t.rcvF m.now s2.addr ot) (fun _ => rfl) rfl hs (hso.says ht hw) hw.pks.le (by omega) hf.air (by rw [hev]; simp only [List.length_nil]; omega) h6 hel (staP b2 s2 * R) (e2 _) va ve gn vj
      generalize t.rcvF m.now s2.addr ot = t2 at *
      simp only [mshC, staB, staC, ht, ptrN, staN]
      simp only [outA, mshC, Sta.run_tear, Sta.run_armed, Sta.run_journal, star_assoc] at p4 p5 ⊢
      repeat' (first | ((first | refine' DL_q rfl rfl ?zh ?_ | refine' DL_qg rfl rfl rfl ?zh ?_); case zh => intro F'; exact Q_nilF rfl rfl iI) | (show WS _ _ _ (.region 3 _ true) _ _; refine WS_drawA (.range 25) (by decide +kernel) rfl ?_) | (refine WS_seqK ?_; intro K hK) | (refine hK _ ?_; clear hK K) | refine stZ ?_ | (refine s2Z ?_ ?_ <;> intro hc <;> (try simp only [cS] at hc) <;> (try (exfalso; first | contradiction | omega))) | refine sqZ ?_ | ((first | refine' LQ ?zh rfl ?_ | refine' DL_qp rfl rfl rfl ?zh ?_ | refine' DL_q rfl rfl ?zh ?_ | refine' DL_qg rfl rfl rfl ?zh ?_); case zh => intro F'; first | exact Q_bin_t rfl rfl iI (by first | assumption | omega | decide | rfl) | exact Q_bin_f rfl rfl iI (by first | assumption | omega | decide | rfl) | exact Q_bin_nt rfl rfl iI (by first | assumption | omega | decide | rfl) | exact Q_bin_nf rfl rfl iI (by first | assumption | omega | decide | rfl)) | (refine shZ ?_; intro g) | (show WS _ _ _ (.region 1 _ true) _ _; refine WS_drawRL 3 [0, 1, 2, 4, 5, 6, 3, 7, 8, 9] 6 [] (by decide +kernel) rfl rfl iI ?_) | (refine DL_h (H_callX iI rfl p1 iI) rfl rfl rfl ?_; intro u1) | (refine DL_h (H_callX iI rfl p2 iI) rfl rfl rfl ?_; intro u2) | (show WS _ _ _ (.region 15 _ true) _ _; refine WS_drawRL 3 (.range 20) 18 [6, 10, 14] (by decide +kernel) rfl rfl iI ?_) | ((first | refine' DL_qp rfl rfl rfl ?zh ?_ | refine' DL_q rfl rfl ?zh ?_); (case zh => intro F'; exact Q_loadSta (s := s2) (b := b2) rfl iI iI)) | (refine DL_h (H_convB rfl iI iI iI (by omega)) rfl rfl rfl ?_; intro vb2) | (refine DL_h (H_callX iI rfl (p4 _) iI) rfl rfl rfl ?_; intro x4) | (refine DL_h (H_callX iI rfl (p5 x4) iI) rfl rfl rfl ?_; intro new2))
      exact ret_none (.inr rfl) rfl ⟨new2, rfl, finE⟩
end

section
open Go.RowKit
attribute [local irreducible] WS LS OpQ OpT OpH OpTQ Spec SpecQ cel
variable (w0 : World)
set_option maxRecDepth 100000 in
theorem mboot_spec (gm : Nat) (k : MH) (m : Ms) (el : List ES) (o : OpD) (c : Nat) (hf : m.Fine c) (hev : m.evs = []) (hbars : m.bars o = false) (hk : o.kind = 11) : Spec Tryz.prog w0 41 [ptr gm 0, opA o] (mshA gm k m el) (fun _ : List ES => .tuple #[]) (fun new => mshA gm k (m.nodeOp o) (el ++ new) * evsO new) := by
  obtain ⟨i, s, ei, hs, hw, hjb⟩ := Ms.bars_false hbars
  obtain ⟨kind, oa, ob, on_, oo, ot⟩ := o
  simp only at hk ei hw hjb
  subst hk
  subst ei
  have h6 := hf.short
  refine Spec.enter Tryz.func41 rfl Tryz.ntmps41 rfl fun G => ?_
  refine WS_msh fun va ve hel => ?_
  refine WS_mlen fun hbl => ?_
  have hell : el.length = 0 := by
    have := congrArg List.length hel
    rw [hev] at this
    simpa using this
  have hi := (List.getElem?_eq_some_iff.1 hs).1
  obtain ⟨b, hb⟩ : ∃ b, k.bs[i]? = some b := ⟨_, List.getElem?_eq_getElem (by omega)⟩
  have hat : m.at_ (i : Int) = some s := (m.at_nat i).trans hs
  have hso := hf.sound i s hs
  have p1 := station_spec w0 gm m ⟨k.vs, k.bs, k.r, va, ve⟩ i b hb (by show k.bs.length ≤ 6; omega)
  simp only [opA, opC, argE]
  obtain ⟨vb, hvb, p2⟩ := stationG_spec w0 gm m ⟨k.vs, k.bs, k.r, va, ve⟩ ob (by show k.bs.length ≤ 6; omega)
  cases ht : s.node with
  | some t => exact absurd ((hw (by decide)).trans (show decide ((11 : Int) = 11) = true by decide)) (by rw [ht]; exact fun h : false = true => by cases h)
  | none =>
    rw [Ms.nodeOp_boot hbars rfl hat]
    simp only [Int.toNat_natCast]
    obtain ⟨R, e1, e2⟩ := stas_open hbl hb hs
    refine WS_sta e1 fun gn vj => ?_
    unfold mshS
    have hnf := Nd.new_frames s.addr s.journal m.now
    have hjl := hso.jour
    have p4 := (nnew_spec w0 s.addr s.journal (by omega) m.now vj (rows 5 1 byteC vj s.journal)).rein (fun y : Nat × SV × SV × SV => (y.1, svV y.2)) (fun x => (x.1, svOf3 x.2)) (fun x w F hx => by rw [star_assoc, star_assoc, star_left_comm] at hx; show (x.1, svV (svOf3 x.2)) = x; rw [outR_form hx])
    have p5 := fun (gn' : Nat) (v : SV × SV × SV) => emitX_spec w0 gm k i b c hb m el (Nd.newO s.addr s.journal m.now) (svV v) s (Sta.boot m.now) (Nd.new s.addr s.journal m.now) (fun _ => rfl) rfl hs (hso.boot m.now) (by rw [hnf.1]; simp) (by rw [hnf.1]; simp) hf.air (by rw [hev, hnf.1]; simp) h6 hel R (e2 _) va ve gn' vj
    have eb1 : (s.boot m.now).tear = s.tear := rfl
    have eb2 : (s.boot m.now).armed = false := rfl
    have eb3 : (s.boot m.now).journal = s.journal := rfl
    rw [eb1, eb2, eb3] at p5
    generalize Nd.new s.addr s.journal m.now = t2 at *
    generalize Nd.newO s.addr s.journal m.now = o2 at *
    simp only [mshC, staB, staC, ht, ptrN, staN, star_assoc, emp_star]
    simp only [outA, svV, slV', mshC, star_assoc] at p1 p2 p4 p5 ⊢
    repeat' (first | ((first | refine' DL_q rfl rfl ?zh ?_ | refine' DL_qg rfl rfl rfl ?zh ?_); case zh => intro F'; first | exact Q_nilE rfl rfl iI | exact Q_nilF rfl rfl iI) | (show WS _ _ _ (.region 3 _ true) _ _; refine WS_drawA (.range 25) (by decide +kernel) rfl ?_) | (refine WS_seqK ?_; intro K hK) | (refine hK _ ?_; clear hK K) | refine stZ ?_ | (refine s2Z ?_ ?_ <;> intro hc <;> (try simp only [cS] at hc) <;> (try (exfalso; first | contradiction | omega))) | (refine DL_alloc iI rfl ?_; intro g) | refine sqZ ?_ | ((first | refine' LQ ?zh rfl ?_ | refine' DL_q rfl rfl ?zh ?_ | refine' DL_qg rfl rfl rfl ?zh ?_); case zh => intro F'; first | exact Q_bin_t rfl rfl iI (by first | assumption | omega | decide | rfl) | exact Q_bin_f rfl rfl iI (by first | assumption | omega | decide | rfl) | exact Q_bin_nt rfl rfl iI (by first | assumption | omega | decide | rfl) | exact Q_bin_nf rfl rfl iI (by first | assumption | omega | decide | rfl)) | (refine shZ ?_; intro g) | (refine s0Z ?_; intro g) | (show WS _ _ _ (.region 1 _ true) _ _; refine WS_drawRL 3 [0, 1, 2, 4, 5, 6, 3, 7, 8, 9] 6 [] (by decide +kernel) rfl rfl iI ?_) | (refine DL_h (H_callX iI rfl p1 iI) rfl rfl rfl ?_; intro u1) | (refine DL_h (H_callX iI rfl p2 iI) rfl rfl rfl ?_; intro u2) | (show WS _ _ _ (.region 21 _ true) _ _; refine WS_drawR2 0 4 (List.range 19) (by decide +kernel) rfl rfl rfl iI iI ?_) | (refine DL_h (H_callX iI rfl p4 iI) rfl rfl rfl ?_; intro x4) | (refine LS_h (H_callX iI rfl (p5 x4.1 x4.2) iI) rfl ?_; intro new2))
    exact ret_none (.inr rfl) rfl ⟨new2, rfl, finE⟩
end

section
open Go.RowKit
theorem Q_convT64 {P : Program} {n : Frm} {w0 : World} {E : Env} {H : HProp} {d : Option Tmp} {ty : TypeId} {pos : String} {after : Array Edge} {gu : Option (Nat × Bool)} {x : Operand} {src t : TypeId} {m : Int} {ds : TypeDesc} (hx : E.ev x = some (.int .i64 m)) (hm : 0 ≤ m ∧ m ≤ 60000) (hs : Und P src ds) (hd : Und P t (.int .u64)) : OpQ P n w0 ⟨d, .convert src t x, ty, pos, after, gu⟩ E H (u64 (UInt64.ofNat m.toNat)) :=
 Q_convI hx hs hd (by
  rw [wrap_u64, UInt64.toNat_ofNat']
  rw [Nat.mod_eq_of_lt (by omega)]
  omega)
structure OpD.Ok (o : OpD) : Prop where
  n : -9223372036854775808 ≤ o.n ∧ o.n ≤ 9223372036854775807
  text : o.kind = 8 → o.text.length ≤ 100000
theorem Ms.do_frame {m : Ms} {o : OpD} (h : o.kind = 4 ∨ o.kind = 5 ∨ o.kind = 6 ∨ o.kind = 7) : m.do_ o = if 0 ≤ o.a ∧ 0 < m.air.length then Ms.frame { m with evs := [] } o (o.a.toNat % m.air.length) else { m with evs := [] } := by
 unfold Ms.do_; rw [if_pos h]
theorem Ms.do_tick {m : Ms} {o : OpD} (h : o.kind = 3) : m.do_ o = if 1 ≤ o.n ∧ o.n ≤ 60000 then Ms.tick { m with evs := [] } (UInt64.ofNat o.n.toNat) else { m with evs := [] } := by
 unfold Ms.do_; rw [if_neg (by omega), if_pos h]
theorem Ms.do_node {m : Ms} {o : OpD} (h : o.kind = 1 ∨ o.kind = 2 ∨ o.kind = 8 ∨ o.kind = 9 ∨ o.kind = 10 ∨ o.kind = 11) : m.do_ o = Ms.nodeOp { m with evs := [] } o := by
 unfold Ms.do_; rw [if_neg (by omega), if_neg (by omega), if_pos h]
theorem Ms.do_none {m : Ms} {o : OpD} (h1 : ¬ (o.kind = 4 ∨ o.kind = 5 ∨ o.kind = 6 ∨ o.kind = 7)) (h2 : ¬ o.kind = 3) (h3 : ¬ (o.kind = 1 ∨ o.kind = 2 ∨ o.kind = 8 ∨ o.kind = 9 ∨ o.kind = 10 ∨ o.kind = 11)) : m.do_ o = { m with evs := [] } := by
 unfold Ms.do_; rw [if_neg h1, if_neg h2, if_neg h3]
attribute [local irreducible] WS LS OpQ OpT OpH OpTQ Spec SpecQ cel
variable (w0 : World)
theorem mnode_spec (gm : Nat) (k : MH) (m : Ms) (el : List ES) (o : OpD) (c : Nat) (hf : m.Fine c) (hc : c ≤ 8500) (hn : m.now.toNat ≤ 4611686018427387904) (hk : o.kind = 1 ∨ o.kind = 2 ∨ o.kind = 8 ∨ o.kind = 9 ∨ o.kind = 10 ∨ o.kind = 11) (ho : o.Ok) (hev : m.evs = []) : Spec Tryz.prog w0 41 [ptr gm 0, opA o] (mshA gm k m el) (fun _ : List ES => .tuple #[]) (fun new => mshA gm k (m.nodeOp o) (el ++ new) * evsO new) := by
 cases hb : m.bars o with
 | true => rw [Ms.nodeOp_bar hb]; exact mnodeBar_spec w0 gm k m el o c hf hk hev hb
 | false =>
  rcases hk with h | h | h | h | h | h
  ·exact mlink_spec w0 gm k m el o c hf hev hb h
  ·exact mtext_spec w0 gm k m el o c hf hc hn hev hb h
  ·exact mhear_spec w0 gm k m el o c hf (ho.text h) hev hb h
  ·exact mstop_spec w0 gm k m el o c hf hev hb h
  ·exact marm_spec w0 gm k m el o c hf ho.n.2 hev hb h
  ·exact mboot_spec w0 gm k m el o c hf hev hb h
set_option maxRecDepth 100000 in
theorem mdo_spec (gm : Nat) (k : MH) (m : Ms) (o : OpD) (c : Nat) (hf : m.Fine c) (hc : c ≤ 8500) (hn : m.now.toNat + 60000 ≤ 4611686018427387904) (ho : o.Ok) : Spec Tryz.prog w0 19 [ptr gm 0, opA o] (mshI gm k m) (fun x : Value × List ES => x.1) (fun x => pure' (x.2.map (·.1) = (m.do_ o).evs) * (mshI gm k (m.do_ o) * (rows 68 7 evC x.1 x.2 * evsO x.2))) := by
  obtain ⟨kind, oa, ob, on_, oo, ot⟩ := o
  have hon := ho.n
  simp only at hon
  have hfew := hf.air.few
  have hf1 : Ms.Fine { m with evs := [] } c := ⟨hf.short, hf.sound, ⟨hf.air.few, hf.air.each⟩⟩
  refine Spec.enter Tryz.func19 rfl Tryz.ntmps19 rfl fun G => ?_
  unfold mshI
  refine WS_hex fun y => ?_
  obtain ⟨va, ve⟩ := y
  have hpk : ∀ Z, Ent ((cel gm 108 (mshC m ⟨k.vs, k.bs, k.r, va, .slice none 0 0⟩) * (rows 115 1 ptrC k.vs k.bs * (mp u32 i64 k.r (amap 0 m.sts) * (stasQ k.bs m.sts * rows 114 3 flC va m.air)))) * Z) (mshA gm k { m with evs := [] } [] * Z) := fun Z => by
    refine Ent.msh va (.slice none 0 0) rfl ?_
    simp only [mshP, mshC]
    exact finE
  simp only [mshC] at hpk
  rw [star_assoc, star_assoc, star_assoc, star_assoc]
  simp only [mshC, opA, opC, argE]
  by_cases hF : kind = 4 ∨ kind = 5 ∨ kind = 6 ∨ kind = 7
  · have hdo := Ms.do_frame (m := m) (o := ⟨kind, oa, ob, on_, oo, ot⟩) hF
    simp only at hdo
    by_cases h1 : 0 ≤ oa ∧ 0 < m.air.length
    · rw [if_pos h1] at hdo
      obtain ⟨h1, h2⟩ := h1
      have hmod : oa % (m.air.length : Int) = ((oa.toNat % m.air.length : Nat) : Int) := by
        rw [Int.natCast_emod, Int.toNat_of_nonneg h1]
      have h3 : 0 ≤ oa ∧ 0 < (m.air.length : Int) := ⟨h1, by omega⟩
      have h4 : (0 : Int) < (m.air.length : Int) := by omega
      have p1 := (mframe_spec w0 gm k { m with evs := [] } [] ⟨kind, oa, ob, on_, oo, ot⟩ (oa.toNat % m.air.length) c hf1 (Nat.mod_lt _ h2) ho.n rfl).conv (hpk) (fun _ _ => Ent.refl _)
      rw [← hmod] at p1
      simp only [opA, opC] at p1
      generalize Ms.frame { m with evs := [] } ⟨kind, oa, ob, on_, oo, ot⟩ (oa.toNat % m.air.length) = m2 at *
      repeat' (first | (show WS _ _ _ (.region 8 _ true) _ _; refine WS_drawK (.range 11) 10 [1, 3, 7, 8] (by decide +kernel) rfl ?_) | (refine WS_seqK ?_; intro K hK) | (refine hK _ ?_; clear hK K) | refine stZ ?_ | (refine s2Z ?_ ?_ <;> intro hc <;> (try simp only [cS] at hc) <;> (try (exfalso; first | contradiction | omega))) | refine sqZ ?_ | ((first | refine' LQ ?zh rfl ?_ | refine' DL_qp rfl rfl rfl ?zh ?_ | refine' DL_q rfl rfl ?zh ?_); case zh => intro F'; first | exact Q_bin_t rfl rfl iI (by first | assumption | omega | decide | rfl) | exact Q_remI rfl rfl (by omega)) | ((first | refine LS_binS rfl rfl iI rfl ?_ ?_ | refine LS_binN rfl rfl iI rfl ?_ ?_ | refine DL_binS rfl rfl iI rfl ?_ ?_) <;> intro hc) | (refine shZ ?_; intro g) | (refine s0Z ?_; intro g) | (refine DL_h (H_callX iI rfl p1 iI) rfl rfl rfl ?_; intro new))
      all_goals
        simp only [star_assoc, emp_star, star_emp]
        unfold mshA
        refine LS_hex fun y => ?_
        rw [star_assoc]
        refine LS_pureI iI fun hel => ?_
        rw [List.nil_append] at hel
        simp only [List.nil_append, mshP, mshC, star_assoc]
        repeat' (first | (refine hK _ ?_; clear hK K) | refine stZ ?_ | refine sqZ ?_)
        refine ret_tmp (.inl rfl) rfl rfl ⟨(y.2, new), rfl, ?_⟩
        rw [pure'_true (by rw [hdo]; exact hel), hdo]
        simp only [mshI, mshC, emp_star, star_assoc]
        refine Ent.hexI (y.1, y.2) ?_
        simp only [mshC, star_assoc]
        exact finE
    · rw [if_neg h1] at hdo
      have h4 : 0 ≤ oa → ¬ (0 : Int) < (m.air.length : Int) := fun h h' => h1 ⟨h, by omega⟩
      repeat' (first | (refine WS_seqK ?_; intro K hK) | (refine hK _ ?_; clear hK K) | refine stZ ?_ | (refine s2Z ?_ ?_ <;> intro hc <;> (try simp only [cS] at hc) <;> (try (exfalso; first | contradiction | omega))) | refine sqZ ?_ | ((refine' LQ ?zh rfl ?_); case zh => intro F'; first | exact Q_bin_t rfl rfl iI (by first | assumption | omega | decide | rfl) | exact Q_bin_f rfl rfl iI (by first | assumption | omega | decide | rfl)) | ((first | refine LS_binS rfl rfl iI rfl ?_ ?_ | refine LS_binN rfl rfl iI rfl ?_ ?_ | refine DL_binS rfl rfl iI rfl ?_ ?_) <;> intro hc) | (refine shZ ?_; intro g) | (refine s0Z ?_; intro g))
      all_goals
        refine ret_tmp (.inl rfl) rfl rfl ⟨(.slice none 0 0, []), rfl, ?_⟩
        rw [pure'_true (by rw [hdo]; rfl), hdo]
        simp only [mshI, mshC, evsO, emp_star, star_assoc]
        refine Ent.hexI (va, .slice none 0 0) ?_
        simp only [mshC, star_assoc]
        exact finE
  · by_cases h3 : kind = 3
    · have hdo := Ms.do_tick (m := m) (o := ⟨kind, oa, ob, on_, oo, ot⟩) h3
      simp only at hdo
      by_cases h1 : 1 ≤ on_ ∧ on_ ≤ 60000
      · rw [if_pos h1] at hdo
        obtain ⟨h1, h2⟩ := h1
        have p1 := (mtickM_spec w0 gm k { m with evs := [] } [] (UInt64.ofNat on_.toNat) c hf1 hc (by
          rw [UInt64.toNat_add]
          refine Nat.le_trans (Nat.mod_le _ _) ?_
          have : (UInt64.ofNat on_.toNat).toNat ≤ 60000 := by
            rw [UInt64.toNat_ofNat']
            exact Nat.le_trans (Nat.mod_le _ _) (by omega)
          show m.now.toNat + _ ≤ _
          omega) rfl).conv (hpk) (fun _ _ => Ent.refl _)
        generalize Ms.tick { m with evs := [] } (UInt64.ofNat on_.toNat) = m2 at *
        repeat' (first | (refine WS_seqK ?_; intro K hK) | (refine hK _ ?_; clear hK K) | refine stZ ?_ | (refine s2Z ?_ ?_ <;> intro hc <;> (try simp only [cS] at hc) <;> (try (exfalso; first | contradiction | omega))) | refine sqZ ?_ | ((refine' LQ ?zh rfl ?_); case zh => intro F'; first | exact Q_bin_t rfl rfl iI (by first | assumption | omega | decide | rfl) | exact Q_bin_f rfl rfl iI (by first | assumption | omega | decide | rfl)) | (refine shZ ?_; intro g) | (refine s0Z ?_; intro g) | (refine' LQ ?zh rfl ?_; (case zh => intro F'; exact Q_convT64 rfl (by omega) iI iI)) | (refine LS_h (H_callX iI rfl p1 iI) rfl ?_; intro new))
        simp only [star_assoc, emp_star, star_emp]
        unfold mshA
        refine LS_hex fun y => ?_
        rw [star_assoc]
        refine LS_pureI iI fun hel => ?_
        rw [List.nil_append] at hel
        simp only [List.nil_append, mshP, mshC, star_assoc]
        repeat' (first | (refine hK _ ?_; clear hK K) | refine stZ ?_ | refine sqZ ?_)
        refine ret_tmp (.inl rfl) rfl rfl ⟨(y.2, new), rfl, ?_⟩
        rw [pure'_true (by rw [hdo]; exact hel), hdo]
        simp only [mshI, mshC, emp_star, star_assoc]
        refine Ent.hexI (y.1, y.2) ?_
        simp only [mshC, star_assoc]
        exact finE
      · rw [if_neg h1] at hdo
        repeat' (first | (refine WS_seqK ?_; intro K hK) | (refine hK _ ?_; clear hK K) | refine stZ ?_ | (refine s2Z ?_ ?_ <;> intro hc <;> (try simp only [cS] at hc) <;> (try (exfalso; first | contradiction | omega))) | refine sqZ ?_ | ((refine' LQ ?zh rfl ?_); case zh => intro F'; first | exact Q_bin_t rfl rfl iI (by first | assumption | omega | decide | rfl) | exact Q_bin_f rfl rfl iI (by first | assumption | omega | decide | rfl)) | ((first | refine LS_binS rfl rfl iI rfl ?_ ?_ | refine LS_binN rfl rfl iI rfl ?_ ?_ | refine DL_binS rfl rfl iI rfl ?_ ?_) <;> intro hc) | (refine shZ ?_; intro g) | (refine s0Z ?_; intro g))
        all_goals
          refine ret_tmp (.inl rfl) rfl rfl ⟨(.slice none 0 0, []), rfl, ?_⟩
          rw [pure'_true (by rw [hdo]; rfl), hdo]
          simp only [mshI, mshC, evsO, emp_star, star_assoc]
          refine Ent.hexI (va, .slice none 0 0) ?_
          simp only [mshC, star_assoc]
          exact finE
    · by_cases hN : kind = 1 ∨ kind = 2 ∨ kind = 8 ∨ kind = 9 ∨ kind = 10 ∨ kind = 11
      · have hdo := Ms.do_node (m := m) (o := ⟨kind, oa, ob, on_, oo, ot⟩) hN
        have p1 := (mnode_spec w0 gm k { m with evs := [] } [] ⟨kind, oa, ob, on_, oo, ot⟩ c hf1 hc (by show m.now.toNat ≤ _; omega) hN ho rfl).conv (hpk) (fun _ _ => Ent.refl _)
        simp only [opA, opC] at p1
        generalize Ms.nodeOp { m with evs := [] } ⟨kind, oa, ob, on_, oo, ot⟩ = m2 at *
        repeat' (first | (refine WS_seqK ?_; intro K hK) | (refine hK _ ?_; clear hK K) | refine stZ ?_ | (refine s2Z ?_ ?_ <;> intro hc <;> (try simp only [cS] at hc) <;> (try (exfalso; first | contradiction | omega))) | refine sqZ ?_ | ((refine' LQ ?zh rfl ?_); case zh => intro F'; first | exact Q_bin_t rfl rfl iI (by first | assumption | omega | decide | rfl) | exact Q_bin_f rfl rfl iI (by first | assumption | omega | decide | rfl)) | ((first | refine LS_binS rfl rfl iI rfl ?_ ?_ | refine LS_binN rfl rfl iI rfl ?_ ?_ | refine DL_binS rfl rfl iI rfl ?_ ?_) <;> intro hc) | (refine shZ ?_; intro g) | (refine s0Z ?_; intro g) | (refine LS_h (H_callX iI rfl p1 iI) rfl ?_; intro new))
        all_goals
          simp only [star_assoc, emp_star, star_emp]
          unfold mshA
          refine LS_hex fun y => ?_
          rw [star_assoc]
          refine LS_pureI iI fun hel => ?_
          rw [List.nil_append] at hel
          simp only [List.nil_append, mshP, mshC, star_assoc]
          repeat' (first | (refine hK _ ?_; clear hK K) | refine stZ ?_ | refine sqZ ?_)
          refine ret_tmp (.inl rfl) rfl rfl ⟨(y.2, new), rfl, ?_⟩
          rw [pure'_true (by rw [hdo]; exact hel), hdo]
          simp only [mshI, mshC, emp_star, star_assoc]
          refine Ent.hexI (y.1, y.2) ?_
          simp only [mshC, star_assoc]
          exact finE
      · have hdo := Ms.do_none (m := m) (o := ⟨kind, oa, ob, on_, oo, ot⟩) hF h3 hN
        repeat' (first | (refine WS_seqK ?_; intro K hK) | (refine hK _ ?_; clear hK K) | refine stZ ?_ | (refine s2Z ?_ ?_ <;> intro hc <;> (try simp only [cS] at hc) <;> (try (exfalso; first | contradiction | omega))) | refine sqZ ?_ | ((refine' LQ ?zh rfl ?_); case zh => intro F'; exact Q_bin_f rfl rfl iI (by first | assumption | omega | decide | rfl)) | (refine shZ ?_; intro g) | (refine s0Z ?_; intro g))
        refine ret_tmp (.inl rfl) rfl rfl ⟨(.slice none 0 0, []), rfl, ?_⟩
        rw [pure'_true (by rw [hdo]; rfl), hdo]
        simp only [mshI, mshC, evsO, emp_star, star_assoc]
        refine Ent.hexI (va, .slice none 0 0) ?_
        simp only [mshC, star_assoc]
        exact finE
end

section
open Go.RowKit
section
variable {P : Program} {n : Frm} {w0 : World} {E : Env} {D : List Deferred} {F : HProp} {c : Code} {Q : Exit → St → Prop} {g : Nat} {k : MH} {m : Ms}
theorem WS_mshI (h : ∀ va ve, k.bs.length = m.sts.length → WS P n w0 c Q ⟨E, D, cel g 108 (mshC m ⟨k.vs, k.bs, k.r, va, ve⟩) * (rows 115 1 ptrC k.vs k.bs * (mp u32 i64 k.r (amap 0 m.sts) * (stasQ k.bs m.sts * (rows 114 3 flC va m.air * F))))⟩) : WS P n w0 c Q ⟨E, D, mshI g k m * F⟩ := by
 unfold mshI
 refine WS_hex fun y => ?_
 have h2 := h y.1 y.2
 by_cases hl : k.bs.length = m.sts.length
 ·rw [star_assoc, star_assoc, star_assoc, star_assoc]
  exact h2 hl
 ·intro a w gd
  exfalso
  have e : (cel g 108 (mshC m ⟨k.vs, k.bs, k.r, y.1, y.2⟩) * (rows 115 1 ptrC k.vs k.bs * (mp u32 i64 k.r (amap 0 m.sts) * (stasQ k.bs m.sts * rows 114 3 flC y.1 m.air)))) * F = pure' (k.bs.length = m.sts.length) * (cel g 108 (mshC m ⟨k.vs, k.bs, k.r, y.1, y.2⟩) * (rows 115 1 ptrC k.vs k.bs * (mp u32 i64 k.r (amap 0 m.sts) * (zrow staP k.bs m.sts * (rows 114 3 flC y.1 m.air * F))))) := by
   unfold stasQ
   ac_rfl
  exact hl (gd.sat.cast e).pure.1
theorem Ent.mshI {H : HProp} (va ve : Value) (e : Ent H (cel g 108 (mshC m ⟨k.vs, k.bs, k.r, va, ve⟩) * (rows 115 1 ptrC k.vs k.bs * (mp u32 i64 k.r (amap 0 m.sts) * (stasQ k.bs m.sts * (rows 114 3 flC va m.air * F)))))) : Ent H (mshI g k m * F) := by
 unfold Go.Proofs.YtapoehkdnglahabGreat.mshI
 refine Ent.hexI (p := fun x : Value × Value => cel g 108 (mshC m ⟨k.vs, k.bs, k.r, x.1, x.2⟩) * (rows 115 1 ptrC k.vs k.bs * (mp u32 i64 k.r (amap 0 m.sts) * (stasQ k.bs m.sts * rows 114 3 flC x.1 m.air)))) (va, ve) ?_
 rw [star_assoc, star_assoc, star_assoc, star_assoc]
 exact e
theorem staP_I {b : Nat} {s : Sta} {H : HProp} (gn : Nat) (vj : Value) (e : Ent H (staB b gn vj s * F)) : Ent H (staP b s * F) := Ent.hexI (p := fun x : Nat × Value => staB b x.1 x.2 s) (gn, vj) e
end
attribute [local irreducible] WS LS OpQ OpT OpH OpTQ Spec SpecQ cel
variable (w0 : World)
set_option maxRecDepth 100000 in
theorem mair_spec (gm : Nat) (k : MH) (m : Ms) (hf : m.air.length ≤ 48) : Spec Tryz.prog w0 20 [ptr gm 0] (mshI gm k m) (fun v : Value => v) (fun v => mshI gm k m * rows 114 3 flC v m.air) := by
  refine Spec.enter Tryz.func20 rfl Tryz.ntmps20 rfl fun G => ?_
  refine WS_mshI fun va ve hbl => ?_
  have p1 := cloneF_spec w0 va m.air (by omega)
  simp only [mshC, argE]
  repeat' (first | (refine WS_seqK ?_; intro K hK) | (refine hK _ ?_; clear hK K) | refine stZ ?_ | refine sqZ ?_ | (refine LS_h (H_callX iI rfl p1 iI) rfl ?_; intro v2))
  refine ret_tmp (.inl rfl) rfl rfl ⟨v2, rfl, ?_⟩
  rw [star_assoc (mshI _ _ _)]
  refine Ent.mshI va ve ?_
  simp only [mshC]
  exact finE
end

section
open Go.RowKit
instance zeroMesh : Zero Tryz.prog 108 (.agg #[.slice none 0 0, .map none, .bool false, .bool false, .bool false, .bool false, .bool false, .bool false, .bool false, .bool false, .bool false, .bool false, .bool false, .bool false, .bool false, .bool false, .bool false, .bool false, .bool false, .bool false, .bool false, .bool false, .bool false, .bool false, .bool false, .bool false, .bool false, .bool false, .bool false, .bool false, .bool false, .bool false, .bool false, .bool false, .bool false, .bool false, .bool false, .bool false, .slice none 0 0, .int .u64 0, .slice none 0 0]) [.slice none 0 0, .map none, .bool false, .bool false, .bool false, .bool false, .bool false, .bool false, .bool false, .bool false, .bool false, .bool false, .bool false, .bool false, .bool false, .bool false, .bool false, .bool false, .bool false, .bool false, .bool false, .bool false, .bool false, .bool false, .bool false, .bool false, .bool false, .bool false, .bool false, .bool false, .bool false, .bool false, .bool false, .bool false, .bool false, .bool false, .bool false, .bool false, .slice none 0 0, .int .u64 0, .slice none 0 0] := ⟨by kernel_rfl, rfl⟩
theorem H_convBs {P : Program} {n : Frm} {w0 : World} {E : Env} {H : HProp} {d : Option Tmp} {ty : TypeId} {pos : String} {after : Array Edge} {gu : Option (Nat × Bool)} {x : Operand} {src dst e : TypeId} {l : Str} (hx : E.ev x = some (strV l)) (hs : Und P src .string) (hd : Und P dst (.slice e)) (he : Und P e (.int .u8)) (hn : l.length ≤ 1000000) : OpH P n w0 ⟨d, .convert src dst x, ty, pos, after, gu⟩ E H (fun y : SV => slV' y) (fun y => rows e 1 byteC (slV' y) l * H) := by
 refine OpH.mk' (pre := emp) (post := fun y : SV => rows e 1 byteC (slV' y) l) ?_ emp_star.symm
 intro G a w K Q s hs' hK
 rw [emp_star] at hs'
 obtain ⟨pre, post0, F, hop, hH, hp⟩ := H_convB (H := G) (P := P) (n := n) (w0 := w0) (d := d) (ty := ty) (pos := pos) (after := after) (gu := gu) hx hs hd he hn
 refine hop F a w K Q s (hs'.cast hH) fun x w' hx' => ?_
 have h2 := hx'.cast (hp x).symm
 obtain ⟨A, c, rfl⟩ := rows_form h2
 exact hK (A, l.length, c) w' h2
theorem newSta_sound (a : UInt32) : (newSta a).Sound 0 := by
 have h : Sta.Says ⟨a, some (Nd.new a [] 0), [], 0, false⟩ (Nd.newO a [] 0) 0 := ⟨⟨_, rfl, Nd.new_rest _ _ _, Nd.new_self _ _ _, Nd.new_joins _ _ _, Nd.new_ne _ _ _⟩, by simp, by simp⟩
 have hw := h.wrote
 have e : Sta.write ⟨a, some (Nd.new a [] 0), [], 0, false⟩ (Nd.newO a [] 0) = newSta a := by
  unfold Sta.write newSta
  split <;> simp
 rw [e] at hw
 exact hw
theorem amap_snoc (s : Sta) : ∀ (sts : List Sta) (k : Nat), stFind sts s.addr = none → mset (amap k sts) s.addr ((k + sts.length : Nat) : Int) = amap k (sts ++ [s])
 | [], k, _ => rfl
 | x :: r, k, h => by
  simp only [stFind] at h
  by_cases e : x.addr = s.addr
  ·rw [if_pos e] at h; cases h
  ·rw [if_neg e] at h
   have h' : stFind r s.addr = none := by
    cases hr : stFind r s.addr with
    | none => rfl
    | some j => rw [hr] at h; cases h
   have ih := amap_snoc s r (k + 1) h'
   simp only [amap, List.cons_append, mset_cons, if_neg e, List.length_cons]
   rw [← ih]
   congr 2
   omega
theorem stFind_none {l : List UInt32} {a : UInt32} (h : a ∉ l) : stFind (l.map newSta) a = none := by
 induction l with
 | nil => rfl
 | cons x r ih =>
  simp only [List.map_cons, stFind]
  rw [if_neg (fun e => h (by rw [← e]; exact List.mem_cons_self)), ih (fun h' => h (List.mem_cons_of_mem _ h'))]
  rfl
theorem stasQ_snoc {bs : List Nat} {sts : List Sta} (b : Nat) (s : Sta) (h : bs.length = sts.length) : stasQ (bs ++ [b]) (sts ++ [s]) = staP b s * stasQ bs sts := by
 rw [stasQ_eq (by simp [h]), stasQ_eq h, zrow_snoc b s h]
attribute [local irreducible] WS LS OpQ OpT OpH OpTQ Spec SpecQ cel
variable (w0 : World)
set_option maxRecDepth 100000 in
theorem mnewM_spec (l : List UInt32) (hl : 0 < l.length ∧ l.length ≤ 6) (h0 : ∀ a ∈ l, a ≠ 0) (hn : l.Nodup) (v : Value) (X : HProp) [hX : Rdr w0 X v UInt32 1 wordC l] :
    Spec Tryz.prog w0 26 [v] X (fun x : Nat × MH => .tuple #[ptr x.1 0, .int .i64 0]) (fun x => mshI x.1 x.2 (Ms.new l) * X) := by
  refine Spec.enter Tryz.func26 rfl Tryz.ntmps26 rfl fun G => ?_
  simp only [argE]
  have h1 : ¬ (l.length : Int) = 0 := by omega
  have h2 : ¬ (6 : Int) < (l.length : Int) := by omega
  repeat' (first | (refine WS_seqK ?_; intro K hK) | (refine hK _ ?_; clear hK K) | refine stZ ?_ | (refine s2Z ?_ ?_ <;> intro hc <;> (try simp only [cS] at hc) <;> (try (exfalso; first | contradiction | omega))) | refine sbZ ?_ | refine sqZ ?_ | (refine LS_h (H_makeMap u32 i64) rfl ?_; intro r) | (refine LS_h (H_box rfl) rfl ?_; intro gm))
  refine WS_loop (fun kk τ => ∃ (q : Nat) (vs : Value) (bs : List Nat), q + kk = l.length ∧ bs.length = q ∧ τ = ⟨[(24, .int .i64 (q : Int)), (23, .int .i64 (l.length : Int)), (22, v), (4, ptr gm 0), (0, v)], [], cel gm 108 (mshC (Ms.new []) ⟨vs, bs, r, .slice none 0 0, .slice none 0 0⟩) * (rows 115 1 ptrC vs bs * (mp u32 i64 r (amap 0 ((l.take q).map newSta)) * (stasQ bs ((l.take q).map newSta) * (X * G))))⟩) ?_ ?_
  · refine ⟨l.length, _, ⟨0, .slice none 0 0, [], by omega, rfl, rfl⟩, ⟨rfl, rfl, rfl, rfl, rfl, trivial⟩, rfl, ?_⟩
    rw [List.take_zero, List.map_nil, stasQ_eq rfl]
    show Ent (cel gm 108 (mshC (Ms.new []) ⟨.slice none 0 0, [], r, .slice none 0 0, .slice none 0 0⟩) * (mp u32 i64 r [] * (X * G))) (cel gm 108 (mshC (Ms.new []) ⟨.slice none 0 0, [], r, .slice none 0 0, .slice none 0 0⟩) * (rows 115 1 ptrC (.slice none 0 0) [] * (mp u32 i64 r [] * (emp * (X * G)))))
    rw [emp_star]
    exact finE
  · rintro kk τ ⟨q, vs, bs, hqk, hbq, rfl⟩
    rcases Nat.lt_or_ge q l.length with hlt | hge
    · obtain ⟨a, ha⟩ : ∃ a, l[q]? = some a := ⟨_, List.getElem?_eq_getElem hlt⟩
      have hmem := List.mem_of_getElem? ha
      have ha0 : ¬ a = 0 := h0 a hmem
      have hnot : a ∉ l.take q := by
        intro h
        have hd : a ∈ l.drop q := List.mem_of_getElem? (i := 0) (by rw [List.getElem?_drop, Nat.add_zero, ha])
        have hn' : (l.take q ++ l.drop q).Nodup := by rw [List.take_append_drop]; exact hn
        exact (List.nodup_append.1 hn').2.2 a h a hd rfl
      have hfind : stFind ((l.take q).map newSta) (newSta a).addr = none := stFind_none hnot
      have hget : mget (amap 0 ((l.take q).map newSta)) a = none := by rw [amap_get]; show (stFind _ (newSta a).addr).map _ = none; rw [hfind]; rfl
      have hsnoc := amap_snoc (newSta a) ((l.take q).map newSta) 0 hfind
      rw [show ((0 + ((l.take q).map newSta).length : Nat) : Int) = (q : Int) by simp; omega] at hsnoc
      have htk : (l.take (q + 1)).map newSta = (l.take q).map newSta ++ [newSta a] := by
        rw [List.take_add_one, ha]; simp
      have hblen : bs.length = ((l.take q).map newSta).length := by rw [hbq]; simp; omega
      have hq1 : (q : Int) < (l.length : Int) := by omega
      have hbs6 : bs.length ≤ 6 := by omega
      have hjl : (Nd.newO a [] 0).journal.length ≤ 1000000 := by have := (newSta_sound a).jour; show (newSta a).journal.length ≤ _; omega
      have p4 := (nnew_spec w0 a [] (by simp) 0 (.slice none 0 0) (rows 5 1 byteC (.slice none 0 0) [])).rein (fun y : Nat × SV × SV × SV => (y.1, svV y.2)) (fun x => (x.1, svOf3 x.2)) (fun x w F hx => by rw [star_assoc, star_assoc, star_left_comm] at hx; show (x.1, svV (svOf3 x.2)) = x; rw [outR_form hx])
      have p5 := p4.conv (X' := emp) (fun Z => by rw [emp_star]; exact Ent.nil _ _ _ _ _) (fun _ _ => Ent.refl _)
      clear p4
      have hns : newSta a = ⟨a, some (Nd.new a [] 0), (Nd.newO a [] 0).journal, 0, false⟩ := rfl
      generalize Nd.new a [] 0 = t2 at *
      generalize Nd.newO a [] 0 = o2 at *
      simp only [outA, svV, slV'] at p5
      simp only [mshC]
      repeat' (first | (refine WS_seqK ?_; intro K hK) | (refine hK _ ?_; clear hK K) | refine stZ ?_ | (refine s2Z ?_ ?_ <;> intro hc <;> (try simp only [cS] at hc) <;> (try (exfalso; first | contradiction | omega))) | refine sbZ ?_ | refine sqZ ?_ | ((first | refine' LQ ?zh rfl ?_ | refine' DL_qp rfl rfl rfl ?zh ?_ | refine' DL_q rfl rfl ?zh ?_); case zh => intro F'; exact Q_lookupOk_n rfl rfl iI iI iI iI iI (by assumption)) | ((first | refine' LS_h ?zh rfl ?_ | refine' DL_h ?zh rfl rfl rfl ?_); (case zh => exact H_alloc iI); intro g) | (refine s0Z ?_; intro g) | ((first | refine' LS_h0 ?zh ?_ | refine' DL_h0 ?zh rfl rfl ?_); (case zh => exact H_mapUpdate rfl rfl rfl iI iI iI iI iI); intro g) | (refine LS_h (H_callX iI rfl p5 ⟨emp_star.symm⟩) rfl ?_; intro x5) | (show WS _ _ _ (.region 12 _ true) _ _; refine WS_drawK (.range 17) 13 [4, 8] (by decide +kernel) rfl ?_) | (refine DL_h (H_convBs rfl iI iI iI hjl) rfl rfl rfl ?_; intro vb) | (refine DL_h (H_box rfl) rfl rfl rfl ?_; intro bx) | (refine DL_h (H_buildSliceR ptrC [bx] iI iI iI rfl rfl rfl rfl rfl iI rfl rfl rfl) rfl rfl rfl ?_; intro vx) | (refine DL_h (H_appendR rfl rfl iI iI rfl iI iI ptrC_one (by first | omega | (simp [be_length] <;> omega)) rfl) rfl rfl rfl ?_; intro va))
      refine ⟨kk - 1, _, by omega, ⟨q + 1, va, bs ++ [bx], by omega, by simp [hbq], rfl⟩, ⟨rfl, rfl, rfl, rfl, rfl, trivial⟩, rfl, ?_⟩
      rw [htk, stasQ_snoc bx (newSta a) hblen, ← hsnoc, star_assoc (staP _ _)]
      simp only [star_assoc, emp_star, star_emp]
      refine Ent.trans (F := staB bx x5.1 (slV' vb) (newSta a) * (cel gm 108 (mshC (Ms.new []) ⟨va, bs ++ [bx], r, .slice none 0 0, .slice none 0 0⟩) * (rows 115 1 ptrC va (bs ++ [bx]) * (mp u32 i64 r (mset (amap 0 ((l.take q).map newSta)) a (q : Int)) * (stasQ bs ((l.take q).map newSta) * (X * G)))))) (by rw [hns]; simp only [staB, staC, ptrN, staN, mshC, star_assoc]; exact finE) ?_
      refine Ent.trans (staP_I (F := cel gm 108 (mshC (Ms.new []) ⟨va, bs ++ [bx], r, .slice none 0 0, .slice none 0 0⟩) * (rows 115 1 ptrC va (bs ++ [bx]) * (mp u32 i64 r (mset (amap 0 ((l.take q).map newSta)) a (q : Int)) * (stasQ bs ((l.take q).map newSta) * (X * G))))) x5.1 (slV' vb) (Ent.refl _)) ?_
      show Ent _ (cel gm 108 (mshC (Ms.new []) ⟨va, bs ++ [bx], r, .slice none 0 0, .slice none 0 0⟩) * (rows 115 1 ptrC va (bs ++ [bx]) * (mp u32 i64 r (mset (amap 0 ((l.take q).map newSta)) a (q : Int)) * (staP bx (newSta a) * (stasQ bs ((l.take q).map newSta) * (X * G))))))
      exact finE
    · obtain rfl : q = l.length := by omega
      have hq1 : ¬ (l.length : Int) < (l.length : Int) := by omega
      repeat' (first | (refine WS_seqK ?_; intro K hK) | (refine hK _ ?_; clear hK K) | refine stZ ?_ | (refine s2Z ?_ ?_ <;> intro hc <;> (try simp only [cS] at hc) <;> (try (exfalso; first | contradiction | omega))) | refine sbZ ?_ | refine sqZ ?_)
      refine ret_tmp2 (.inl rfl) rfl rfl rfl ⟨(gm, ⟨vs, bs, r, .slice none 0 0, .slice none 0 0⟩), rfl, ?_⟩
      rw [List.take_length, star_assoc (mshI _ _ _)]
      refine Ent.mshI (.slice none 0 0) (.slice none 0 0) ?_
      show Ent _ (cel gm 108 (mshC (Ms.new []) ⟨vs, bs, r, .slice none 0 0, .slice none 0 0⟩) * (rows 115 1 ptrC vs bs * (mp u32 i64 r (amap 0 (l.map newSta)) * (stasQ bs (l.map newSta) * (rows 114 3 flC (.slice none 0 0) [] * (X * G))))))
      exact finE
end

end Go.Proofs.YtapoehkdnglahabGreat

