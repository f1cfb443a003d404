/- A part of what Circles needs. -/
import Derived.Test.YtapoehkdnglahabGreatCirclesGn
set_option maxHeartbeats 32000000
set_option linter.unusedVariables false
set_option linter.unusedSimpArgs false
set_option linter.unusedSectionVars false
namespace Go.Proofs.YtapoehkdnglahabGreat
section
open Go.RowKit
structure Ms.Fine (m : Ms) (c : Nat) : Prop where
  short : m.sts.length ≤ 6
  sound : ∀ (i : Nat) s, m.sts[i]? = some s → s.Sound c
  air : m.AirOk
@[irreducible] def evB : Nat := 42501
theorem evB_eq : evB = 42501 := by unfold evB; rfl
structure Ms.Told (m mq : Ms) (q c : Nat) : Prop where
  now : mq.now = m.now
  hears : mq.hears = m.hears
  addrs : mq.sts.map (·.addr) = m.sts.map (·.addr)
  later : ∀ i, q ≤ i → mq.sts[i]? = m.sts[i]?
  sound : ∀ (i : Nat) s, mq.sts[i]? = some s → s.Sound (c + 1)
  air : mq.AirOk
  evs : mq.evs.length ≤ m.evs.length + q * evB
theorem Ms.Told.length {m mq : Ms} {q c : Nat} (h : m.Told mq q c) : mq.sts.length = m.sts.length := by
  have := congrArg List.length h.addrs
  simpa using this
theorem Ms.Told.zero {m : Ms} {c : Nat} (h : m.Fine c) : m.Told m 0 c := by
  constructor
  · rfl
  · rfl
  · rfl
  · exact fun _ _ => rfl
  · exact fun i s hs => (h.sound i s hs).mono (Nat.le_succ c)
  · exact h.air
  · rw [Nat.zero_mul]; exact Nat.le_refl _
theorem Ms.tickN_told {m : Ms} {c : Nat} (h : m.Fine c) (hc : c ≤ 8500) (hn : m.now.toNat ≤ 4611686018427387904) : ∀ q, q ≤ m.sts.length → m.Told (Ms.tickN q m) q c
  | 0, _ => Ms.Told.zero h
  | q + 1, hq => by
    have ih := Ms.tickN_told h hc hn q (by omega)
    have hlater := ih.later q (Nat.le_refl _)
    obtain ⟨s, hs⟩ : ∃ s, m.sts[q]? = some s := ⟨_, List.getElem?_eq_getElem (by omega)⟩
    rw [hs] at hlater
    have hso := h.sound q s hs
    unfold Ms.tickN
    rw [hlater]
    simp only [Option.bind_some]
    cases ht : s.node with
    | none =>
      have h1 := ih.evs
      have h2 : (Ms.tickN q m).evs.length ≤ m.evs.length + (q + 1) * evB := by rw [Nat.add_mul]; omega
      exact ⟨ih.now, ih.hears, ih.addrs, fun i hi => ih.later i (by omega), ih.sound, ih.air, h2⟩
    | some t =>
      simp only
      rw [ih.now]
      have hrt := (hso.node t ht).1
      have hw := hrt.wentTick hc hn
      have hsay := (hso.mono (Nat.le_succ c)).says ht hw
      have hfr := Nd.tickF_frames hrt hc hn
      have hD := Ms.Did.run (Ms.Did.emit (Ms.mod_at (f := (·.run (t.tickF m.now))) hlater) hsay hw.pks.le)
      exact ⟨hD.kept.now.trans ih.now, hD.kept.hears.trans ih.hears, hD.kept.addrs.trans ih.addrs, fun i hi => (hD.kept.other i (by omega)).trans (ih.later i (by omega)), fun i s' hs' => by
        by_cases e : i = q
        · subst e
          obtain ⟨s2, h1, h2⟩ := hD.here
          rw [h1] at hs'
          cases hs'
          exact h2
        · rw [hD.kept.other i e] at hs'
          exact ih.sound i s' hs', hD.air ih.air, by have := hD.evs; have := ih.evs; have := evB_eq; rw [Nat.add_mul]; omega⟩
theorem Sta.run_tear (s : Sta) (t : Nd) : (s.run t).tear = s.tear := rfl
theorem Sta.run_armed (s : Sta) (t : Nd) : (s.run t).armed = s.armed := rfl
theorem Sta.run_journal (s : Sta) (t : Nd) : (s.run t).journal = s.journal := rfl
attribute [local irreducible] WS LS OpQ OpT OpH OpTQ Spec SpecQ cel
variable (w0 : World)
theorem emitX_spec (gm : Nat) (k : MH) (i b c : Nat) (hb : k.bs[i]? = some b) (m : Ms) (el : List ES) (o : OutD) (v : Value × Value × Value) (s : Sta) (f : Sta → Sta) (t' : Nd) (hfa : ∀ s, (f s).addr = s.addr) (hn : (f s).node = some t') (hs : m.sts[i]? = some s) (hso : (f s).Says o c) (hpk : ∀ f ∈ o.frames, f.2.length ≤ 100000) (hfl : o.frames.length ≤ 100000) (hair : m.AirOk) (hevs : m.evs.length + o.frames.length + 2 ≤ 890000) (h6 : m.sts.length ≤ 6)
    (hel : el.map (·.1) = m.evs) (R : HProp) (e2 : stasQ k.bs (m.sts.modify i f) = staP b (f s) * R) (va ve : Value) (gn : Nat) (vj : Value) :
    Spec Tryz.prog w0 85 [ptr gm 0, .int .i64 (i : Int), outA o v] (cel gm 108 (mshC m ⟨k.vs, k.bs, k.r, va, ve⟩) * (rows 115 1 ptrC k.vs k.bs * (mp u32 i64 k.r (amap 0 m.sts) * (cel b 118 [u32 s.addr, ptr gn 0, vj, .int .i64 (f s).tear, .bool (f s).armed] * (rows 5 1 byteC vj (f s).journal * (nodI gn t' * (R * (rows 114 3 flC va m.air * (rows 68 7 evC ve el * outR o v)))))))))
      (fun _ : List ES => .tuple #[]) (fun new => mshA gm k (Ms.emit i (m.mod i f) o) (el ++ new) * evsO new) := by
  have hk : m.Kept (m.mod i f) i := Ms.Kept.mod hfa
  refine (emit_spec w0 gm k i b c hb (m.mod i f) el o v (f s) (Ms.mod_at hs) hso hpk hfl ⟨hair.few, fun x hx => by rw [hk.length]; exact hair.each x hx⟩ hevs (by rw [hk.length]; exact h6)).conv (fun Z => ?_) (fun _ _ => Ent.refl _)
  rw [star_assoc (mshA _ _ _ _)]
  refine Ent.msh va ve hel ?_
  refine Ent.sta (m := m.mod i f) gn vj e2 ?_
  unfold mshS
  rw [show amap 0 (m.mod i f).sts = amap 0 m.sts from amap_mod m i hfa]
  simp only [mshC, Ms.mod, staB, staC, hn, ptrN, staN, hfa]
  exact finE
set_option maxRecDepth 100000 in
theorem mtickM_spec (gm : Nat) (k : MH) (m : Ms) (el : List ES) (n : UInt64) (c : Nat) (hf : m.Fine c) (hc : c ≤ 8500) (hn : (m.now + n).toNat ≤ 4611686018427387904) (hev : m.evs = []) : Spec Tryz.prog w0 40 [ptr gm 0, u64 n] (mshA gm k m el) (fun _ : List ES => .tuple #[]) (fun new => mshA gm k (m.tick n) (el ++ new) * evsO new) := by
  refine Spec.enter Tryz.func40 rfl Tryz.ntmps40 rfl fun G => ?_
  obtain ⟨m1, hm1⟩ : ∃ m1 : Ms, m1 = { m with now := m.now + n } := ⟨_, rfl⟩
  have htick : m.tick n = Ms.tickN m1.sts.length m1 := by rw [hm1]; rfl
  have hf1 : m1.Fine c := by rw [hm1]; exact ⟨hf.short, hf.sound, ⟨hf.air.few, hf.air.each⟩⟩
  have hn1 : m1.now.toNat ≤ 4611686018427387904 := by rw [hm1]; exact hn
  have hev1 : m1.evs = [] := by rw [hm1]; exact hev
  have h6 := hf1.short
  rw [htick]
  refine WS_msh fun va ve hel => ?_
  refine WS_mlen fun hbl => ?_
  have hbl1 : k.bs.length = m1.sts.length := by rw [hm1]; exact hbl
  have hel1 : el.map (·.1) = m1.evs := by rw [hm1]; exact hel
  simp only [mshP, mshC, argE]
  repeat' (first | (refine WS_seqK ?_; intro K hK) | (refine hK _ ?_; clear hK K) | refine stZ ?_ | refine sqZ ?_ | ((refine' LQ ?zh rfl ?_); case zh => intro F'; exact Q_bin rfl rfl iI) | (refine s0Z ?_; intro g))
  refine WS_loop (fun kk τ => ∃ (q : Nat) (new : List ES), q + kk = m1.sts.length ∧ τ = ⟨[(19, .int .i64 (q : Int)), (18, .int .i64 (k.bs.length : Int)), (17, k.vs), (0, ptr gm 0)], [], mshA gm k (Ms.tickN q m1) (el ++ new) * (evsO new * G)⟩) ?_ ?_
  · refine ⟨m1.sts.length, _, ⟨0, [], by omega, rfl⟩, ⟨rfl, rfl, rfl, rfl, trivial⟩, rfl, ?_⟩
    rw [List.append_nil]
    refine Ent.msh va ve hel1 ?_
    rw [hm1]
    simp only [Ms.tickN, mshP, mshC, evsO, emp_star]
    exact finE
  · clear hel hel1 hbl htick
    rintro kk τ ⟨q, new, hqk, rfl⟩
    have hT := Ms.tickN_told hf1 hc hn1 q (by omega)
    rcases Nat.lt_or_ge q m1.sts.length with hlt | hge
    · obtain ⟨s, hs⟩ : ∃ s, m1.sts[q]? = some s := ⟨_, List.getElem?_eq_getElem hlt⟩
      have hso := hf1.sound q s hs
      have hsq := (hT.later q (Nat.le_refl _)).trans hs
      have hstep : Ms.tickN (q + 1) m1 = match s.node with | some t => Ms.emit q ((Ms.tickN q m1).mod q (·.run (t.tickF (Ms.tickN q m1).now))) (t.tickF (Ms.tickN q m1).now).out | none => Ms.tickN q m1 := by
        show (match ((Ms.tickN q m1).sts[q]?).bind (·.node) with | some s => _ | none => _) = _
        rw [hsq]
        rfl
      rw [hT.now] at hstep
      have hlq := hT.length
      have hairq := hT.air
      have hevq := hT.evs
      have hsoq := hT.sound q s hsq
      rw [hev1, List.length_nil, Nat.zero_add, evB_eq] at hevq
      have hnq := hT.now
      clear hT
      generalize Ms.tickN q m1 = mq at *
      refine WS_msh fun va1 ve1 hel => ?_
      refine WS_mlen fun hblq => ?_
      obtain ⟨b, hb⟩ : ∃ b, k.bs[q]? = some b := ⟨_, List.getElem?_eq_getElem (by omega)⟩
      obtain ⟨R, e1, e2⟩ := stas_open hblq hb hsq
      refine WS_sta e1 fun gn vj => ?_
      unfold mshS
      have hq1 : (q : Int) < (k.bs.length : Int) := by omega
      simp only [mshC, staB, staC, hnq]
      cases ht : s.node with
      | none =>
        rw [ht] at hstep
        simp only at hstep
        simp only [ptrN, staN]
        repeat' (first | (refine WS_seqK ?_; intro K hK) | (refine hK _ ?_; clear hK K) | refine stZ ?_ | (refine s2Z ?_ ?_ <;> intro hc <;> (try simp only [cS] at hc) <;> (try (exfalso; first | contradiction | omega))) | refine sqZ ?_ | ((refine' LQ ?zh rfl ?_); case zh => intro F'; exact Q_bin_t rfl rfl iI (by first | assumption | omega | decide | rfl)) | ((refine' LQ ?zh rfl ?_); case zh => intro F'; exact Q_bin rfl rfl iI))
        refine ⟨kk - 1, _, by omega, ⟨q + 1, new, by omega, rfl⟩, ⟨rfl, rfl, rfl, rfl, trivial⟩, rfl, ?_⟩
        rw [hstep]
        refine Ent.msh va1 ve1 hel ?_
        refine Ent.sta gn vj e1 ?_
        unfold mshS
        simp only [mshC, staB, staC, ht, ptrN, staN, hnq]
        exact finE
      | some t =>
        rw [ht] at hstep
        simp only at hstep
        have hrt := (hso.node t ht).1
        have hw := hrt.wentTick hc hn1
        have hsay := (hso.mono (Nat.le_succ c)).says ht hw
        have hfr := Nd.tickF_frames hrt hc hn1
        have p1 := ntick_spec w0 gn t m1.now hrt hc hn1
        have p2 := fun v => emitX_spec w0 gm k q b (c + 1) hb mq (el ++ new) (t.tickF m1.now).out v s (·.run (t.tickF m1.now)) (t.tickF m1.now) (fun _ => rfl) rfl hsq hsay hw.pks.le (by omega) hairq (by rw [hlq] at *; omega) (by omega) hel R (e2 _) va1 ve1 gn vj
        simp only [ptrN, staN]
        generalize t.tickF m1.now = t2 at *
        simp only [outA, mshC, Sta.run_tear, Sta.run_armed, Sta.run_journal, hnq] at p1 p2
        repeat' (first | (show WS _ _ _ (.region 5 _ true) _ _; refine WS_drawK (.range 12) 10 [5, 9] (by decide +kernel) rfl ?_) | (refine WS_seqK ?_; intro K hK) | (refine hK _ ?_; clear hK K) | refine stZ ?_ | (refine s2Z ?_ ?_ <;> intro hc <;> (try simp only [cS] at hc) <;> (try (exfalso; first | contradiction | omega))) | refine sqZ ?_ | ((first | refine' LQ ?zh rfl ?_ | refine' DL_qp rfl rfl rfl ?zh ?_ | refine' DL_q rfl rfl ?zh ?_); case zh => intro F'; exact Q_bin_t rfl rfl iI (by first | assumption | omega | decide | rfl)) | ((refine' LQ ?zh rfl ?_); case zh => intro F'; exact Q_bin rfl rfl iI) | (refine DL_h (H_callX iI rfl p1 iI) rfl rfl rfl ?_; intro x7) | (refine DL_h (H_callX iI rfl (p2 x7) iI) rfl rfl rfl ?_; intro new2))
        refine ⟨kk - 1, _, by omega, ⟨q + 1, new ++ new2, by omega, rfl⟩, ⟨rfl, rfl, rfl, rfl, trivial⟩, rfl, ?_⟩
        rw [hstep, show el ++ (new ++ new2) = el ++ new ++ new2 by simp, evsO_append]
        exact finE
    · obtain rfl : q = m1.sts.length := by omega
      have hq1 : ¬ (m1.sts.length : Int) < (k.bs.length : Int) := by omega
      repeat' (first | (refine WS_seqK ?_; intro K hK) | (refine hK _ ?_; clear hK K) | refine stZ ?_ | (refine s2Z ?_ ?_ <;> intro hc <;> (try simp only [cS] at hc) <;> (try (exfalso; first | contradiction | omega))) | refine sbZ ?_)
      exact ret_none (.inr rfl) rfl ⟨new, rfl, finE⟩
end

section
open Go.RowKit
section
variable {P : Program} {n : Frm} {w0 : World} {E : Env} {D : List Deferred} {H F F1 F2 : HProp} {Q : Exit → St → Prop} {l l' : List Oper}
theorem WS_drawRL {id : Nat} (t : Nat) (idx : List Nat) (cp : Nat) (bs : List Nat) {g off : Nat} {bt : TypeId} {cs : List Value} (hs : statD P l idx (inB bs) cp = true) (hl : permL l idx = some l') (hx : E.get t = some (ptr g off)) (hR : LimbB H g bt cs F) (h : DL P n w0 l.toArray Q D (cel g bt cs) F (inB bs) cp 0 false l' E emp) : WS P n w0 (.region id l.toArray true) Q ⟨E, D, H⟩ :=
  WS_draw idx l' (cel g bt cs) F emp (inB bs) cp hs (by rw [hR.eq, star_emp]) (permL_eq hl) h
instance (priority := low) own_in (G X H F : HProp) [h : Own H X F] : Own (H * G) X (F * G) := ⟨by rw [h.eq, star_assoc]⟩
theorem Q_loadSta {d : Option Tmp} {ty : TypeId} {pos : String} {after : Array Edge} {gu : Option (Nat × Bool)} {x : Operand} {t : TypeId} {b : Nat} {s : Sta} (hx : E.ev x = some (ptr b 0)) (hl : Own H (staP b s) F) (ht : Scal P t) : OpQ P n w0 ⟨d, .load t x, ty, pos, after, gu⟩ E H (u32 s.addr) := fun a w se hs => by
  have h1 := hs.cast hl.eq
  unfold staP at h1
  obtain ⟨y, h2⟩ := h1.ex
  unfold staB staC at h2
  rw [star_assoc] at h2
  exact Q_load (cs := staC s y.1 y.2) hx ⟨rfl⟩ ht rfl a w se h2
end
theorem stas_open2 {bs : List Nat} {sts : List Sta} {i b j b2 : Nat} {s s2 : Sta} (hl : bs.length = sts.length) (hb : bs[i]? = some b) (hs : sts[i]? = some s) (hb2 : bs[j]? = some b2) (hs2 : sts[j]? = some s2) (hij : i ≠ j) : ∃ R, stasQ bs sts = staP b s * (staP b2 s2 * R) ∧ ∀ f : Sta → Sta, stasQ bs (sts.modify i f) = staP b (f s) * (staP b2 s2 * R) := by
  obtain ⟨R1, e1, e2, e3⟩ := zrow_hole staP hb hs
  have hge : ∀ {α : Type} (l : List α), (l.eraseIdx i)[if j < i then j else j - 1]? = l[j]? := fun l => by
    rw [List.getElem?_eraseIdx]
    by_cases h : j < i
    · simp [h]
    · rw [if_neg h, if_neg (by omega)]
      congr 1
      omega
  obtain ⟨R, d1, _, _⟩ := zrow_hole staP ((hge bs).trans hb2) ((hge sts).trans hs2)
  rw [e3] at d1
  subst d1
  refine ⟨R, by rw [stasQ_eq hl, e1], fun f => ?_⟩
  have hm : sts.modify i f = sts.set i (f s) := modify_set hs f
  have hbs : bs.set i b = bs := by
    apply List.ext_getElem?
    intro j
    rw [List.getElem?_set]
    split
    · rename_i e; subst e; obtain ⟨h1, h2⟩ := List.getElem?_eq_some_iff.1 hb; simp [h1, h2]
    · rfl
  have := e2 b (f s)
  rw [hbs] at this
  rw [hm, stasQ_eq (by simpa using hl), this]
theorem rcvF_few {t : Nd} {c : Nat} (h : t.Rest c) (now : UInt64) (src : UInt32) (f : Str) : (t.rcvF now src f).out.frames.length ≤ 6 := by
  have h := (Nd.Step.rcv (h.inv.begin now) now src f).frames
  rw [Nd.begin_frames] at h
  obtain ⟨_, _, _, _, _, _, _, e8, _⟩ := ((t.begin now).rcv now src f).done_same
  unfold Nd.rcvF
  rw [e8]
  simpa using h
def opC (o : OpD) : List Value := [.int .i64 o.kind, .int .i64 o.a, .int .i64 o.b, .int .i64 o.n, .bool o.on, strV o.text]
def opA (o : OpD) : Value := .agg (opC o).toArray
theorem Ms.AirOk.erase {m : Ms} (h : m.AirOk) (k : Nat) : Ms.AirOk { m with air := m.air.eraseIdx k } := by
  refine ⟨?_, fun x hx => h.each x ((List.eraseIdx_sublist _ _).subset hx)⟩
  show (m.air.eraseIdx k).length ≤ 48
  have := h.few
  rw [List.length_eraseIdx]; split <;> omega
attribute [local irreducible] WS LS OpQ OpT OpH OpTQ Spec SpecQ cel
variable (w0 : World)
set_option maxRecDepth 100000 in
theorem mframe_spec (gm : Nat) (k : MH) (m : Ms) (el : List ES) (o : OpD) (kk c : Nat) (hf : m.Fine c) (hkk : kk < m.air.length) (hb : -9223372036854775808 ≤ o.n ∧ o.n ≤ 9223372036854775807) (hev : m.evs = []) : Spec Tryz.prog w0 39 [ptr gm 0, opA o, .int .i64 (kk : Int)] (mshA gm k m el) (fun _ : List ES => .tuple #[]) (fun new => mshA gm k (m.frame o kk) (el ++ new) * evsO new) := by
  obtain ⟨f, hfl⟩ : ∃ f, m.air[kk]? = some f := ⟨_, List.getElem?_eq_getElem hkk⟩
  obtain ⟨a1, a2, a3⟩ := hf.air.each _ (List.mem_of_getElem? hfl)
  have h6 := hf.short
  have hfew := hf.air.few
  obtain ⟨s, hs⟩ : ∃ s, m.sts[f.dst]? = some s := ⟨_, List.getElem?_eq_getElem a2⟩
  obtain ⟨s1, hs1⟩ : ∃ s, m.sts[f.src]? = some s := ⟨_, List.getElem?_eq_getElem a1⟩
  have p1 := fun v => delete_spec w0 v m.air kk hkk (by omega)
  obtain ⟨kind, oa, ob, on_, oo, ot⟩ := o
  simp only at hb
  refine Spec.enter Tryz.func39 rfl Tryz.ntmps39 rfl fun G => ?_
  refine WS_msh fun va ve hel => ?_
  refine WS_mlen fun hbl => ?_
  obtain ⟨b, hbb⟩ : ∃ b, k.bs[f.dst]? = some b := ⟨_, List.getElem?_eq_getElem (by omega)⟩
  obtain ⟨b1, hbb1⟩ : ∃ b, k.bs[f.src]? = some b := ⟨_, List.getElem?_eq_getElem (by omega)⟩
  unfold Ms.frame
  rw [hfl]
  simp only [opA, opC, argE]
  by_cases k4 : kind = 4
  · subst k4
    rw [if_pos rfl, hs]
    simp only [Option.bind_some]
    have hso := hf.sound f.dst s hs
    rw [hs1]
    by_cases hij : f.dst = f.src
    · obtain rfl : b = b1 := by rw [hij, hbb1] at hbb; exact (Option.some.inj hbb).symm
      obtain rfl : s = s1 := by rw [hij, hs1] at hs; exact (Option.some.inj hs).symm
      obtain ⟨R, e1, e2⟩ := stas_open hbl hbb hs
      refine WS_sta e1 fun gn vj => ?_
      unfold mshS
      simp only [mshC, staB, staC]
      cases ht : s.node with
      | none =>
        simp only [ptrN, staN]
        repeat' (first | (show WS _ _ _ (.region 5 _ true) _ _; refine WS_drawA (.range 9) (by decide +kernel) rfl ?_) | (refine WS_seqK ?_; intro K hK) | (refine hK _ ?_; clear hK K) | refine stZ ?_ | (refine s2Z ?_ ?_ <;> intro hc <;> (try simp only [cS] at hc) <;> (try (exfalso; first | contradiction | omega))) | refine sqZ ?_ | ((first | refine' LQ ?zh rfl ?_ | refine' DL_q rfl rfl ?zh ?_); case zh => intro F'; exact Q_bin_t rfl rfl iI (by first | assumption | omega | decide | rfl)) | ((refine' LQ ?zh rfl ?_); case zh => intro F'; exact Q_bin rfl rfl iI) | (refine shZ ?_; intro g) | (refine s0Z ?_; intro g) | ((refine' LS_h0 ?zh ?_); (case zh => exact H_storeA rfl rfl iI iI (by first | rfl | (simp only [List.all_cons, List.all_nil, *]; rfl)) rfl); intro g) | (refine LS_h (H_callX iI rfl (p1 _) iI) rfl ?_; intro va2))
        refine ret_none (.inr rfl) rfl ⟨[], rfl, ?_⟩
        rw [List.append_nil, star_assoc (mshA _ _ _ _)]
        refine Ent.msh va2 ve hel ?_
        refine Ent.sta (m := { m with air := m.air.eraseIdx kk }) gn vj e1 ?_
        unfold mshS
        simp only [mshC, staB, staC, ht, ptrN, staN, evsO, emp_star]
        exact finE
      | some t =>
        have hrt := (hso.node t ht).1
        have hw := hrt.wentRcv m.now s.addr f.bytes
        have hsay := hso.says ht hw
        have hfr := rcvF_few hrt m.now s.addr f.bytes
        have p2 := fun v => nrcv_spec w0 gn t m.now s.addr f.bytes hrt (by omega) v (rows 5 1 byteC v f.bytes)
        have p3 := fun va2 v => emitX_spec w0 gm k f.dst b c hbb { m with air := m.air.eraseIdx kk } el (t.rcvF m.now s.addr f.bytes).out v s (·.run (t.rcvF m.now s.addr f.bytes)) (t.rcvF m.now s.addr f.bytes) (fun _ => rfl) rfl hs hsay hw.pks.le (by omega) (hf.air.erase kk) (by rw [hev]; simp only [List.length_nil]; omega) h6 hel R (e2 _) va2 ve gn vj
        simp only [ptrN, staN, Option.map_some, Option.getD_some]
        generalize t.rcvF m.now s.addr f.bytes = t2 at *
        simp only [outA, mshC, Sta.run_tear, Sta.run_armed, Sta.run_journal, star_assoc] at p2 p3 ⊢
        repeat' (first | (show WS _ _ _ (.region 5 _ true) _ _; refine WS_drawA (.range 9) (by decide +kernel) rfl ?_) | (refine WS_seqK ?_; intro K hK) | (refine hK _ ?_; clear hK K) | refine stZ ?_ | (refine s2Z ?_ ?_ <;> intro hc <;> (try simp only [cS] at hc) <;> (try (exfalso; first | contradiction | omega))) | refine sqZ ?_ | ((first | refine' LQ ?zh rfl ?_ | refine' DL_qp rfl rfl rfl ?zh ?_ | refine' DL_q rfl rfl ?zh ?_); case zh => intro F'; exact Q_bin_t rfl rfl iI (by first | assumption | omega | decide | rfl)) | ((refine' LQ ?zh rfl ?_); case zh => intro F'; exact Q_bin rfl rfl iI) | (refine shZ ?_; intro g) | (refine s0Z ?_; intro g) | ((refine' LS_h0 ?zh ?_); (case zh => exact H_storeA rfl rfl iI iI (by first | rfl | (simp only [List.all_cons, List.all_nil, *]; rfl)) rfl); intro g) | (refine LS_h (H_callX iI rfl (p1 _) iI) rfl ?_; intro va2) | (show WS _ _ _ (.region 7 _ true) _ _; refine WS_drawRL 6 (.range 27) 25 [6, 10, 14, 17, 18, 21] (by decide +kernel) rfl rfl iI ?_) | (refine DL_h (H_convB rfl iI iI iI (by omega)) rfl rfl rfl ?_; intro vb) | (refine DL_h (H_callX iI rfl (p2 _) iI) rfl rfl rfl ?_; intro x7) | (refine DL_h (H_callX iI rfl (p3 va2 x7) iI) rfl rfl rfl ?_; intro new2))
        exact ret_none (.inr rfl) rfl ⟨new2, rfl, finE⟩
    · obtain ⟨R, e1, e2⟩ := stas_open2 hbl hbb hs hbb1 hs1 hij
      refine WS_sta e1 fun gn vj => ?_
      unfold mshS
      simp only [mshC, staB, staC]
      cases ht : s.node with
      | none =>
        simp only [ptrN, staN]
        repeat' (first | (show WS _ _ _ (.region 5 _ true) _ _; refine WS_drawA (.range 9) (by decide +kernel) rfl ?_) | (refine WS_seqK ?_; intro K hK) | (refine hK _ ?_; clear hK K) | refine stZ ?_ | (refine s2Z ?_ ?_ <;> intro hc <;> (try simp only [cS] at hc) <;> (try (exfalso; first | contradiction | omega))) | refine sqZ ?_ | ((first | refine' LQ ?zh rfl ?_ | refine' DL_q rfl rfl ?zh ?_); case zh => intro F'; exact Q_bin_t rfl rfl iI (by first | assumption | omega | decide | rfl)) | ((refine' LQ ?zh rfl ?_); case zh => intro F'; exact Q_bin rfl rfl iI) | (refine shZ ?_; intro g) | (refine s0Z ?_; intro g) | ((refine' LS_h0 ?zh ?_); (case zh => exact H_storeA rfl rfl iI iI (by first | rfl | (simp only [List.all_cons, List.all_nil, *]; rfl)) rfl); intro g) | (refine LS_h (H_callX iI rfl (p1 _) iI) rfl ?_; intro va2))
        refine ret_none (.inr rfl) rfl ⟨[], rfl, ?_⟩
        rw [List.append_nil, star_assoc (mshA _ _ _ _)]
        refine Ent.msh va2 ve hel ?_
        refine Ent.sta (m := { m with air := m.air.eraseIdx kk }) gn vj e1 ?_
        unfold mshS
        simp only [mshC, staB, staC, ht, ptrN, staN, evsO, emp_star]
        exact finE
      | some t =>
        have hrt := (hso.node t ht).1
        have hw := hrt.wentRcv m.now s1.addr f.bytes
        have hsay := hso.says ht hw
        have hfr := rcvF_few hrt m.now s1.addr f.bytes
        have p2 := fun v => nrcv_spec w0 gn t m.now s1.addr f.bytes hrt (by omega) v (rows 5 1 byteC v f.bytes)
        have p3 := fun va2 v => emitX_spec w0 gm k f.dst b c hbb { m with air := m.air.eraseIdx kk } el (t.rcvF m.now s1.addr f.bytes).out v s (·.run (t.rcvF m.now s1.addr f.bytes)) (t.rcvF m.now s1.addr f.bytes) (fun _ => rfl) rfl hs hsay hw.pks.le (by omega) (hf.air.erase kk) (by rw [hev]; simp only [List.length_nil]; omega) h6 hel (staP b1 s1 * R) (e2 _) va2 ve gn vj
        simp only [ptrN, staN, Option.map_some, Option.getD_some]
        generalize t.rcvF m.now s1.addr f.bytes = t2 at *
        simp only [outA, mshC, Sta.run_tear, Sta.run_armed, Sta.run_journal, star_assoc] at p2 p3 ⊢
        repeat' (first | (show WS _ _ _ (.region 5 _ true) _ _; refine WS_drawA (.range 9) (by decide +kernel) rfl ?_) | (refine WS_seqK ?_; intro K hK) | (refine hK _ ?_; clear hK K) | refine stZ ?_ | (refine s2Z ?_ ?_ <;> intro hc <;> (try simp only [cS] at hc) <;> (try (exfalso; first | contradiction | omega))) | refine sqZ ?_ | ((first | refine' LQ ?zh rfl ?_ | refine' DL_qp rfl rfl rfl ?zh ?_ | refine' DL_q rfl rfl ?zh ?_); case zh => intro F'; exact Q_bin_t rfl rfl iI (by first | assumption | omega | decide | rfl)) | ((first | refine' LQ ?zh rfl ?_ | refine' DL_qp rfl rfl rfl ?zh ?_); case zh => intro F'; exact Q_bin rfl rfl iI) | (refine shZ ?_; intro g) | (refine s0Z ?_; intro g) | ((refine' LS_h0 ?zh ?_); (case zh => exact H_storeA rfl rfl iI iI (by first | rfl | (simp only [List.all_cons, List.all_nil, *]; rfl)) rfl); intro g) | (refine LS_h (H_callX iI rfl (p1 _) iI) rfl ?_; intro va2) | (show WS _ _ _ (.region 7 _ true) _ _; refine WS_drawRL 6 (.range 27) 25 [6, 10, 14, 17, 18, 21] (by decide +kernel) rfl rfl iI ?_) | (refine' DL_qp rfl rfl rfl ?zh ?_; (case zh => intro F'; exact Q_loadSta (s := s1) (b := b1) rfl iI iI)) | (refine DL_h (H_convB rfl iI iI iI (by omega)) rfl rfl rfl ?_; intro vb) | (refine DL_h (H_callX iI rfl (p2 _) iI) rfl rfl rfl ?_; intro x7) | (refine DL_h (H_callX iI rfl (p3 va2 x7) iI) rfl rfl rfl ?_; intro new2))
        exact ret_none (.inr rfl) rfl ⟨new2, rfl, finE⟩
  · rw [if_neg k4]
    by_cases k5 : kind = 5
    · subst k5
      rw [if_pos rfl]
      simp only [mshP, mshC]
      repeat' (first | (refine WS_seqK ?_; intro K hK) | (refine hK _ ?_; clear hK K) | refine stZ ?_ | (refine s2Z ?_ ?_ <;> intro hc <;> (try simp only [cS] at hc) <;> (try (exfalso; first | contradiction | omega))) | refine sqZ ?_ | ((refine' LQ ?zh rfl ?_); case zh => intro F'; first | exact Q_bin_t rfl rfl iI (by first | assumption | omega | decide | rfl) | exact Q_bin_f rfl rfl iI (by first | assumption | omega | decide | rfl)) | (refine shZ ?_; intro g) | (refine s0Z ?_; intro g) | ((refine' LS_h0 ?zh ?_); (case zh => exact H_storeA rfl rfl iI iI (by first | rfl | (simp only [List.all_cons, List.all_nil, *]; rfl)) rfl); intro g) | (refine LS_h (H_callX iI rfl (p1 _) iI) rfl ?_; intro va2))
      refine ret_none (.inr rfl) rfl ⟨[], rfl, ?_⟩
      rw [List.append_nil, star_assoc (mshA _ _ _ _)]
      refine Ent.msh va2 ve hel ?_
      simp only [mshP, mshC, evsO, emp_star]
      exact finE
    · rw [if_neg k5]
      by_cases k6 : kind = 6
      · subst k6
        rw [if_pos rfl]
        have p4 := fly_spec w0 gm m ⟨k.vs, k.bs, k.r, va, ve⟩ f hfew
        simp only [flC, mshC] at p4
        simp only [mshP, mshC]
        repeat' (first | (refine WS_seqK ?_; intro K hK) | (refine hK _ ?_; clear hK K) | refine stZ ?_ | (refine s2Z ?_ ?_ <;> intro hc <;> (try simp only [cS] at hc) <;> (try (exfalso; first | contradiction | omega))) | refine sqZ ?_ | ((refine' LQ ?zh rfl ?_); case zh => intro F'; first | exact Q_bin_t rfl rfl iI (by first | assumption | omega | decide | rfl) | exact Q_bin_f rfl rfl iI (by first | assumption | omega | decide | rfl)) | (refine shZ ?_; intro g) | ((refine' LS_h0 ?zh ?_); (case zh => exact H_storeA rfl rfl iI iI (by first | rfl | (simp only [List.all_cons, List.all_nil, *]; rfl)) rfl); intro g) | (refine LS_h (H_callX iI rfl p4 iI) rfl ?_; intro va2))
        refine ret_none (.inr rfl) rfl ⟨[], rfl, ?_⟩
        rw [List.append_nil, star_assoc (mshA _ _ _ _)]
        refine Ent.msh va2 ve hel ?_
        simp only [mshP, mshC, evsO, emp_star]
        rw [show (m.fly f).sts = m.sts from rfl]
        exact finE
      · rw [if_neg k6]
        by_cases k7 : kind = 7
        · subst k7
          by_cases hn0 : 0 ≤ on_
          · rw [if_pos ⟨rfl, hn0⟩]
            obtain ⟨q, hq⟩ : ∃ q, q = f.bytes.length - min on_.toNat f.bytes.length := ⟨_, rfl⟩
            rw [← hq]
            haveI : AsNat ((f.bytes.length : Int) - min on_ (f.bytes.length : Int)) q := ⟨by omega⟩
            simp only [mshP, mshC]
            repeat' (first | (show WS _ _ _ (.region 14 _ true) _ _; refine WS_drawK (.range 21) 20 [3, 6, 8, 9, 11, 13, 14, 15, 17, 18, 19] (by decide +kernel) rfl ?_) | (refine WS_seqK ?_; intro K hK) | (refine hK _ ?_; clear hK K) | refine stZ ?_ | (refine s2Z ?_ ?_ <;> intro hc <;> (try simp only [cS] at hc) <;> (try (exfalso; first | contradiction | omega))) | refine sqZ ?_ | ((first | refine' LQ ?zh rfl ?_ | refine' DL_qp rfl rfl rfl ?zh ?_ | refine' DL_q rfl rfl ?zh ?_); case zh => intro F'; first | exact Q_bin_t rfl rfl iI (by first | assumption | omega | decide | rfl) | exact Q_bin_f rfl rfl iI (by first | assumption | omega | decide | rfl) | exact Q_sliceS_h rfl rfl iI iI (by first | assumption | omega)) | (refine shZ ?_; intro g) | ((first | refine' LS_h0 ?zh ?_ | refine' DL_h0 ?zh rfl rfl ?_); (case zh => exact H_storeA rfl rfl iI iI (by first | rfl | (simp only [List.all_cons, List.all_nil, *]; rfl)) rfl); intro g) | (refine' DL_h0 ?zh rfl rfl ?_; (case zh => exact H_storeR ({ f with bytes := f.bytes.take q } : Fl) rfl rfl iI iI iI rfl hfl rfl); intro g))
            refine ret_none (.inr rfl) rfl ⟨[], rfl, ?_⟩
            rw [List.append_nil, star_assoc (mshA _ _ _ _)]
            refine Ent.msh va ve hel ?_
            simp only [mshP, mshC, evsO, emp_star]
            exact finE
          · rw [if_neg (fun h => hn0 h.2)]
            simp only [mshP, mshC]
            repeat' (first | (refine WS_seqK ?_; intro K hK) | (refine hK _ ?_; clear hK K) | refine stZ ?_ | (refine s2Z ?_ ?_ <;> intro hc <;> (try simp only [cS] at hc) <;> (try (exfalso; first | contradiction | omega))) | refine sqZ ?_ | ((refine' LQ ?zh rfl ?_); case zh => intro F'; first | exact Q_bin_t rfl rfl iI (by first | assumption | omega | decide | rfl) | exact Q_bin_f rfl rfl iI (by first | assumption | omega | decide | rfl)) | (refine shZ ?_; intro g) | ((refine' LS_h0 ?zh ?_); (case zh => exact H_storeA rfl rfl iI iI (by first | rfl | (simp only [List.all_cons, List.all_nil, *]; rfl)) rfl); intro g))
            refine ret_none (.inr rfl) rfl ⟨[], rfl, ?_⟩
            rw [List.append_nil, star_assoc (mshA _ _ _ _)]
            refine Ent.msh va ve hel ?_
            simp only [mshP, mshC, evsO, emp_star]
            exact finE
        · rw [if_neg (fun h => k7 h.1)]
          simp only [mshP, mshC]
          repeat' (first | (refine WS_seqK ?_; intro K hK) | (refine hK _ ?_; clear hK K) | refine stZ ?_ | (refine s2Z ?_ ?_ <;> intro hc <;> (try simp only [cS] at hc) <;> (try (exfalso; first | contradiction | omega))) | refine sqZ ?_ | ((refine' LQ ?zh rfl ?_); case zh => intro F'; exact Q_bin_f rfl rfl iI (by first | assumption | omega | decide | rfl)) | (refine shZ ?_; intro g) | ((refine' LS_h0 ?zh ?_); (case zh => exact H_storeA rfl rfl iI iI (by first | rfl | (simp only [List.all_cons, List.all_nil, *]; rfl)) rfl); intro g))
          refine ret_none (.inr rfl) rfl ⟨[], rfl, ?_⟩
          rw [List.append_nil, star_assoc (mshA _ _ _ _)]
          refine Ent.msh va ve hel ?_
          simp only [mshP, mshC, evsO, emp_star]
          exact finE
end

section
open Go.RowKit
def Ms.hset (m : Ms) (q : Nat) (b : Bool) : Ms := { m with hears := fun k => if k = q then b else m.hears k }
theorem Ms.link_eq (m : Ms) (i j : Nat) (b : Bool) : m.link i j b = (m.hset (i * 6 + j) b).hset (j * 6 + i) b := by
  unfold Ms.link Ms.hset
  simp only
  congr 1
  funext k
  by_cases h1 : k = i * 6 + j
  · rw [if_pos (.inl h1)]
    split
    · rfl
    · rfl
  · by_cases h2 : k = j * 6 + i
    · rw [if_pos (.inr h2), if_pos h2]
    · rw [if_neg (fun h => h.elim h1 h2), if_neg h2, if_neg h1]
theorem hear_set (m : Ms) (h : MH) {i j : Nat} (hi : i < 6) (hj : j < 6) (b : Bool) : pasteL (mshC m h) (0 + 2 + i * 6 + j * 1) [.bool b] = some (mshC (m.hset (i * 6 + j) b) h) := by
  have a : i = 0 ∨ i = 1 ∨ i = 2 ∨ i = 3 ∨ i = 4 ∨ i = 5 := by omega
  have b : j = 0 ∨ j = 1 ∨ j = 2 ∨ j = 3 ∨ j = 4 ∨ j = 5 := by omega
  rcases a with rfl | rfl | rfl | rfl | rfl | rfl <;> rcases b with rfl | rfl | rfl | rfl | rfl | rfl <;> rfl
section
variable {P : Program} {n : Frm} {w0 : World} {E : Env} {H : HProp} {d : Option Tmp} {ty : TypeId} {pos : String} {after : Array Edge} {gu : Option (Nat × Bool)} {x y : Operand}
theorem WS_drawR3S {D : List Deferred} {Q : Exit → St → Prop} {l l' : List Oper} {F F1 F2 F3 : HProp} {id : Nat} (t t2 t3 : Nat) (b2 : Nat) (s2 : Sta) (idx : List Nat) {g off g2 off2 g3 off3 : Nat} {bt bt2 bt3 : TypeId} {cs cs2 cs3 : List Value} (hs : statD P l idx (fun _ => false) 1000 = true) (hl : permL l idx = some l') (hx : E.get t = some (ptr g off)) (hx2 : E.get t2 = some (ptr g2 off2)) (hx3 : E.get t3 = some (ptr g3 off3)) (hR : LimbB H g bt cs F1) (hR2 : LimbB F1 g2 bt2 cs2 F2) (hR3 : LimbB F2 g3 bt3 cs3 F3) (hR4 : Own F3 (staP b2 s2) F) (h : DL P n w0 l.toArray Q D (cel g bt cs * (cel g2 bt2 cs2 * (cel g3 bt3 cs3 * staP b2 s2))) emp (fun _ => false) 1000 0 false l' E F) : WS P n w0 (.region id l.toArray true) Q ⟨E, D, H⟩ :=
  WS_draw idx l' (cel g bt cs * (cel g2 bt2 cs2 * (cel g3 bt3 cs3 * staP b2 s2))) emp F _ 1000 hs (by rw [emp_star, hR.eq, hR2.eq, hR3.eq, hR4.eq, star_assoc, star_assoc, star_assoc]) (permL_eq hl) h
theorem Q_nilE {t e t2 : TypeId} (hx : E.ev x = some (.pointer none)) (hy : E.ev y = some (.pointer none)) (h : Und P t (.pointer e)) : OpQ P n w0 ⟨d, .binOp .eql t x y t2, ty, pos, after, gu⟩ E H (.bool true) := Q_bin hx hy eqlNilN
theorem Q_nilF {t e t2 : TypeId} {g off : Nat} (hx : E.ev x = some (ptr g off)) (hy : E.ev y = some (.pointer none)) (h : Und P t (.pointer e)) : OpQ P n w0 ⟨d, .binOp .eql t x y t2, ty, pos, after, gu⟩ E H (.bool false) := Q_bin hx hy eqlNilP
end
theorem Ms.at_nat (m : Ms) (i : Nat) : m.at_ (i : Int) = m.sts[i]? := by
  unfold Ms.at_
  rw [if_neg (by omega)]
  simp
theorem Ms.at_out {m : Ms} {i : Int} (h : i < 0 ∨ (m.sts.length : Int) ≤ i) : m.at_ i = none := by
  unfold Ms.at_
  split
  · rfl
  · exact List.getElem?_eq_none (by omega)
theorem Ms.nodeOp_bar {m : Ms} {o : OpD} (h : m.bars o = true) : m.nodeOp o = m.refuse 0 5 := by
  unfold Ms.nodeOp; rw [if_pos h]
def Sta.boot (now : UInt64) (s : Sta) : Sta := { s with node := some (Nd.new s.addr s.journal now), armed := false }
theorem Sta.Sound.boot {s : Sta} {c : Nat} (h : s.Sound c) (now : UInt64) : (s.boot now).Says (Nd.newO s.addr s.journal now) c :=
  ⟨⟨_, rfl, (Nd.new_rest _ _ _).mono (Nat.zero_le _), Nd.new_self _ _ _, Nd.new_joins _ _ _, Nd.new_ne _ _ _⟩, h.jour, h.tear⟩
def Sta.arm (n : Int) (s : Sta) : Sta := { s with armed := true, tear := max 0 n }
theorem Ms.nodeOp_link {m : Ms} {o : OpD} (hb : m.bars o = false) (hk : o.kind = 1) : m.nodeOp o = if o.a ≠ o.b then m.link o.a.toNat o.b.toNat o.on else m := by
  unfold Ms.nodeOp
  rw [hb, if_neg (by decide), if_pos hk]
theorem Ms.nodeOp_send {m : Ms} {o : OpD} {s s2 : Sta} {t : Nd} (hb : m.bars o = false) (hk : o.kind = 2) (h1 : m.at_ o.a = some s) (ht : s.node = some t) (h2 : m.at_ o.b = some s2) : m.nodeOp o = if t.sendE s2.addr o.text = 0 then Ms.emit o.a.toNat (m.mod o.a.toNat (·.run (t.sendF m.now s2.addr o.text))) (t.sendF m.now s2.addr o.text).out else m.refuse o.a (t.sendE s2.addr o.text) := by
  unfold Ms.nodeOp
  rw [hb, if_neg (by decide), if_neg (by rw [hk]; decide), if_pos hk, h1, h2]
  simp only [Option.bind_some, ht]
  unfold Nd.sendE
  by_cases h16 : 16 < o.text.length
  · rw [if_pos h16, if_pos h16, if_neg (by decide)]
  · rw [if_neg h16, if_neg h16]
    by_cases h0 : s2.addr = t.self ∨ s2.addr = 0
    · rw [if_pos h0, if_pos h0, if_neg (by decide)]
    · rw [if_neg h0, if_neg h0, if_pos rfl]
theorem Ms.nodeOp_rcv {m : Ms} {o : OpD} {s s2 : Sta} {t : Nd} (hb : m.bars o = false) (hk : o.kind = 8) (h1 : m.at_ o.a = some s) (ht : s.node = some t) (h2 : m.at_ o.b = some s2) : m.nodeOp o = Ms.emit o.a.toNat (m.mod o.a.toNat (·.run (t.rcvF m.now s2.addr o.text))) (t.rcvF m.now s2.addr o.text).out := by
  unfold Ms.nodeOp
  rw [hb, if_neg (by decide), if_neg (by rw [hk]; decide), if_neg (by rw [hk]; decide), if_pos hk, h1, h2]
  simp only [Option.bind_some, ht]
theorem Ms.nodeOp_stop {m : Ms} {o : OpD} (hb : m.bars o = false) (hk : o.kind = 9) : m.nodeOp o = m.mod o.a.toNat Sta.stop := by
  unfold Ms.nodeOp
  rw [hb, if_neg (by decide), if_neg (by rw [hk]; decide), if_neg (by rw [hk]; decide), if_neg (by rw [hk]; decide), if_pos hk]
theorem Ms.nodeOp_arm {m : Ms} {o : OpD} (hb : m.bars o = false) (hk : o.kind = 10) : m.nodeOp o = m.mod o.a.toNat (Sta.arm o.n) := by
  unfold Ms.nodeOp
  rw [hb, if_neg (by decide), if_neg (by rw [hk]; decide), if_neg (by rw [hk]; decide), if_neg (by rw [hk]; decide), if_neg (by rw [hk]; decide), if_pos hk]
  rfl
theorem Ms.nodeOp_boot {m : Ms} {o : OpD} {s : Sta} (hb : m.bars o = false) (hk : o.kind = 11) (h1 : m.at_ o.a = some s) : m.nodeOp o = Ms.emit o.a.toNat (m.mod o.a.toNat (Sta.boot m.now)) (Nd.newO s.addr s.journal m.now) := by
  unfold Ms.nodeOp
  rw [hb, if_neg (by decide), if_neg (by rw [hk]; decide), if_neg (by rw [hk]; decide), if_neg (by rw [hk]; decide), if_neg (by rw [hk]; decide), if_neg (by rw [hk]; decide), h1]
  rfl
theorem Ms.bars_false {m : Ms} {o : OpD} (h : m.bars o = false) : ∃ i s, o.a = ((i : Nat) : Int) ∧ m.sts[i]? = some s ∧ (o.kind ≠ 1 → s.node.isNone = decide (o.kind = 11)) ∧ (o.kind = 1 ∨ o.kind = 2 ∨ o.kind = 8 → ∃ j s2, o.b = ((j : Nat) : Int) ∧ m.sts[j]? = some s2) := by
  unfold Ms.bars at h
  rw [Bool.or_eq_false_iff, Bool.or_eq_false_iff] at h
  obtain ⟨⟨h1, h2⟩, h3⟩ := h
  have hin : ∀ x : Int, (m.at_ x).isNone = false → ∃ i s, x = ((i : Nat) : Int) ∧ m.sts[i]? = some s := fun x hx => by
    unfold Ms.at_ at hx
    split at hx
    · cases hx
    · obtain ⟨s, hs⟩ := Option.isSome_iff_exists.1 (by simpa using hx : (m.sts[x.toNat]?).isSome = true)
      exact ⟨x.toNat, s, by omega, hs⟩
  obtain ⟨i, s, e1, e2⟩ := hin _ h1
  refine ⟨i, s, e1, e2, fun hk => ?_, fun hk => ?_⟩
  · rw [e1, m.at_nat, e2, decide_eq_false hk] at h3
    simpa using h3
  · apply hin
    rcases hk with hk | hk | hk
    · rw [hk] at h2; simpa using h2
    · rw [hk] at h2; simpa using h2
    · rw [hk] at h2; simpa using h2
attribute [local irreducible] WS LS OpQ OpT OpH OpTQ Spec SpecQ cel
variable (w0 : World)
theorem stationG_spec (g : Nat) (m : Ms) (h : MH) (i : Int) (hl : h.bs.length ≤ 6) : ∃ vb, (vb = .pointer none ∨ ∃ b2, vb = ptr b2 0) ∧ Spec Tryz.prog w0 43 [ptr g 0, .int .i64 i] (cel g 108 (mshC m h) * rows 115 1 ptrC h.vs h.bs) (fun _ : Unit => vb) (fun _ => cel g 108 (mshC m h) * rows 115 1 ptrC h.vs h.bs) := by
  by_cases hi : i < 0 ∨ (h.bs.length : Int) ≤ i
  · exact ⟨_, .inl rfl, stationNo_spec w0 g m h i hi hl⟩
  · obtain ⟨j, rfl⟩ : ∃ j : Nat, i = (j : Int) := ⟨i.toNat, by omega⟩
    obtain ⟨b, hb⟩ : ∃ b, h.bs[j]? = some b := ⟨_, List.getElem?_eq_getElem (by omega)⟩
    exact ⟨_, .inr ⟨b, rfl⟩, station_spec w0 g m h j b hb hl⟩
set_option maxRecDepth 100000 in
theorem mnodeBar_spec (gm : Nat) (k : MH) (m : Ms) (el : List ES) (o : OpD) (c : Nat) (hf : m.Fine c) (hk : o.kind = 1 ∨ o.kind = 2 ∨ o.kind = 8 ∨ o.kind = 9 ∨ o.kind = 10 ∨ o.kind = 11) (hev : m.evs = []) (hbar : m.bars o = true) : Spec Tryz.prog w0 41 [ptr gm 0, opA o] (mshA gm k m el) (fun _ : List ES => .tuple #[]) (fun new => mshA gm k (m.refuse 0 5) (el ++ new) * evsO new) := by
  obtain ⟨kind, oa, ob, on_, oo, ot⟩ := o
  simp only at hk
  have h6 := hf.short
  refine Spec.enter Tryz.func41 rfl Tryz.ntmps41 rfl fun G => ?_
  refine WS_msh fun va ve hel => ?_
  refine WS_mlen fun hbl => ?_
  have hell : el.length = 0 := by
    have := congrArg List.length hel
    rw [hev] at this
    simpa using this
  have p3 := refuse_spec w0 gm m ⟨k.vs, k.bs, k.r, va, ve⟩ el 0 5 (by omega)
  obtain ⟨vb, hvb, p2⟩ := stationG_spec w0 gm m ⟨k.vs, k.bs, k.r, va, ve⟩ ob (by show k.bs.length ≤ 6; omega)
  simp only [opA, opC, argE]
  by_cases ha : oa < 0 ∨ (k.bs.length : Int) ≤ oa
  · have hno : m.nodeOp ⟨kind, oa, ob, on_, oo, ot⟩ = m.refuse 0 5 := Ms.nodeOp_bar (by unfold Ms.bars; simp only; rw [Ms.at_out (by omega)]; rfl)
    have p1 := stationNo_spec w0 gm m ⟨k.vs, k.bs, k.r, va, ve⟩ oa ha (by show k.bs.length ≤ 6; omega)
    simp only [mshP, mshC] at p1 p2 p3 ⊢
    repeat' (first | ((refine' DL_q rfl rfl ?zh ?_); case zh => intro F'; exact Q_nilE rfl rfl iI) | (show WS _ _ _ (.region 3 _ true) _ _; refine WS_drawA (.range 25) (by decide +kernel) rfl ?_) | (refine WS_seqK ?_; intro K hK) | (refine hK _ ?_; clear hK K) | refine stZ ?_ | (refine s2Z ?_ ?_ <;> intro hc <;> (try simp only [cS] at hc) <;> (try (exfalso; first | contradiction | omega))) | refine sqZ ?_ | ((first | refine LS_binS rfl rfl iI rfl ?_ ?_ | refine LS_binN rfl rfl iI rfl ?_ ?_ | refine DL_binS rfl rfl iI rfl ?_ ?_) <;> intro hc) | (refine shZ ?_; intro g) | (show WS _ _ _ (.region 1 _ true) _ _; refine WS_drawRL 3 [0, 1, 2, 4, 5, 6, 3, 7, 8, 9] 6 [] (by decide +kernel) rfl rfl iI ?_) | (refine DL_h (H_callX iI rfl p1 iI) rfl rfl rfl ?_; intro u1) | (refine DL_h (H_callX iI rfl p2 iI) rfl rfl rfl ?_; intro u2) | (refine LS_h (H_callX iI rfl p3 iI) rfl ?_; intro ve2))
    all_goals
      refine ret_none (.inl rfl) rfl ⟨[evBare 0 5], rfl, ?_⟩
      rw [star_assoc (mshA _ _ _ _)]
      refine Ent.msh (m := m.refuse 0 5) va ve2 (by rw [List.map_append, hel]; rfl) ?_
      simp only [mshP, mshC, staB, staC, Ms.refuse, Ms.event, evsO, evO, outR, evBare, svV, slV', OutD.zero, star_emp]
      exact finE
  obtain ⟨i, rfl⟩ : ∃ i : Nat, oa = (i : Int) := ⟨oa.toNat, by omega⟩
  have hi : i < k.bs.length := by omega
  obtain ⟨b, hb⟩ : ∃ b, k.bs[i]? = some b := ⟨_, List.getElem?_eq_getElem hi⟩
  obtain ⟨s, hs⟩ : ∃ s, m.sts[i]? = some s := ⟨_, List.getElem?_eq_getElem (by omega)⟩
  have hat : m.at_ (i : Int) = some s := (m.at_nat i).trans hs
  have hso := hf.sound i s hs
  have p1 := station_spec w0 gm m ⟨k.vs, k.bs, k.r, va, ve⟩ i b hb (by show k.bs.length ≤ 6; omega)
  clear ha
  -- a node that is wanted and is not there, or is there and is not wanted
  by_cases hw : kind ≠ 1 ∧ (s.node.isNone != decide (kind = 11)) = true
  · have hno : m.nodeOp ⟨kind, (i : Int), ob, on_, oo, ot⟩ = m.refuse 0 5 := Ms.nodeOp_bar (by
      unfold Ms.bars
      simp only
      rw [hat]
      simp only [Option.bind_some, hw.2, Bool.and_true, decide_eq_false hw.1, Bool.not_false, Bool.or_true])
    obtain ⟨R, e1, e2⟩ := stas_open hbl hb hs
    refine WS_sta e1 fun gn vj => ?_
    unfold mshS
    obtain ⟨hw1, hw2⟩ := hw
    simp only [mshC] at p1 p2 p3
    simp only [mshC, staB, staC]
    cases ht : s.node with
    | none =>
      rw [ht] at hw2
      have hk11 : ¬ kind = 11 := fun e => by rw [decide_eq_true e] at hw2; cases hw2
      simp only [ptrN, staN]
      rcases hvb with rfl | ⟨b2, rfl⟩
      all_goals
        repeat' (first | ((first | refine' DL_q rfl rfl ?zh ?_ | refine' DL_qg rfl rfl rfl ?zh ?_); case zh => intro F'; first | exact Q_nilE rfl rfl iI | exact Q_nilF rfl rfl iI) | (show WS _ _ _ (.region 3 _ true) _ _; refine WS_drawA (.range 25) (by decide +kernel) rfl ?_) | (refine WS_seqK ?_; intro K hK) | (refine hK _ ?_; clear hK K) | refine stZ ?_ | (refine s2Z ?_ ?_ <;> intro hc <;> (try simp only [cS] at hc) <;> (try (exfalso; first | contradiction | omega))) | refine sqZ ?_ | ((first | refine' LQ ?zh rfl ?_ | refine' DL_q rfl rfl ?zh ?_ | refine' DL_qg rfl rfl rfl ?zh ?_); case zh => intro F'; first | exact Q_bin_f rfl rfl iI (by first | assumption | omega | decide | rfl) | exact Q_bin_nt rfl rfl iI (by first | assumption | omega | decide | rfl)) | ((first | refine LS_binS rfl rfl iI rfl ?_ ?_ | refine LS_binN rfl rfl iI rfl ?_ ?_ | refine DL_binS rfl rfl iI rfl ?_ ?_) <;> intro hc) | (refine shZ ?_; intro g) | (show WS _ _ _ (.region 1 _ true) _ _; refine WS_drawRL 3 [0, 1, 2, 4, 5, 6, 3, 7, 8, 9] 6 [] (by decide +kernel) rfl rfl iI ?_) | (refine DL_h (H_callX iI rfl p1 iI) rfl rfl rfl ?_; intro u1) | (refine DL_h (H_callX iI rfl p2 iI) rfl rfl rfl ?_; intro u2) | (refine LS_h (H_callX iI rfl p3 iI) rfl ?_; intro ve2))
        all_goals
          refine ret_none (.inl rfl) rfl ⟨[evBare 0 5], rfl, ?_⟩
          rw [star_assoc (mshA _ _ _ _)]
          refine Ent.msh (m := m.refuse 0 5) va ve2 (by rw [List.map_append, hel]; rfl) ?_
          refine Ent.sta (m := m.refuse 0 5) gn vj e1 ?_
          unfold mshS
          simp only [mshP, mshC, staB, staC, ht, ptrN, staN, Ms.refuse, Ms.event, evsO, evO, outR, evBare, svV, slV', OutD.zero, star_emp]
          exact finE
    | some t =>
      rw [ht] at hw2
      have hk11 : kind = 11 := by
        by_cases e : kind = 11
        · exact e
        · rw [decide_eq_false e] at hw2; cases hw2
      subst hk11
      simp only [ptrN, staN]
      rcases hvb with rfl | ⟨b2, rfl⟩
      all_goals
        repeat' (first | ((first | refine' DL_q rfl rfl ?zh ?_ | refine' DL_qg rfl rfl rfl ?zh ?_); case zh => intro F'; exact Q_nilF rfl rfl iI) | (show WS _ _ _ (.region 3 _ true) _ _; refine WS_drawA (.range 25) (by decide +kernel) rfl ?_) | (refine WS_seqK ?_; intro K hK) | (refine hK _ ?_; clear hK K) | refine stZ ?_ | (refine s2Z ?_ ?_ <;> intro hc <;> (try simp only [cS] at hc) <;> (try (exfalso; first | contradiction | omega))) | refine sqZ ?_ | ((first | refine' LQ ?zh rfl ?_ | refine' DL_q rfl rfl ?zh ?_ | refine' DL_qg rfl rfl rfl ?zh ?_); case zh => intro F'; first | exact Q_bin_t rfl rfl iI (by first | assumption | omega | decide | rfl) | exact Q_bin_f rfl rfl iI (by first | assumption | omega | decide | rfl) | exact Q_bin_nt rfl rfl iI (by first | assumption | omega | decide | rfl)) | (refine shZ ?_; intro g) | (show WS _ _ _ (.region 1 _ true) _ _; refine WS_drawRL 3 [0, 1, 2, 4, 5, 6, 3, 7, 8, 9] 6 [] (by decide +kernel) rfl rfl iI ?_) | (refine DL_h (H_callX iI rfl p1 iI) rfl rfl rfl ?_; intro u1) | (refine DL_h (H_callX iI rfl p2 iI) rfl rfl rfl ?_; intro u2) | (refine LS_h (H_callX iI rfl p3 iI) rfl ?_; intro ve2))
        all_goals
          refine ret_none (.inl rfl) rfl ⟨[evBare 0 5], rfl, ?_⟩
          rw [star_assoc (mshA _ _ _ _)]
          refine Ent.msh (m := m.refuse 0 5) va ve2 (by rw [List.map_append, hel]; rfl) ?_
          refine Ent.sta (m := m.refuse 0 5) gn vj e1 ?_
          unfold mshS
          simp only [mshP, mshC, staB, staC, ht, ptrN, staN, Ms.refuse, Ms.event, evsO, evO, outR, evBare, svV, slV', OutD.zero, star_emp]
          exact finE
  -- the other node is wanted and is not there
  by_cases hbo : (kind = 1 ∨ kind = 2 ∨ kind = 8) ∧ (ob < 0 ∨ (k.bs.length : Int) ≤ ob)
  · obtain ⟨hk2, hbo⟩ := hbo
    clear p2
    have p2 := stationNo_spec w0 gm m ⟨k.vs, k.bs, k.r, va, ve⟩ ob hbo (by show k.bs.length ≤ 6; omega)
    simp only [mshP, mshC] at p1 p2 p3 ⊢
    repeat' (first | ((first | refine' DL_q rfl rfl ?zh ?_ | refine' DL_qg rfl rfl rfl ?zh ?_); case zh => intro F'; first | exact Q_nilE rfl rfl iI | exact Q_nilF rfl rfl iI) | (show WS _ _ _ (.region 3 _ true) _ _; refine WS_drawA (.range 25) (by decide +kernel) rfl ?_) | (refine WS_seqK ?_; intro K hK) | (refine hK _ ?_; clear hK K) | refine stZ ?_ | (refine s2Z ?_ ?_ <;> intro hc <;> (try simp only [cS] at hc) <;> (try (exfalso; first | contradiction | omega))) | refine sqZ ?_ | ((first | refine' LQ ?zh rfl ?_ | refine' DL_q rfl rfl ?zh ?_ | refine' DL_qg rfl rfl rfl ?zh ?_); case zh => intro F'; exact Q_bin_t rfl rfl iI (by first | assumption | omega | decide | rfl)) | ((first | refine LS_binS rfl rfl iI rfl ?_ ?_ | refine LS_binN rfl rfl iI rfl ?_ ?_ | refine DL_binS rfl rfl iI rfl ?_ ?_) <;> intro hc) | (refine shZ ?_; intro g) | (show WS _ _ _ (.region 1 _ true) _ _; refine WS_drawRL 3 [0, 1, 2, 4, 5, 6, 3, 7, 8, 9] 6 [] (by decide +kernel) rfl rfl iI ?_) | (refine DL_h (H_callX iI rfl p1 iI) rfl rfl rfl ?_; intro u1) | (refine DL_h (H_callX iI rfl p2 iI) rfl rfl rfl ?_; intro u2) | (refine LS_h (H_callX iI rfl p3 iI) rfl ?_; intro ve2))
    all_goals
      refine ret_none (.inl rfl) rfl ⟨[evBare 0 5], rfl, ?_⟩
      rw [star_assoc (mshA _ _ _ _)]
      refine Ent.msh (m := m.refuse 0 5) va ve2 (by rw [List.map_append, hel]; rfl) ?_
      simp only [mshP, mshC, staB, staC, Ms.refuse, Ms.event, evsO, evO, outR, evBare, svV, slV', OutD.zero, star_emp]
      exact finE
  -- what is not barred
  have hbars : m.bars ⟨kind, (i : Int), ob, on_, oo, ot⟩ = false := by
    unfold Ms.bars
    simp only
    rw [hat]
    simp only [Option.isNone_some, Bool.false_or, Option.bind_some]
    have h1 : ((decide (kind = 1) || decide (kind = 2) || decide (kind = 8)) && (m.at_ ob).isNone) = false := by
      by_cases e : kind = 1 ∨ kind = 2 ∨ kind = 8
      · have hr : ¬ (ob < 0 ∨ (k.bs.length : Int) ≤ ob) := fun h => hbo ⟨e, h⟩
        obtain ⟨j, rfl⟩ : ∃ j : Nat, ob = (j : Int) := ⟨ob.toNat, by omega⟩
        rw [m.at_nat, List.getElem?_eq_getElem (show j < m.sts.length by omega)]
        simp
      · rw [decide_eq_false (fun h => e (.inl h)), decide_eq_false (fun h => e (.inr (.inl h))), decide_eq_false (fun h => e (.inr (.inr h)))]; rfl
    rw [h1, Bool.false_or]
    by_cases e : kind = 1
    · rw [decide_eq_true e]; rfl
    · cases hv : (s.node.isNone != decide (kind = 11)) with
      | false => rw [Bool.and_false]
      | true => exact absurd ⟨e, hv⟩ hw
  rw [hbars] at hbar
  cases hbar
set_option maxRecDepth 100000 in
theorem mlink_spec (gm : Nat) (k : MH) (m : Ms) (el : List ES) (o : OpD) (c : Nat) (hf : m.Fine c) (hev : m.evs = []) (hbars : m.bars o = false) (hk : o.kind = 1) : Spec Tryz.prog w0 41 [ptr gm 0, opA o] (mshA gm k m el) (fun _ : List ES => .tuple #[]) (fun new => mshA gm k (m.nodeOp o) (el ++ new) * evsO new) := by
  obtain ⟨i, s, ei, hs, hw, hjb⟩ := Ms.bars_false hbars
  obtain ⟨kind, oa, ob, on_, oo, ot⟩ := o
  simp only at hk ei hw hjb
  subst hk
  subst ei
  have h6 := hf.short
  refine Spec.enter Tryz.func41 rfl Tryz.ntmps41 rfl fun G => ?_
  refine WS_msh fun va ve hel => ?_
  refine WS_mlen fun hbl => ?_
  have hell : el.length = 0 := by
    have := congrArg List.length hel
    rw [hev] at this
    simpa using this
  have hi := (List.getElem?_eq_some_iff.1 hs).1
  obtain ⟨b, hb⟩ : ∃ b, k.bs[i]? = some b := ⟨_, List.getElem?_eq_getElem (by omega)⟩
  have hat : m.at_ (i : Int) = some s := (m.at_nat i).trans hs
  have hso := hf.sound i s hs
  have p1 := station_spec w0 gm m ⟨k.vs, k.bs, k.r, va, ve⟩ i b hb (by show k.bs.length ≤ 6; omega)
  simp only [opA, opC, argE]
  obtain ⟨j, s2, ej, hs2⟩ := hjb (.inl rfl)
  subst ej
  have hj := (List.getElem?_eq_some_iff.1 hs2).1
  obtain ⟨b2, hb2⟩ : ∃ b, k.bs[j]? = some b := ⟨_, List.getElem?_eq_getElem (by omega)⟩
  have hat2 : m.at_ (j : Int) = some s2 := (m.at_nat j).trans hs2
  have p2 := station_spec w0 gm m ⟨k.vs, k.bs, k.r, va, ve⟩ j b2 hb2 (by show k.bs.length ≤ 6; omega)
  rw [Ms.nodeOp_link hbars rfl]
  simp only [Int.toNat_natCast]
  by_cases hij : (i : Int) = (j : Int)
  · rw [if_neg (fun h => h hij)]
    simp only [mshP, mshC] at p1 p2 ⊢
    repeat' (first | ((first | refine' DL_q rfl rfl ?zh ?_ | refine' DL_qg rfl rfl rfl ?zh ?_); case zh => intro F'; exact Q_nilF rfl rfl iI) | (show WS _ _ _ (.region 3 _ true) _ _; refine WS_drawA (.range 25) (by decide +kernel) rfl ?_) | (refine WS_seqK ?_; intro K hK) | (refine hK _ ?_; clear hK K) | refine stZ ?_ | (refine s2Z ?_ ?_ <;> intro hc <;> (try simp only [cS] at hc) <;> (try (exfalso; first | contradiction | omega))) | refine sqZ ?_ | ((first | refine' LQ ?zh rfl ?_ | refine' DL_q rfl rfl ?zh ?_ | refine' DL_qg rfl rfl rfl ?zh ?_); case zh => intro F'; first | exact Q_bin_t rfl rfl iI (by first | assumption | omega | decide | rfl) | exact Q_bin_nf rfl rfl iI (by first | assumption | omega | decide | rfl)) | (refine shZ ?_; intro g) | (show WS _ _ _ (.region 1 _ true) _ _; refine WS_drawRL 3 [0, 1, 2, 4, 5, 6, 3, 7, 8, 9] 6 [] (by decide +kernel) rfl rfl iI ?_) | (refine DL_h (H_callX iI rfl p1 iI) rfl rfl rfl ?_; intro u1) | (refine DL_h (H_callX iI rfl p2 iI) rfl rfl rfl ?_; intro u2))
    refine ret_none (.inr rfl) rfl ⟨[], rfl, ?_⟩
    rw [List.append_nil, star_assoc (mshA _ _ _ _)]
    refine Ent.msh va ve hel ?_
    simp only [mshP, mshC, evsO, emp_star]
    exact finE
  · rw [if_pos hij, Ms.link_eq]
    have hi6 : i < 6 := by omega
    have hj6 : j < 6 := by omega
    have q1 := hear_set m ⟨k.vs, k.bs, k.r, va, ve⟩ hi6 hj6 oo
    have q2 := hear_set (m.hset (i * 6 + j) oo) ⟨k.vs, k.bs, k.r, va, ve⟩ hj6 hi6 oo
    simp only [mshP]
    simp only at p1 p2
    repeat' (first | ((first | refine' DL_q rfl rfl ?zh ?_ | refine' DL_qg rfl rfl rfl ?zh ?_); case zh => intro F'; exact Q_nilF rfl rfl iI) | (show WS _ _ _ (.region 3 _ true) _ _; refine WS_drawA (.range 25) (by decide +kernel) rfl ?_) | (refine WS_seqK ?_; intro K hK) | (refine hK _ ?_; clear hK K) | refine stZ ?_ | (refine s2Z ?_ ?_ <;> intro hc <;> (try simp only [cS] at hc) <;> (try (exfalso; first | contradiction | omega))) | refine sqZ ?_ | ((first | refine' LQ ?zh rfl ?_ | refine' DL_q rfl rfl ?zh ?_ | refine' DL_qg rfl rfl rfl ?zh ?_); case zh => intro F'; first | exact Q_bin_t rfl rfl iI (by first | assumption | omega | decide | rfl) | exact Q_bin_nt rfl rfl iI (by first | assumption | omega | decide | rfl) | exact Q_bin_nf rfl rfl iI (by first | assumption | omega | decide | rfl)) | (refine shZ ?_; intro g) | (show WS _ _ _ (.region 1 _ true) _ _; refine WS_drawRL 3 [0, 1, 2, 4, 5, 6, 3, 7, 8, 9] 6 [] (by decide +kernel) rfl rfl iI ?_) | (refine DL_h (H_callX iI rfl p1 iI) rfl rfl rfl ?_; intro u1) | (refine DL_h (H_callX iI rfl p2 iI) rfl rfl rfl ?_; intro u2) | (show WS _ _ _ (.region 8 _ true) _ _; refine WS_drawRL 3 [0, 1, 2, 3, 4, 5, 6, 7, 8, 9, 10, 11, 12, 13, 14, 15, 16, 17, 19, 20, 21, 18, 22, 23] 21 [] (by decide +kernel) rfl rfl iI ?_) | (refine' DL_q rfl rfl ?zh ?_; (case zh => intro F'; exact Q_indexArr rfl rfl iI iI iI (by assumption))) | (refine' DL_h0 ?zh rfl rfl ?_; (case zh => first | exact H_store rfl rfl iI rfl iI q1 | exact H_store rfl rfl iI rfl iI q2); intro g))
    refine ret_none (.inr rfl) rfl ⟨[], rfl, ?_⟩
    rw [List.append_nil, star_assoc (mshA _ _ _ _)]
    refine Ent.msh va ve hel ?_
    rw [show mshP gm ((m.hset (i * 6 + j) oo).hset (j * 6 + i) oo) ⟨k.vs, k.bs, k.r, va, ve⟩ el = cel gm 108 (mshC ((m.hset (i * 6 + j) oo).hset (j * 6 + i) oo) ⟨k.vs, k.bs, k.r, va, ve⟩) * (rows 115 1 ptrC k.vs k.bs * (mp u32 i64 k.r (amap 0 m.sts) * (stasQ k.bs m.sts * (rows 114 3 flC va m.air * rows 68 7 evC ve el)))) from rfl]
    simp only [evsO, emp_star]
    exact finE
set_option maxRecDepth 100000 in
theorem mstop_spec (gm : Nat) (k : MH) (m : Ms) (el : List ES) (o : OpD) (c : Nat) (hf : m.Fine c) (hev : m.evs = []) (hbars : m.bars o = false) (hk : o.kind = 9) : Spec Tryz.prog w0 41 [ptr gm 0, opA o] (mshA gm k m el) (fun _ : List ES => .tuple #[]) (fun new => mshA gm k (m.nodeOp o) (el ++ new) * evsO new) := by
  obtain ⟨i, s, ei, hs, hw, hjb⟩ := Ms.bars_false hbars
  obtain ⟨kind, oa, ob, on_, oo, ot⟩ := o
  simp only at hk ei hw hjb
  subst hk
  subst ei
  have h6 := hf.short
  refine Spec.enter Tryz.func41 rfl Tryz.ntmps41 rfl fun G => ?_
  refine WS_msh fun va ve hel => ?_
  refine WS_mlen fun hbl => ?_
  have hell : el.length = 0 := by
    have := congrArg List.length hel
    rw [hev] at this
    simpa using this
  have hi := (List.getElem?_eq_some_iff.1 hs).1
  obtain ⟨b, hb⟩ : ∃ b, k.bs[i]? = some b := ⟨_, List.getElem?_eq_getElem (by omega)⟩
  have hat : m.at_ (i : Int) = some s := (m.at_nat i).trans hs
  have hso := hf.sound i s hs
  have p1 := station_spec w0 gm m ⟨k.vs, k.bs, k.r, va, ve⟩ i b hb (by show k.bs.length ≤ 6; omega)
  simp only [opA, opC, argE]
  obtain ⟨vb, hvb, p2⟩ := stationG_spec w0 gm m ⟨k.vs, k.bs, k.r, va, ve⟩ ob (by show k.bs.length ≤ 6; omega)
  cases ht : s.node with
  | none => rw [ht] at hw; exact absurd (hw (by decide)) (fun h : true = false => by cases h)
  | some t =>
    rw [Ms.nodeOp_stop hbars rfl]
    simp only [Int.toNat_natCast]
    obtain ⟨R, e1, e2⟩ := stas_open hbl hb hs
    refine WS_sta e1 fun gn vj => ?_
    unfold mshS
    have p4 := ststop_spec w0 b gn vj s
    simp only [mshC, staB, staC, Sta.stop, ht, ptrN, staN] at p1 p2 p4 ⊢
    repeat' (first | ((first | refine' DL_q rfl rfl ?zh ?_ | refine' DL_qg rfl rfl rfl ?zh ?_); case zh => intro F'; exact Q_nilF rfl rfl iI) | (show WS _ _ _ (.region 3 _ true) _ _; refine WS_drawA (.range 25) (by decide +kernel) rfl ?_) | (refine WS_seqK ?_; intro K hK) | (refine hK _ ?_; clear hK K) | refine stZ ?_ | (refine s2Z ?_ ?_ <;> intro hc <;> (try simp only [cS] at hc) <;> (try (exfalso; first | contradiction | omega))) | refine sqZ ?_ | ((first | refine' LQ ?zh rfl ?_ | refine' DL_q rfl rfl ?zh ?_ | refine' DL_qg rfl rfl rfl ?zh ?_); case zh => intro F'; first | exact Q_bin_t rfl rfl iI (by first | assumption | omega | decide | rfl) | exact Q_bin_f rfl rfl iI (by first | assumption | omega | decide | rfl) | exact Q_bin_nt rfl rfl iI (by first | assumption | omega | decide | rfl) | exact Q_bin_nf rfl rfl iI (by first | assumption | omega | decide | rfl)) | (refine shZ ?_; intro g) | (show WS _ _ _ (.region 1 _ true) _ _; refine WS_drawRL 3 [0, 1, 2, 4, 5, 6, 3, 7, 8, 9] 6 [] (by decide +kernel) rfl rfl iI ?_) | (refine DL_h (H_callX iI rfl p1 iI) rfl rfl rfl ?_; intro u1) | (refine DL_h (H_callX iI rfl p2 iI) rfl rfl rfl ?_; intro u2) | (refine LS_h (H_callX iI rfl p4 iI) rfl ?_; intro u4))
    refine ret_none (.inr rfl) rfl ⟨[], rfl, ?_⟩
    rw [List.append_nil, star_assoc (mshA _ _ _ _)]
    refine Ent.msh (m := m.mod i Sta.stop) va ve hel ?_
    refine Ent.sta (m := m.mod i Sta.stop) gn vj (e2 Sta.stop) ?_
    unfold mshS
    rw [show amap 0 (m.mod i Sta.stop).sts = amap 0 m.sts from amap_mod m i fun _ => rfl]
    simp only [mshC, Ms.mod, staB, staC, Sta.stop, ptrN, staN, evsO, emp_star]
    exact finE
set_option maxRecDepth 100000 in
theorem marm_spec (gm : Nat) (k : MH) (m : Ms) (el : List ES) (o : OpD) (c : Nat) (hf : m.Fine c) (hon : o.n ≤ 9223372036854775807) (hev : m.evs = []) (hbars : m.bars o = false) (hk : o.kind = 10) : Spec Tryz.prog w0 41 [ptr gm 0, opA o] (mshA gm k m el) (fun _ : List ES => .tuple #[]) (fun new => mshA gm k (m.nodeOp o) (el ++ new) * evsO new) := by
  obtain ⟨i, s, ei, hs, hw, hjb⟩ := Ms.bars_false hbars
  obtain ⟨kind, oa, ob, on_, oo, ot⟩ := o
  simp only at hk ei hw hjb hon
  subst hk
  subst ei
  have h6 := hf.short
  refine Spec.enter Tryz.func41 rfl Tryz.ntmps41 rfl fun G => ?_
  refine WS_msh fun va ve hel => ?_
  refine WS_mlen fun hbl => ?_
  have hell : el.length = 0 := by
    have := congrArg List.length hel
    rw [hev] at this
    simpa using this
  have hi := (List.getElem?_eq_some_iff.1 hs).1
  obtain ⟨b, hb⟩ : ∃ b, k.bs[i]? = some b := ⟨_, List.getElem?_eq_getElem (by omega)⟩
  have hat : m.at_ (i : Int) = some s := (m.at_nat i).trans hs
  have hso := hf.sound i s hs
  have p1 := station_spec w0 gm m ⟨k.vs, k.bs, k.r, va, ve⟩ i b hb (by show k.bs.length ≤ 6; omega)
  simp only [opA, opC, argE]
  obtain ⟨vb, hvb, p2⟩ := stationG_spec w0 gm m ⟨k.vs, k.bs, k.r, va, ve⟩ ob (by show k.bs.length ≤ 6; omega)
  cases ht : s.node with
  | none => rw [ht] at hw; exact absurd (hw (by decide)) (fun h : true = false => by cases h)
  | some t =>
    rw [Ms.nodeOp_arm hbars rfl]
    simp only [Int.toNat_natCast]
    obtain ⟨R, e1, e2⟩ := stas_open hbl hb hs
    refine WS_sta e1 fun gn vj => ?_
    unfold mshS
    simp only [mshC] at p1 p2
    simp only [mshC, staB, staC, ht, ptrN, staN]
    repeat' (first | ((first | refine' DL_q rfl rfl ?zh ?_ | refine' DL_qg rfl rfl rfl ?zh ?_); case zh => intro F'; exact Q_nilF rfl rfl iI) | (show WS _ _ _ (.region 3 _ true) _ _; refine WS_drawA (.range 25) (by decide +kernel) rfl ?_) | (refine WS_seqK ?_; intro K hK) | (refine hK _ ?_; clear hK K) | refine stZ ?_ | (refine s2Z ?_ ?_ <;> intro hc <;> (try simp only [cS] at hc) <;> (try (exfalso; first | contradiction | omega))) | refine sqZ ?_ | ((first | refine' LQ ?zh rfl ?_ | refine' DL_q rfl rfl ?zh ?_ | refine' DL_qg rfl rfl rfl ?zh ?_); case zh => intro F'; first | exact Q_bin_t rfl rfl iI (by first | assumption | omega | decide | rfl) | exact Q_bin_f rfl rfl iI (by first | assumption | omega | decide | rfl) | exact Q_bin_nt rfl rfl iI (by first | assumption | omega | decide | rfl) | exact Q_bin_nf rfl rfl iI (by first | assumption | omega | decide | rfl) | exact Q_maxI rfl rfl) | (refine shZ ?_; intro g) | (refine s0Z ?_; intro g) | (show WS _ _ _ (.region 1 _ true) _ _; refine WS_drawRL 3 [0, 1, 2, 4, 5, 6, 3, 7, 8, 9] 6 [] (by decide +kernel) rfl rfl iI ?_) | (refine DL_h (H_callX iI rfl p1 iI) rfl rfl rfl ?_; intro u1) | (refine DL_h (H_callX iI rfl p2 iI) rfl rfl rfl ?_; intro u2) | (show WS _ _ _ (.region 19 _ true) _ _; refine WS_drawRL 3 (.range 11) 7 [] (by decide +kernel) rfl rfl iI ?_))
    refine ret_none (.inr rfl) rfl ⟨[], rfl, ?_⟩
    rw [List.append_nil, star_assoc (mshA _ _ _ _)]
    refine Ent.msh (m := m.mod i (Sta.arm on_)) va ve hel ?_
    refine Ent.sta (m := m.mod i (Sta.arm on_)) gn vj (e2 (Sta.arm on_)) ?_
    unfold mshS
    rw [show amap 0 (m.mod i (Sta.arm on_)).sts = amap 0 m.sts from amap_mod m i fun _ => rfl]
    simp only [mshC, Ms.mod, staB, staC, Sta.arm, ht, ptrN, staN, evsO, emp_star]
    exact finE
end

section
open Go.RowKit
def svOf : Value → SV
  | .slice A n c => (A, n, c)
  | _ => (none, 0, 0)
def svOf3 (v : Value × Value × Value) : SV × SV × SV := (svOf v.1, svOf v.2.1, svOf v.2.2)
theorem outR_form {w0 w : World} {o : OutD} {v : Value × Value × Value} {F : HProp} (h : Sat w0 w (outR o v * F)) : svV (svOf3 v) = v := by
  unfold outR at h
  have e (a b c d : HProp) : a * (b * c) * d = a * (b * (c * d)) := by rw [star_assoc, star_assoc]
  rw [e] at h
  obtain ⟨A1, c1, e1⟩ := rows_form h
  have h2 := h
  rw [star_left_comm] at h2
  obtain ⟨A2, c2, e2⟩ := rows_form h2
  have h3 := h
  rw [star_left_comm (rows _ _ _ v.2.1 _), star_left_comm] at h3
  obtain ⟨A3, c3, e3⟩ := rows_form h3
  obtain ⟨v1, v2, v3⟩ := v
  simp only at e1 e2 e3
  subst e1 e2 e3
  rfl
theorem Spec.rein {P : Program} {w0 : World} {f : FuncId} {args : List Value} {X : HProp} {α β : Type} {res : α → Value} {post : α → HProp} (h : Spec P w0 f args X res post) (φ : β → α) (ψ : α → β) (hi : ∀ x w F, Sat w0 w (post x * F) → φ (ψ x) = x) : Spec P w0 f args X (fun y => res (φ y)) (fun y => post (φ y)) := fun G w hs => (h G w hs).mono fun e w' ⟨x, he, hx⟩ => ⟨ψ x, by show e = .returned (res (φ (ψ x))); rw [hi x w' G hx]; exact he, by show Sat w0 w' (post (φ (ψ x)) * G); rw [hi x w' G hx]; exact hx⟩
end

section
open Go.RowKit
attribute [local irreducible] WS LS OpQ OpT OpH OpTQ Spec SpecQ cel
variable (w0 : World)
set_option maxRecDepth 100000 in
theorem mtext_spec (gm : Nat) (k : MH) (m : Ms) (el : List ES) (o : OpD) (c : Nat) (hf : m.Fine c) (hc : c ≤ 8500) (hn : m.now.toNat ≤ 4611686018427387904) (hev : m.evs = []) (hbars : m.bars o = false) (hk : o.kind = 2) : Spec Tryz.prog w0 41 [ptr gm 0, opA o] (mshA gm k m el) (fun _ : List ES => .tuple #[]) (fun new => mshA gm k (m.nodeOp o) (el ++ new) * evsO new) := by
  obtain ⟨i, s, ei, hs, hw, hjb⟩ := Ms.bars_false hbars
  obtain ⟨kind, oa, ob, on_, oo, ot⟩ := o
  simp only at hk ei hw hjb
  subst hk
  subst ei
  have h6 := hf.short
  refine Spec.enter Tryz.func41 rfl Tryz.ntmps41 rfl fun G => ?_
  refine WS_msh fun va ve hel => ?_
  refine WS_mlen fun hbl => ?_
  have hell : el.length = 0 := by
    have := congrArg List.length hel
    rw [hev] at this
    simpa using this
  have hi := (List.getElem?_eq_some_iff.1 hs).1
  obtain ⟨b, hb⟩ : ∃ b, k.bs[i]? = some b := ⟨_, List.getElem?_eq_getElem (by omega)⟩
  have hat : m.at_ (i : Int) = some s := (m.at_nat i).trans hs
  have hso := hf.sound i s hs
  have p1 := station_spec w0 gm m ⟨k.vs, k.bs, k.r, va, ve⟩ i b hb (by show k.bs.length ≤ 6; omega)
  simp only [opA, opC, argE]
  cases ht : s.node with
  | none => rw [ht] at hw; exact absurd (hw (by decide)) (fun h : true = false => by cases h)
  | some t =>
    have hrt := (hso.node t ht).1
    obtain ⟨j, s2, ej, hs2⟩ := hjb (.inr (.inl rfl))
    subst ej
    have hj := (List.getElem?_eq_some_iff.1 hs2).1
    obtain ⟨b2, hb2⟩ : ∃ b, k.bs[j]? = some b := ⟨_, List.getElem?_eq_getElem (by omega)⟩
    have hat2 : m.at_ (j : Int) = some s2 := (m.at_nat j).trans hs2
    have p2 := station_spec w0 gm m ⟨k.vs, k.bs, k.r, va, ve⟩ j b2 hb2 (by show k.bs.length ≤ 6; omega)
    rw [Ms.nodeOp_send hbars rfl hat ht hat2]
    simp only [Int.toNat_natCast]
    by_cases hij : i = j
    · obtain rfl : b = b2 := by rw [hij, hb2] at hb; exact (Option.some.inj hb).symm
      obtain rfl : s = s2 := by rw [hij, hs2] at hs; exact (Option.some.inj hs).symm
      obtain ⟨R, e1, e2⟩ := stas_open hbl hb hs
      refine WS_sta e1 fun gn vj => ?_
      unfold mshS
      simp only [mshC] at p1 p2
      by_cases he : t.sendE s.addr ot = 0
      · rw [if_pos he]
        have hw := hrt.wentSend hn s.addr ot (by unfold Nd.sendE at he; split at he; cases he; omega)
        have hfr := Nd.sendF_frames t m.now s.addr ot
        have p4 := (nsendT_spec w0 gn t m.now s.addr ot hrt hc hn he).rein svV svOf3 (fun x w F hx => by rw [star_assoc, star_left_comm] at hx; exact outR_form hx)
        have p5 := fun (v : SV × SV × SV) => emitX_spec w0 gm k i b (c + 1) hb m el (t.sendF m.now s.addr ot).out (svV v) s (·.run (t.sendF m.now s.addr ot)) (t.sendF m.now s.addr ot) (fun _ => rfl) rfl hs ((hso.mono (Nat.le_succ c)).says ht hw) hw.pks.le (by omega) hf.air (by rw [hev]; simp only [List.length_nil]; omega) h6 hel R (e2 _) va ve gn vj
        generalize t.sendF m.now s.addr ot = t2 at *
        simp only [mshC, staB, staC, ht, ptrN, staN]
        simp only [outA, svV, slV', mshC, Sta.run_tear, Sta.run_armed, Sta.run_journal, star_assoc] at p4 p5 ⊢
        repeat' (first | ((first | refine' DL_q rfl rfl ?zh ?_ | refine' DL_qg rfl rfl rfl ?zh ?_); case zh => intro F'; exact Q_nilF rfl rfl iI) | (show WS _ _ _ (.region 3 _ true) _ _; refine WS_drawA (.range 25) (by decide +kernel) rfl ?_) | (refine WS_seqK ?_; intro K hK) | (refine hK _ ?_; clear hK K) | refine stZ ?_ | (refine s2Z ?_ ?_ <;> intro hc <;> (try simp only [cS] at hc) <;> (try (exfalso; first | contradiction | omega))) | (refine DL_alloc iI rfl ?_; intro g) | refine sqZ ?_ | ((first | refine' LQ ?zh rfl ?_ | refine' DL_q rfl rfl ?zh ?_ | refine' DL_qg rfl rfl rfl ?zh ?_); case zh => intro F'; first | exact Q_bin_t rfl rfl iI (by first | assumption | omega | decide | rfl) | exact Q_bin_f rfl rfl iI (by first | assumption | omega | decide | rfl) | exact Q_bin_nt rfl rfl iI (by first | assumption | omega | decide | rfl) | exact Q_bin_nf rfl rfl iI (by first | assumption | omega | decide | rfl)) | (refine shZ ?_; intro g) | (refine s0Z ?_; intro g) | (show WS _ _ _ (.region 1 _ true) _ _; refine WS_drawRL 3 [0, 1, 2, 4, 5, 6, 3, 7, 8, 9] 6 [] (by decide +kernel) rfl rfl iI ?_) | (refine DL_h (H_callX iI rfl p1 iI) rfl rfl rfl ?_; intro u1) | (refine DL_h (H_callX iI rfl p2 iI) rfl rfl rfl ?_; intro u2) | (show WS _ _ _ (.region 10 _ true) _ _; first | refine WS_drawR3S 3 0 4 b2 s2 (List.range 21) (by decide +kernel) rfl rfl rfl rfl iI iI iI iI ?_ | refine WS_drawR3 3 0 4 (List.range 21) (by decide +kernel) rfl rfl rfl rfl iI iI iI ?_) | (refine DL_h (H_callX iI rfl p4 iI) rfl rfl rfl ?_; intro x4) | (refine LS_h (H_callX iI rfl (p5 x4) iI) rfl ?_; intro new2))
        exact ret_none (.inr rfl) rfl ⟨new2, rfl, finE⟩
      · rw [if_neg he]
        have p4 := nsendNo_spec w0 gn t m.now s.addr ot he
        have p3 := refuse_spec w0 gm m ⟨k.vs, k.bs, k.r, va, ve⟩ el (i : Int) (t.sendE s.addr ot) (by omega)
        generalize t.sendE s.addr ot = e at *
        simp only [mshC, staB, staC, ht, ptrN, staN, star_assoc]
        simp only [outNo, mshC] at p3 p4
        repeat' (first | ((first | refine' DL_q rfl rfl ?zh ?_ | refine' DL_qg rfl rfl rfl ?zh ?_); case zh => intro F'; exact Q_nilF rfl rfl iI) | (show WS _ _ _ (.region 3 _ true) _ _; refine WS_drawA (.range 25) (by decide +kernel) rfl ?_) | (refine WS_seqK ?_; intro K hK) | (refine hK _ ?_; clear hK K) | refine stZ ?_ | (refine s2Z ?_ ?_ <;> intro hc <;> (try simp only [cS] at hc) <;> (try (exfalso; first | contradiction | omega))) | (refine DL_alloc iI rfl ?_; intro g) | refine sqZ ?_ | ((first | refine' LQ ?zh rfl ?_ | refine' DL_q rfl rfl ?zh ?_ | refine' DL_qg rfl rfl rfl ?zh ?_); case zh => intro F'; first | exact Q_bin_t rfl rfl iI (by first | assumption | omega | decide | rfl) | exact Q_bin_f rfl rfl iI (by first | assumption | omega | decide | rfl) | exact Q_bin_nt rfl rfl iI (by first | assumption | omega | decide | rfl) | exact Q_bin_nf rfl rfl iI (by first | assumption | omega | decide | rfl)) | (refine shZ ?_; intro g) | (refine s0Z ?_; intro g) | (show WS _ _ _ (.region 1 _ true) _ _; refine WS_drawRL 3 [0, 1, 2, 4, 5, 6, 3, 7, 8, 9] 6 [] (by decide +kernel) rfl rfl iI ?_) | (refine DL_h (H_callX iI rfl p1 iI) rfl rfl rfl ?_; intro u1) | (refine DL_h (H_callX iI rfl p2 iI) rfl rfl rfl ?_; intro u2) | (show WS _ _ _ (.region 10 _ true) _ _; first | refine WS_drawR3S 3 0 4 b2 s2 (List.range 21) (by decide +kernel) rfl rfl rfl rfl iI iI iI iI ?_ | refine WS_drawR3 3 0 4 (List.range 21) (by decide +kernel) rfl rfl rfl rfl iI iI iI ?_) | (refine DL_h (H_callX iI rfl p4 iI) rfl rfl rfl ?_; intro x4) | (refine LS_h (H_callX iI rfl p3 iI) rfl ?_; intro ve2))
        refine ret_none (.inl rfl) rfl ⟨[evBare (i : Int) e], rfl, ?_⟩
        (try rw [star_assoc (mshA _ _ _ _)])
        refine Ent.msh (m := m.refuse (i : Int) e) va ve2 (by rw [List.map_append, hel]; rfl) ?_
        refine Ent.sta (m := m.refuse (i : Int) e) gn vj e1 ?_
        unfold mshS
        simp only [mshP, mshC, staB, staC, ht, ptrN, staN, Ms.refuse, Ms.event, evsO, evO, outR, evBare, svV, slV', OutD.zero, star_emp]
        exact finE
    · obtain ⟨R, e1, e2⟩ := stas_open2 hbl hb hs hb2 hs2 hij
      refine WS_sta e1 fun gn vj => ?_
      unfold mshS
      simp only [mshC] at p1 p2
      by_cases he : t.sendE s2.addr ot = 0
      · rw [if_pos he]
        have hw := hrt.wentSend hn s2.addr ot (by unfold Nd.sendE at he; split at he; cases he; omega)
        have hfr := Nd.sendF_frames t m.now s2.addr ot
        have p4 := (nsendT_spec w0 gn t m.now s2.addr ot hrt hc hn he).rein svV svOf3 (fun x w F hx => by rw [star_assoc, star_left_comm] at hx; exact outR_form hx)
        have p5 := fun (v : SV × SV × SV) => emitX_spec w0 gm k i b (c + 1) hb m el (t.sendF m.now s2.addr ot).out (svV v) s (·.run (t.sendF m.now s2.addr ot)) (t.sendF m.now s2.addr ot) (fun _ => rfl) rfl hs ((hso.mono (Nat.le_succ c)).says ht hw) hw.pks.le (by omega) hf.air (by rw [hev]; simp only [List.length_nil]; omega) h6 hel (staP b2 s2 * R) (e2 _) va ve gn vj
        generalize t.sendF m.now s2.addr ot = t2 at *
        simp only [mshC, staB, staC, ht, ptrN, staN]
        simp only [outA, svV, slV', mshC, Sta.run_tear, Sta.run_armed, Sta.run_journal, star_assoc] at p4 p5 ⊢
        repeat' (first | ((first | refine' DL_q rfl rfl ?zh ?_ | refine' DL_qg rfl rfl rfl ?zh ?_); case zh => intro F'; exact Q_nilF rfl rfl iI) | (show WS _ _ _ (.region 3 _ true) _ _; refine WS_drawA (.range 25) (by decide +kernel) rfl ?_) | (refine WS_seqK ?_; intro K hK) | (refine hK _ ?_; clear hK K) | refine stZ ?_ | (refine s2Z ?_ ?_ <;> intro hc <;> (try simp only [cS] at hc) <;> (try (exfalso; first | contradiction | omega))) | (refine DL_alloc iI rfl ?_; intro g) | refine sqZ ?_ | ((first | refine' LQ ?zh rfl ?_ | refine' DL_q rfl rfl ?zh ?_ | refine' DL_qg rfl rfl rfl ?zh ?_); case zh => intro F'; first | exact Q_bin_t rfl rfl iI (by first | assumption | omega | decide | rfl) | exact Q_bin_f rfl rfl iI (by first | assumption | omega | decide | rfl) | exact Q_bin_nt rfl rfl iI (by first | assumption | omega | decide | rfl) | exact Q_bin_nf rfl rfl iI (by first | assumption | omega | decide | rfl)) | (refine shZ ?_; intro g) | (refine s0Z ?_; intro g) | (show WS _ _ _ (.region 1 _ true) _ _; refine WS_drawRL 3 [0, 1, 2, 4, 5, 6, 3, 7, 8, 9] 6 [] (by decide +kernel) rfl rfl iI ?_) | (refine DL_h (H_callX iI rfl p1 iI) rfl rfl rfl ?_; intro u1) | (refine DL_h (H_callX iI rfl p2 iI) rfl rfl rfl ?_; intro u2) | (show WS _ _ _ (.region 10 _ true) _ _; first | refine WS_drawR3S 3 0 4 b2 s2 (List.range 21) (by decide +kernel) rfl rfl rfl rfl iI iI iI iI ?_ | refine WS_drawR3 3 0 4 (List.range 21) (by decide +kernel) rfl rfl rfl rfl iI iI iI ?_) | ((first | refine' DL_qp rfl rfl rfl ?zh ?_ | refine' DL_q rfl rfl ?zh ?_); (case zh => intro F'; exact Q_loadSta (s := s2) (b := b2) rfl iI iI)) | (refine DL_h (H_callX iI rfl p4 iI) rfl rfl rfl ?_; intro x4) | (refine LS_h (H_callX iI rfl (p5 x4) iI) rfl ?_; intro new2))
        exact ret_none (.inr rfl) rfl ⟨new2, rfl, finE⟩
      · rw [if_neg he]
        have p4 := nsendNo_spec w0 gn t m.now s2.addr ot he
        have p3 := refuse_spec w0 gm m ⟨k.vs, k.bs, k.r, va, ve⟩ el (i : Int) (t.sendE s2.addr ot) (by omega)
        generalize t.sendE s2.addr ot = e at *
        simp only [mshC, staB, staC, ht, ptrN, staN, star_assoc]
        simp only [outNo, mshC] at p3 p4
        repeat' (first | ((first | refine' DL_q rfl rfl ?zh ?_ | refine' DL_qg rfl rfl rfl ?zh ?_); case zh => intro F'; exact Q_nilF rfl rfl iI) | (show WS _ _ _ (.region 3 _ true) _ _; refine WS_drawA (.range 25) (by decide +kernel) rfl ?_) | (refine WS_seqK ?_; intro K hK) | (refine hK _ ?_; clear hK K) | refine stZ ?_ | (refine s2Z ?_ ?_ <;> intro hc <;> (try simp only [cS] at hc) <;> (try (exfalso; first | contradiction | omega))) | (refine DL_alloc iI rfl ?_; intro g) | refine sqZ ?_ | ((first | refine' LQ ?zh rfl ?_ | refine' DL_q rfl rfl ?zh ?_ | refine' DL_qg rfl rfl rfl ?zh ?_); case zh => intro F'; first | exact Q_bin_t rfl rfl iI (by first | assumption | omega | decide | rfl) | exact Q_bin_f rfl rfl iI (by first | assumption | omega | decide | rfl) | exact Q_bin_nt rfl rfl iI (by first | assumption | omega | decide | rfl) | exact Q_bin_nf rfl rfl iI (by first | assumption | omega | decide | rfl)) | (refine shZ ?_; intro g) | (refine s0Z ?_; intro g) | (show WS _ _ _ (.region 1 _ true) _ _; refine WS_drawRL 3 [0, 1, 2, 4, 5, 6, 3, 7, 8, 9] 6 [] (by decide +kernel) rfl rfl iI ?_) | (refine DL_h (H_callX iI rfl p1 iI) rfl rfl rfl ?_; intro u1) | (refine DL_h (H_callX iI rfl p2 iI) rfl rfl rfl ?_; intro u2) | (show WS _ _ _ (.region 10 _ true) _ _; first | refine WS_drawR3S 3 0 4 b2 s2 (List.range 21) (by decide +kernel) rfl rfl rfl rfl iI iI iI iI ?_ | refine WS_drawR3 3 0 4 (List.range 21) (by decide +kernel) rfl rfl rfl rfl iI iI iI ?_) | ((first | refine' DL_qp rfl rfl rfl ?zh ?_ | refine' DL_q rfl rfl ?zh ?_); (case zh => intro F'; exact Q_loadSta (s := s2) (b := b2) rfl iI iI)) | (refine DL_h (H_callX iI rfl p4 iI) rfl rfl rfl ?_; intro x4) | (refine LS_h (H_callX iI rfl p3 iI) rfl ?_; intro ve2))
        refine ret_none (.inl rfl) rfl ⟨[evBare (i : Int) e], rfl, ?_⟩
        (try rw [star_assoc (mshA _ _ _ _)])
        refine Ent.msh (m := m.refuse (i : Int) e) va ve2 (by rw [List.map_append, hel]; rfl) ?_
        refine Ent.sta (m := m.refuse (i : Int) e) gn vj e1 ?_
        unfold mshS
        simp only [mshP, mshC, staB, staC, ht, ptrN, staN, Ms.refuse, Ms.event, evsO, evO, outR, evBare, svV, slV', OutD.zero, star_emp]
        exact finE
end

section
open Go.RowKit
attribute [local irreducible] WS LS OpQ OpT OpH OpTQ Spec SpecQ cel
variable (w0 : World)
set_option maxRecDepth 100000 in
theorem mhear_spec (gm : Nat) (k : MH) (m : Ms) (el : List ES) (o : OpD) (c : Nat) (hf : m.Fine c) (hx : o.text.length ≤ 100000) (hev : m.evs = []) (hbars : m.bars o = false) (hk : o.kind = 8) : Spec Tryz.prog w0 41 [ptr gm 0, opA o] (mshA gm k m el) (fun _ : List ES => .tuple #[]) (fun new => mshA gm k (m.nodeOp o) (el ++ new) * evsO new) := by
  obtain ⟨i, s, ei, hs, hw, hjb⟩ := Ms.bars_false hbars
  obtain ⟨kind, oa, ob, on_, oo, ot⟩ := o
  simp only at hk ei hw hjb hx
  subst hk
  subst ei
  have h6 := hf.short
  refine Spec.enter Tryz.func41 rfl Tryz.ntmps41 rfl fun G => ?_
  refine WS_msh fun va ve hel => ?_
  refine WS_mlen fun hbl => ?_
  have hell : el.length = 0 := by
    have := congrArg List.length hel
    rw [hev] at this
    simpa using this
  have hi := (List.getElem?_eq_some_iff.1 hs).1
  obtain ⟨b, hb⟩ : ∃ b, k.bs[i]? = some b := ⟨_, List.getElem?_eq_getElem (by omega)⟩
  have hat : m.at_ (i : Int) = some s := (m.at_nat i).trans hs
  have hso := hf.sound i s hs
  have p1 := station_spec w0 gm m ⟨k.vs, k.bs, k.r, va, ve⟩ i b hb (by show k.bs.length ≤ 6; omega)
  simp only [opA, opC, argE]
  cases ht : s.node with
  | none => rw [ht] at hw; exact absurd (hw (by decide)) (fun h : true = false => by cases h)
  | some t =>
    have hrt := (hso.node t ht).1
    obtain ⟨j, s2, ej, hs2⟩ := hjb (.inr (.inr rfl))
    subst ej
    have hj := (List.getElem?_eq_some_iff.1 hs2).1
    obtain ⟨b2, hb2⟩ : ∃ b, k.bs[j]? = some b := ⟨_, List.getElem?_eq_getElem (by omega)⟩
    have hat2 : m.at_ (j : Int) = some s2 := (m.at_nat j).trans hs2
    have p2 := station_spec w0 gm m ⟨k.vs, k.bs, k.r, va, ve⟩ j b2 hb2 (by show k.bs.length ≤ 6; omega)
    rw [Ms.nodeOp_rcv hbars rfl hat ht hat2]
    simp only [Int.toNat_natCast]
    by_cases hij : i = j
    · obtain rfl : b = b2 := by rw [hij, hb2] at hb; exact (Option.some.inj hb).symm
      obtain rfl : s = s2 := by rw [hij, hs2] at hs; exact (Option.some.inj hs).symm
      obtain ⟨R, e1, e2⟩ := stas_open hbl hb hs
      refine WS_sta e1 fun gn vj => ?_
      unfold mshS
      simp only [mshC] at p1 p2
      have hw := hrt.wentRcv m.now s.addr ot
      have hfr := rcvF_few hrt m.now s.addr ot
      have p4 := fun v => nrcv_spec w0 gn t m.now s.addr ot hrt hx v (rows 5 1 byteC v ot)
      have p5 := fun v => emitX_spec w0 gm k i b c hb m el (t.rcvF m.now s.addr ot).out v s (·.run (t.rcvF m.now s.addr ot)) (t.rcvF m.now s.addr ot) (fun _ => rfl) rfl hs (hso.says ht hw) hw.pks.le (by omega) hf.air (by rw [hev]; simp only [List.length_nil]; omega) h6 hel R (e2 _) va ve gn vj
      generalize t.rcvF m.now s.addr ot = t2 at *
      simp only [mshC, staB, staC, ht, ptrN, staN]
      simp only [outA, mshC, Sta.run_tear, Sta.run_armed, Sta.run_journal, star_assoc] at p4 p5 ⊢
      repeat' (first | ((first | refine' DL_q rfl rfl ?zh ?_ | refine' DL_qg rfl rfl rfl ?zh ?_); case zh => intro F'; exact Q_nilF rfl rfl iI) | (show WS _ _ _ (.region 3 _ true) _ _; refine WS_drawA (.range 25) (by decide +kernel) rfl ?_) | (refine WS_seqK ?_; intro K hK) | (refine hK _ ?_; clear hK K) | refine stZ ?_ | (refine s2Z ?_ ?_ <;> intro hc <;> (try simp only [cS] at hc) <;> (try (exfalso; first | contradiction | omega))) | refine sqZ ?_ | ((first | refine' LQ ?zh rfl ?_ | refine' DL_qp rfl rfl rfl ?zh ?_ | refine' DL_q rfl rfl ?zh ?_ | refine' DL_qg rfl rfl rfl ?zh ?_); case zh => intro F'; first | exact Q_bin_t rfl rfl iI (by first | assumption | omega | decide | rfl) | exact Q_bin_f rfl rfl iI (by first | assumption | omega | decide | rfl) | exact Q_bin_nt rfl rfl iI (by first | assumption | omega | decide | rfl) | exact Q_bin_nf rfl rfl iI (by first | assumption | omega | decide | rfl)) | (refine shZ ?_; intro g) | (show WS _ _ _ (.region 1 _ true) _ _; refine WS_drawRL 3 [0, 1, 2, 4, 5, 6, 3, 7, 8, 9] 6 [] (by decide +kernel) rfl rfl iI ?_) | (refine DL_h (H_callX iI rfl p1 iI) rfl rfl rfl ?_; intro u1) | (refine DL_h (H_callX iI rfl p2 iI) rfl rfl rfl ?_; intro u2) | (show WS _ _ _ (.region 15 _ true) _ _; refine WS_drawRL 3 (.range 20) 18 [6, 10, 14] (by decide +kernel) rfl rfl iI ?_) | (refine DL_h (H_convB rfl iI iI iI (by omega)) rfl rfl rfl ?_; intro vb2) | (refine DL_h (H_callX iI rfl (p4 _) iI) rfl rfl rfl ?_; intro x4) | (refine DL_h (H_callX iI rfl (p5 x4) iI) rfl rfl rfl ?_; intro new2))
      exact ret_none (.inr rfl) rfl ⟨new2, rfl, finE⟩
    · obtain ⟨R, e1, e2⟩ := stas_open2 hbl hb hs hb2 hs2 hij
      refine WS_sta e1 fun gn vj => ?_
      unfold mshS
      simp only [mshC] at p1 p2
      have hw := hrt.wentRcv m.now s2.addr ot
      have hfr := rcvF_few hrt m.now s2.addr ot
      have p4 := fun v => nrcv_spec w0 gn t m.now s2.addr ot hrt hx v (rows 5 1 byteC v ot)
      have p5 := fun v => emitX_spec w0 gm k i b c hb m el (t.rcvF m.now s2.addr ot).out v s (·.run (t.rcvF m.now s2.addr ot)) (t.rcvF m.now s2.addr ot) (fun _ => rfl) rfl hs (hso.says ht hw) hw.pks.le (by omega) hf.air (by rw [hev]; simp only [List.length_nil]; omega) h6 hel (staP b2 s2 * R) (e2 _) va ve gn vj
      generalize t.rcvF m.now s2.addr ot = t2 at *
      simp only [mshC, staB, staC, ht, ptrN, staN]
      simp only [outA, mshC, Sta.run_tear, Sta.run_armed, Sta.run_journal, star_assoc] at p4 p5 ⊢
      repeat' (first | ((first | refine' DL_q rfl rfl ?zh ?_ | refine' DL_qg rfl rfl rfl ?zh ?_); case zh => intro F'; exact Q_nilF rfl rfl iI) | (show WS _ _ _ (.region 3 _ true) _ _; refine WS_drawA (.range 25) (by decide +kernel) rfl ?_) | (refine WS_seqK ?_; intro K hK) | (refine hK _ ?_; clear hK K) | refine stZ ?_ | (refine s2Z ?_ ?_ <;> intro hc <;> (try simp only [cS] at hc) <;> (try (exfalso; first | contradiction | omega))) | refine sqZ ?_ | ((first | refine' LQ ?zh rfl ?_ | refine' DL_qp rfl rfl rfl ?zh ?_ | refine' DL_q rfl rfl ?zh ?_ | refine' DL_qg rfl rfl rfl ?zh ?_); case zh => intro F'; first | exact Q_bin_t rfl rfl iI (by first | assumption | omega | decide | rfl) | exact Q_bin_f rfl rfl iI (by first | assumption | omega | decide | rfl) | exact Q_bin_nt rfl rfl iI (by first | assumption | omega | decide | rfl) | exact Q_bin_nf rfl rfl iI (by first | assumption | omega | decide | rfl)) | (refine shZ ?_; intro g) | (show WS _ _ _ (.region 1 _ true) _ _; refine WS_drawRL 3 [0, 1, 2, 4, 5, 6, 3, 7, 8, 9] 6 [] (by decide +kernel) rfl rfl iI ?_) | (refine DL_h (H_callX iI rfl p1 iI) rfl rfl rfl ?_; intro u1) | (refine DL_h (H_callX iI rfl p2 iI) rfl rfl rfl ?_; intro u2) | (show WS _ _ _ (.region 15 _ true) _ _; refine WS_drawRL 3 (.range 20) 18 [6, 10, 14] (by decide +kernel) rfl rfl iI ?_) | ((first | refine' DL_qp rfl rfl rfl ?zh ?_ | refine' DL_q rfl rfl ?zh ?_); (case zh => intro F'; exact Q_loadSta (s := s2) (b := b2) rfl iI iI)) | (refine DL_h (H_convB rfl iI iI iI (by omega)) rfl rfl rfl ?_; intro vb2) | (refine DL_h (H_callX iI rfl (p4 _) iI) rfl rfl rfl ?_; intro x4) | (refine DL_h (H_callX iI rfl (p5 x4) iI) rfl rfl rfl ?_; intro new2))
      exact ret_none (.inr rfl) rfl ⟨new2, rfl, finE⟩
end

section
open Go.RowKit
attribute [local irreducible] WS LS OpQ OpT OpH OpTQ Spec SpecQ cel
variable (w0 : World)
set_option maxRecDepth 100000 in
theorem mboot_spec (gm : Nat) (k : MH) (m : Ms) (el : List ES) (o : OpD) (c : Nat) (hf : m.Fine c) (hev : m.evs = []) (hbars : m.bars o = false) (hk : o.kind = 11) : Spec Tryz.prog w0 41 [ptr gm 0, opA o] (mshA gm k m el) (fun _ : List ES => .tuple #[]) (fun new => mshA gm k (m.nodeOp o) (el ++ new) * evsO new) := by
  obtain ⟨i, s, ei, hs, hw, hjb⟩ := Ms.bars_false hbars
  obtain ⟨kind, oa, ob, on_, oo, ot⟩ := o
  simp only at hk ei hw hjb
  subst hk
  subst ei
  have h6 := hf.short
  refine Spec.enter Tryz.func41 rfl Tryz.ntmps41 rfl fun G => ?_
  refine WS_msh fun va ve hel => ?_
  refine WS_mlen fun hbl => ?_
  have hell : el.length = 0 := by
    have := congrArg List.length hel
    rw [hev] at this
    simpa using this
  have hi := (List.getElem?_eq_some_iff.1 hs).1
  obtain ⟨b, hb⟩ : ∃ b, k.bs[i]? = some b := ⟨_, List.getElem?_eq_getElem (by omega)⟩
  have hat : m.at_ (i : Int) = some s := (m.at_nat i).trans hs
  have hso := hf.sound i s hs
  have p1 := station_spec w0 gm m ⟨k.vs, k.bs, k.r, va, ve⟩ i b hb (by show k.bs.length ≤ 6; omega)
  simp only [opA, opC, argE]
  obtain ⟨vb, hvb, p2⟩ := stationG_spec w0 gm m ⟨k.vs, k.bs, k.r, va, ve⟩ ob (by show k.bs.length ≤ 6; omega)
  cases ht : s.node with
  | some t => exact absurd ((hw (by decide)).trans (show decide ((11 : Int) = 11) = true by decide)) (by rw [ht]; exact fun h : false = true => by cases h)
  | none =>
    rw [Ms.nodeOp_boot hbars rfl hat]
    simp only [Int.toNat_natCast]
    obtain ⟨R, e1, e2⟩ := stas_open hbl hb hs
    refine WS_sta e1 fun gn vj => ?_
    unfold mshS
    have hnf := Nd.new_frames s.addr s.journal m.now
    have hjl := hso.jour
    have p4 := (nnew_spec w0 s.addr s.journal (by omega) m.now vj (rows 5 1 byteC vj s.journal)).rein (fun y : Nat × SV × SV × SV => (y.1, svV y.2)) (fun x => (x.1, svOf3 x.2)) (fun x w F hx => by rw [star_assoc, star_assoc, star_left_comm] at hx; show (x.1, svV (svOf3 x.2)) = x; rw [outR_form hx])
    have p5 := fun (gn' : Nat) (v : SV × SV × SV) => emitX_spec w0 gm k i b c hb m el (Nd.newO s.addr s.journal m.now) (svV v) s (Sta.boot m.now) (Nd.new s.addr s.journal m.now) (fun _ => rfl) rfl hs (hso.boot m.now) (by rw [hnf.1]; simp) (by rw [hnf.1]; simp) hf.air (by rw [hev, hnf.1]; simp) h6 hel R (e2 _) va ve gn' vj
    have eb1 : (s.boot m.now).tear = s.tear := rfl
    have eb2 : (s.boot m.now).armed = false := rfl
    have eb3 : (s.boot m.now).journal = s.journal := rfl
    rw [eb1, eb2, eb3] at p5
    generalize Nd.new s.addr s.journal m.now = t2 at *
    generalize Nd.newO s.addr s.journal m.now = o2 at *
    simp only [mshC, staB, staC, ht, ptrN, staN, star_assoc, emp_star]
    simp only [outA, svV, slV', mshC, star_assoc] at p1 p2 p4 p5 ⊢
    repeat' (first | ((first | refine' DL_q rfl rfl ?zh ?_ | refine' DL_qg rfl rfl rfl ?zh ?_); case zh => intro F'; first | exact Q_nilE rfl rfl iI | exact Q_nilF rfl rfl iI) | (show WS _ _ _ (.region 3 _ true) _ _; refine WS_drawA (.range 25) (by decide +kernel) rfl ?_) | (refine WS_seqK ?_; intro K hK) | (refine hK _ ?_; clear hK K) | refine stZ ?_ | (refine s2Z ?_ ?_ <;> intro hc <;> (try simp only [cS] at hc) <;> (try (exfalso; first | contradiction | omega))) | (refine DL_alloc iI rfl ?_; intro g) | refine sqZ ?_ | ((first | refine' LQ ?zh rfl ?_ | refine' DL_q rfl rfl ?zh ?_ | refine' DL_qg rfl rfl rfl ?zh ?_); case zh => intro F'; first | exact Q_bin_t rfl rfl iI (by first | assumption | omega | decide | rfl) | exact Q_bin_f rfl rfl iI (by first | assumption | omega | decide | rfl) | exact Q_bin_nt rfl rfl iI (by first | assumption | omega | decide | rfl) | exact Q_bin_nf rfl rfl iI (by first | assumption | omega | decide | rfl)) | (refine shZ ?_; intro g) | (refine s0Z ?_; intro g) | (show WS _ _ _ (.region 1 _ true) _ _; refine WS_drawRL 3 [0, 1, 2, 4, 5, 6, 3, 7, 8, 9] 6 [] (by decide +kernel) rfl rfl iI ?_) | (refine DL_h (H_callX iI rfl p1 iI) rfl rfl rfl ?_; intro u1) | (refine DL_h (H_callX iI rfl p2 iI) rfl rfl rfl ?_; intro u2) | (show WS _ _ _ (.region 21 _ true) _ _; refine WS_drawR2 0 4 (List.range 19) (by decide +kernel) rfl rfl rfl iI iI ?_) | (refine DL_h (H_callX iI rfl p4 iI) rfl rfl rfl ?_; intro x4) | (refine LS_h (H_callX iI rfl (p5 x4.1 x4.2) iI) rfl ?_; intro new2))
    exact ret_none (.inr rfl) rfl ⟨new2, rfl, finE⟩
end

end Go.Proofs.YtapoehkdnglahabGreat

