/- A part of what Circles needs. -/
import Derived.Test.YtapoehkdnglahabGreatCirclesGm
set_option maxHeartbeats 16000000
set_option linter.unusedVariables false
set_option linter.unusedSimpArgs false
set_option linter.unusedSectionVars false
namespace Go.Proofs.YtapoehkdnglahabGreat
section
open Go.RowKit
def fnV (f : FuncId) : Value := .func (.func f) #[] #[]
instance asKey_fn (f : FuncId) : AsKey fnV (.func (.func f) #[] #[]) f := ⟨rfl⟩
section
variable {P : Program} {n : Frm} {w0 : World} {E : Env} {D : List Deferred} {H F F1 F2 : HProp} {Q : Exit → St → Prop} {l l' : List Oper}
theorem H_insert {κ ν : Type} [DecidableEq κ] {fk : κ → Value} {fv : ν → Value} {r : Nat} {m : List (κ × ν)} {ty : TypeId} {pos : String} {after : Array Edge} {gu : Option (Tmp × Bool)} {x y z' : Operand} {t kt et : TypeId} {k : κ} {v : Value} {u : ν} {uv : Value} (hx : E.ev x = some (.map (some r))) (hy : E.ev y = some v) (hz : E.ev z' = some uv) (hl : MapOf H r κ ν fk fv m F) (hkk : AsKey fk v k) (hvv : AsKey fv uv u) (hm : MapT P t kt et) (hk : KeyT P kt fk) :
    OpH P n w0 ⟨none, .insert t x y z', ty, pos, after, gu⟩ E H (fun _ : Unit => undef) (fun _ => mp fk fv r (mset m k u) * F) := by
  obtain rfl := hkk.eq
  obtain rfl := hvv.eq
  refine OpH.mk' (pre := mp fk fv r m) (post := fun _ => mp fk fv r (mset m k u)) (fun G a w K Q s hs hK => ?_) hl.eq
  obtain ⟨w', hr, hs'⟩ := run_mapUpdate (k := k) (u := u) w hm.eq hs
  have := hK () w' hs'
  simp only [Act.put] at this
  simp only [Oper.wp, execOp, s.ev hx, s.ev hy, s.ev hz, Sem.run_bind, hr, Result.andThen_ok, Sem.run_pure, Oper.upon_skip]
  exact this
theorem DL_qs {ops : Array Oper} {R : HProp} {B : Nat → Bool} {cp k : Nat} {o : Oper} {ls : List Oper} {v : Value} (he : effB o.op = false) (hd : okDst n o.dst = true) (hB : B (k + 1000) = true) (hg : o.guard = none) (hop : OpQ P n w0 o E (R * F) v) (h : DL P n w0 ops Q D R emp B cp (k + 1) false ls (E.putO o.dst v) F) : DL P n w0 ops Q D R emp B cp k false (o :: ls) E F :=
  .qs he hd hB ⟨true, by unfold guardV; rw [hg]⟩ (by show OpQ P n w0 o E (R * (emp * F)) v; rw [emp_star]; exact hop) h
theorem WS_drawRB3 {id : Nat} (t t2 t3 : Nat) (idx bs : List Nat) {g off g2 off2 g3 off3 : Nat} {bt bt2 bt3 : TypeId} {cs cs2 cs3 : List Value} (hs : statD P l idx (inB bs) 1000 = true) (hl : permL l idx = some l') (hx : E.get t = some (ptr g off)) (hx2 : E.get t2 = some (ptr g2 off2)) (hx3 : E.get t3 = some (ptr g3 off3)) (hR : LimbB H g bt cs F1) (hR2 : LimbB F1 g2 bt2 cs2 F2) (hR3 : LimbB F2 g3 bt3 cs3 F) (h : DL P n w0 l.toArray Q D (cel g bt cs * (cel g2 bt2 cs2 * cel g3 bt3 cs3)) emp (inB bs) 1000 0 false l' E F) : WS P n w0 (.region id l.toArray true) Q ⟨E, D, H⟩ :=
  WS_draw idx l' (cel g bt cs * (cel g2 bt2 cs2 * cel g3 bt3 cs3)) emp F _ 1000 hs (by rw [emp_star, hR.eq, hR2.eq, hR3.eq, star_assoc, star_assoc]) (permL_eq hl) h
end
def handM : List (Int × FuncId) := [(1, 118), (2, 119), (3, 120), (9, 121)]
attribute [local irreducible] WS LS OpQ OpT OpH OpTQ Spec SpecQ cel
variable (w0 : World)
set_option maxRecDepth 100000 in
theorem handlers_spec : Spec Tryz.prog w0 69 [] emp (fun r : Nat => .map (some r)) (fun r => mp i64 fnV r handM) := by
  refine Spec.enter Tryz.func69 rfl Tryz.ntmps69 rfl fun G => ?_
  simp only [argE]
  repeat' (first | (refine WS_seqK ?_; intro K hK) | (refine hK _ ?_; clear hK K) | refine stZ ?_ | refine sqZ ?_ | (refine LS_h (H_makeMap i64 fnV) rfl ?_; intro r) | (refine LS_h0 (H_insert rfl rfl rfl iI iI iI iI iI) ?_; intro g))
  exact ret_tmp (.inl rfl) rfl rfl ⟨r, rfl, finE⟩
theorem Nd.rcv_deaf {s : Nd} {now : UInt64} {src : UInt32} {f : Str} (h : s.Deaf now src f) : s.rcv now src f = s.rcvQ now src f := by
  unfold Nd.rcv
  rcases h with h | h | h
  · rw [h]
  · cases Pk.dec f with
    | none => rfl
    | some p =>
      simp only
      rw [if_pos]
      rcases h with h | h
      · exact .inl h
      · exact .inr (.inl h)
  · cases Pk.dec f with
    | none => rfl
    | some p => simp only; rw [if_pos (.inr (.inr h))]
set_option maxRecDepth 100000 in
theorem rcvC_spec (gn : Nat) (s : Nd) (now : UInt64) (src : UInt32) (f : Str) (hi : s.Inv) (hf : f.length ≤ 100000) (hfit : s.Fit 8) (hfr : s.out.frames.length ≤ 10000) (hdr : s.out.dropped.length ≤ 10000) (bf br bn bw : Nat) (tf tr tn tw : TypeId) (v : Value) (X : HProp) [hX : Rdr w0 X v UInt8 1 byteC f] :
    Spec Tryz.prog w0 65 [ptr bf 0, ptr br 0, ptr bn 0, ptr bw 0] (nodA gn s * (cel bf tf [v] * (cel br tr [u32 src] * (cel bn tn [ptr gn 0] * (cel bw tw [u64 now] * X))))) (fun _ : Unit => .tuple #[]) (fun _ => nodA gn (s.rcv now src f) * X) := by
  by_cases hq : s.Deaf now src f
  · rw [Nd.rcv_deaf hq]
    exact rcvQ_spec w0 gn s now src f hq hf hfr hdr bf br bn bw tf tr tn tw v X
  obtain ⟨p, hp⟩ : ∃ p, Pk.dec f = some p := by
    cases h : Pk.dec f with
    | none => exact absurd (.inl h) hq
    | some p => exact ⟨p, rfl⟩
  have h1 : ¬ src = 0 := fun e => hq (.inr (.inl (.inl e)))
  have h2 : ¬ src = s.self := fun e => hq (.inr (.inl (.inr e)))
  have h3 : ¬ now < s.silent := fun e => hq (.inr (.inr e))
  have es : s.rcv now src f = s.handle src p := by
    unfold Nd.rcv
    rw [hp]
    simp only
    rw [if_neg]
    rintro (e | e | e)
    · exact h1 e
    · exact h2 e
    · exact h3 e
  have hpr := Pk.dec_read hp
  have hk : p.kind = 1 ∨ p.kind = 2 ∨ p.kind = 3 ∨ p.kind = 9 := by
    obtain ⟨⟨_, hk⟩, _⟩ := Pk.dec_some hp
    rcases hk with hk | hk | hk | hk
    · exact .inl hk.1
    · exact .inr (.inl hk.1)
    · exact .inr (.inr (.inl hk.1))
    · exact .inr (.inr (.inr hk.1))
  have hkind : s.handle src p = if p.kind = 1 then s.req src p else if p.kind = 2 then s.rep src p else if p.kind = 3 then s.los src p else s.dat src p := rfl
  have htx := texts_le hi p.dest
  refine Spec.enter Tryz.func65 rfl Tryz.ntmps65 rfl fun G => ?_
  rw [star_assoc (nodA gn s)]
  refine WS_nod fun h => ?_
  have p1 := wdecode_spec w0 f hf v X
  have q1 := fun vl => request_spec w0 gn s h src p hpr vl hi.tab.tab hi.order (hfit.le (by omega))
  have q2 := fun vl => reply_spec w0 gn s h src p hpr vl hi.tab.tab hi.sr (by omega) (fun t ht => by have := htx.2 t ht; omega) (hfit.le (by omega))
  have q3 := fun vl => lose_spec' w0 gn s h src p hpr vl (hfit.le (by omega))
  have q4 := fun vl => data_spec w0 gn s h src p hpr vl hi.tab.tab (hfit.le (by omega))
  unfold decV decH at p1
  simp only [hp, Option.getD_some, Option.isSome_some] at p1
  rw [es, hkind]
  clear es hkind hq hp hpr htx
  obtain ⟨ttl, kind, hops, unknown, id, dest, destSeq, from2, fromSeq, life, lost, payload⟩ := p
  simp only [Pk.val, Pk.cells] at p1 q1 q2 q3 q4 hk ⊢
  have p2 := handlers_spec w0
  simp only [nodP, nodPm, nodC] at q1 q2 q3 q4 ⊢
  simp only [argE]
  rcases hk with rfl | rfl | rfl | rfl
  · rw [if_pos rfl]
    clear q2 q3 q4
    repeat' (first | (show WS _ _ _ (.region 2 _ true) _ _; refine WS_drawA (.range 15) (by decide +kernel) rfl ?_) | (show WS _ _ _ (.region 4 _ true) _ _; refine WS_drawA (.range 7) (by decide +kernel) rfl ?_) | (refine WS_seqK ?_; intro K hK) | (refine hK _ ?_; clear hK K) | refine stZ ?_ | (refine s2Z ?_ ?_ <;> intro hc <;> (try simp only [cS] at hc) <;> (try (exfalso; first | contradiction | omega))) | refine sbZ ?_ | refine sqZ ?_ | (refine shZ ?_; intro g) | (refine s0Z ?_; intro g) | (refine LS_h (H_callX iI rfl p1 iI) rfl ?_; intro vl) | (show WS _ _ _ (.region 1 _ true) _ _; refine WS_drawRB3 4 2 1 [1, 2, 4, 5, 6, 0, 3, 7] [1006] (by decide +kernel) rfl rfl rfl rfl iI iI iI ?_) | (refine DL_h (H_callX iI rfl p2 ⟨emp_star.symm⟩) rfl rfl rfl ?_; intro r) | (refine' DL_qs rfl rfl rfl rfl ?zh ?_; (case zh => exact Q_lookupE rfl rfl iI iI iI iI iI rfl)) | (refine DL_h (H_callB iI rfl rfl (q1 _) iI) rfl rfl rfl ?_; intro u5))
    exact ret_none (.inr rfl) rfl ⟨(), rfl, by rw [star_assoc (nodA _ _)]; exact finE⟩
  · rw [if_neg (by decide), if_pos rfl]
    clear q1 q3 q4
    repeat' (first | (show WS _ _ _ (.region 2 _ true) _ _; refine WS_drawA (.range 15) (by decide +kernel) rfl ?_) | (show WS _ _ _ (.region 4 _ true) _ _; refine WS_drawA (.range 7) (by decide +kernel) rfl ?_) | (refine WS_seqK ?_; intro K hK) | (refine hK _ ?_; clear hK K) | refine stZ ?_ | (refine s2Z ?_ ?_ <;> intro hc <;> (try simp only [cS] at hc) <;> (try (exfalso; first | contradiction | omega))) | refine sbZ ?_ | refine sqZ ?_ | (refine shZ ?_; intro g) | (refine s0Z ?_; intro g) | (refine LS_h (H_callX iI rfl p1 iI) rfl ?_; intro vl) | (show WS _ _ _ (.region 1 _ true) _ _; refine WS_drawRB3 4 2 1 [1, 2, 4, 5, 6, 0, 3, 7] [1006] (by decide +kernel) rfl rfl rfl rfl iI iI iI ?_) | (refine DL_h (H_callX iI rfl p2 ⟨emp_star.symm⟩) rfl rfl rfl ?_; intro r) | (refine' DL_qs rfl rfl rfl rfl ?zh ?_; (case zh => exact Q_lookupE rfl rfl iI iI iI iI iI rfl)) | (refine DL_h (H_callB iI rfl rfl (q2 _) iI) rfl rfl rfl ?_; intro u5))
    exact ret_none (.inr rfl) rfl ⟨(), rfl, by rw [star_assoc (nodA _ _)]; exact finE⟩
  · rw [if_neg (by decide), if_neg (by decide), if_pos rfl]
    clear q1 q2 q4
    repeat' (first | (show WS _ _ _ (.region 2 _ true) _ _; refine WS_drawA (.range 15) (by decide +kernel) rfl ?_) | (show WS _ _ _ (.region 4 _ true) _ _; refine WS_drawA (.range 7) (by decide +kernel) rfl ?_) | (refine WS_seqK ?_; intro K hK) | (refine hK _ ?_; clear hK K) | refine stZ ?_ | (refine s2Z ?_ ?_ <;> intro hc <;> (try simp only [cS] at hc) <;> (try (exfalso; first | contradiction | omega))) | refine sbZ ?_ | refine sqZ ?_ | (refine shZ ?_; intro g) | (refine s0Z ?_; intro g) | (refine LS_h (H_callX iI rfl p1 iI) rfl ?_; intro vl) | (show WS _ _ _ (.region 1 _ true) _ _; refine WS_drawRB3 4 2 1 [1, 2, 4, 5, 6, 0, 3, 7] [1006] (by decide +kernel) rfl rfl rfl rfl iI iI iI ?_) | (refine DL_h (H_callX iI rfl p2 ⟨emp_star.symm⟩) rfl rfl rfl ?_; intro r) | (refine' DL_qs rfl rfl rfl rfl ?zh ?_; (case zh => exact Q_lookupE rfl rfl iI iI iI iI iI rfl)) | (refine DL_h (H_callB iI rfl rfl (q3 _) iI) rfl rfl rfl ?_; intro u5))
    exact ret_none (.inr rfl) rfl ⟨(), rfl, by rw [star_assoc (nodA _ _)]; exact finE⟩
  · rw [if_neg (by decide), if_neg (by decide), if_neg (by decide)]
    clear q1 q2 q3
    repeat' (first | (show WS _ _ _ (.region 2 _ true) _ _; refine WS_drawA (.range 15) (by decide +kernel) rfl ?_) | (show WS _ _ _ (.region 4 _ true) _ _; refine WS_drawA (.range 7) (by decide +kernel) rfl ?_) | (refine WS_seqK ?_; intro K hK) | (refine hK _ ?_; clear hK K) | refine stZ ?_ | (refine s2Z ?_ ?_ <;> intro hc <;> (try simp only [cS] at hc) <;> (try (exfalso; first | contradiction | omega))) | refine sbZ ?_ | refine sqZ ?_ | (refine shZ ?_; intro g) | (refine s0Z ?_; intro g) | (refine LS_h (H_callX iI rfl p1 iI) rfl ?_; intro vl) | (show WS _ _ _ (.region 1 _ true) _ _; refine WS_drawRB3 4 2 1 [1, 2, 4, 5, 6, 0, 3, 7] [1006] (by decide +kernel) rfl rfl rfl rfl iI iI iI ?_) | (refine DL_h (H_callX iI rfl p2 ⟨emp_star.symm⟩) rfl rfl rfl ?_; intro r) | (refine' DL_qs rfl rfl rfl rfl ?zh ?_; (case zh => exact Q_lookupE rfl rfl iI iI iI iI iI rfl)) | (refine DL_h (H_callB iI rfl rfl (q4 _) iI) rfl rfl rfl ?_; intro u5))
    exact ret_none (.inr rfl) rfl ⟨(), rfl, by rw [star_assoc (nodA _ _)]; exact finE⟩
end

section
open Go.RowKit
theorem Nd.Step.rcvQ (s : Nd) (now : UInt64) (src : UInt32) (f : Str) : s.Step (s.rcvQ now src f) 2 0 := by
  unfold Nd.rcvQ
  split
  · exact (Nd.Step.drop _ _).le (by omega) (by omega)
  · rename_i p hp
    split
    · exact (Nd.Step.drop _ _).le (by omega) (by omega)
    · split
      · have k := (Nd.Step.tell s src p.dest (numT s.ls p.dest)).trans (Nd.Step.zero (t := { s.tell src p.dest (numT s.ls p.dest) with silent := now + 2000 }) rfl rfl rfl rfl)
        exact (k.trans (Nd.Step.drop _ _)).le (by omega) (by omega)
      · exact (Nd.Step.drop _ _).le (by omega) (by omega)
theorem Nd.Step.rcv {s : Nd} (h : s.Inv) (now : UInt64) (src : UInt32) (f : Str) : s.Step (s.rcv now src f) 6 0 := by
  unfold Nd.rcv
  split
  · exact (Nd.Step.rcvQ _ _ _ _).le (by omega) (by omega)
  · rename_i p hp
    have := (texts_le h p.dest).1
    split
    · exact (Nd.Step.rcvQ _ _ _ _).le (by omega) (by omega)
    · exact (Nd.Step.handle _ _ _).le (by omega) (by omega)
theorem Nd.Inv.rcv {s : Nd} (h : s.Inv) (now : UInt64) (src : UInt32) (f : Str) : (s.rcv now src f).Inv := by
  unfold Nd.rcv
  split
  · exact h.rcvQ _ _ _
  · rename_i p hp
    split
    · exact h.rcvQ _ _ _
    · exact h.handle _ _ (Pk.dec_read hp).hops
attribute [local irreducible] WS LS OpQ OpT OpH OpTQ Spec SpecQ cel
variable (w0 : World)
set_option maxRecDepth 100000 in
theorem nrcv_spec (gn : Nat) (s : Nd) (now : UInt64) (from_ : UInt32) (f : Str) {c : Nat} (hr : s.Rest c) (hf : f.length ≤ 100000) (v : Value) (X : HProp) [hX : Rdr w0 X v UInt8 1 byteC f] :
    Spec Tryz.prog w0 34 [ptr gn 0, u64 now, u32 from_, v] (nodI gn s * X) (fun x : Value × Value × Value => outA (s.rcvF now from_ f).out x) (fun x => nodI gn (s.rcvF now from_ f) * (outR (s.rcvF now from_ f).out x * X)) := by
  have ok := hr.inv.tab.tab
  have hb := hr.inv.begin now
  have hs := Nd.Step.rcv hb now from_ f
  have h1 := Nd.begin_recs s now ok
  have h2 := Nd.begin_jour s now ok
  have h3 := hs.recs
  have h4 := hs.journal
  have h5 := hr.recs
  have p1 := fun bf br bn bw => does_spec w0 gn s ((s.begin now).rcv now from_ f) now (by omega) ok (by omega) (by omega) (hb.rcv now from_ f).tab.tab 65 [ptr bf 0, ptr br 0, ptr bn 0, ptr bw 0] _ _ (rcvC_spec w0 gn (s.begin now) now from_ f hb hf ((Nd.begin_fit hr now).le (by omega)) (by rw [Nd.begin_frames]; simp) (by rw [Nd.begin_dropped]; simp) bf br bn bw 25 26 90 24 v X)
  unfold Nd.rcvF
  generalize ((s.begin now).rcv now from_ f).done = s2 at p1 ⊢
  simp only [outA, outR] at p1 ⊢
  refine Spec.enter Tryz.func34 rfl Tryz.ntmps34 rfl fun G => ?_
  simp only [argE]
  repeat' (first | (refine WS_seqK ?_; intro K hK) | (refine hK _ ?_; clear hK K) | refine stZ ?_ | refine sqZ ?_ | (refine shZ ?_; intro g) | (refine s0Z ?_; intro g) | (refine LS_h (H_callX iI rfl (p1 _ _ _ _) iI) rfl ?_; intro x))
  exact ret_1 (.inl rfl) rfl (RV_cell rfl iI iI rfl) ⟨x.1, rfl, finE⟩
end

section
open Go.RowKit
section
variable {P : Program} {n : Frm} {w0 : World} {E : Env} {D : List Deferred} {H F : HProp} {Q : Exit → St → Prop} {d : Option Tmp} {ty : TypeId} {pos : String} {after : Array Edge} {gu : Option (Nat × Bool)} {x y : Operand}
instance eqlSliceNil {t e : TypeId} {A : Option Addr} {m c : Nat} [h : Und P t (.slice e)] : BinV P .eql t (.slice A m c) (.slice none 0 0) (.bool A.isNone) := ⟨fun w => by
  simp only [binOp]
  simp [run_equal_slice_nil w t e A m c h.eq], fun w _ _ => by rfl⟩
theorem Q_indexArr {t et : TypeId} {len size g off : Nat} {q : IntKind} {i : Int} {k : Nat} (hx : E.ev x = some (ptr g off)) (hy : E.ev y = some (.int q i)) (hi : AsNat i k) (ht : Und P t (.array len et)) (hs : Siz P et size) (hk : k < len) : OpQ P n w0 ⟨d, .indexAddr t x y, ty, pos, after, gu⟩ E H (ptr g (off + k * size)) := fun a w s hs' => by
  obtain rfl := hi.eq
  obtain ⟨i0, hi0, hi1⟩ := Option.map_eq_some_iff.1 hs.eq
  have hel : P.elem t = et := by simp [Program.elem, ht.eq]
  have hal : P.arrayLen t = len := by simp [Program.arrayLen, ht.eq]
  have ht' : P.underlying t = some (.array (P.arrayLen t) (P.elem t)) := by rw [ht.eq, hel, hal]
  have hz : (sizeOf et).run P w = .ok size w := by simp [sizeOf, typeInfo, hi0, hi1]
  have hr := run_indexAt_array (P := P) (w := w) t ⟨g, off, none⟩ q (k : Int) ht'
  rw [if_pos (by rw [hal]; omega), hel, hz] at hr
  have hr' : (Instr.indexAt t (ptr g off) (.int q (k : Int))).run P w = .ok (ptr g (off + k * size)) w := by
    rw [show ptr g off = .pointer (some ⟨g, off, none⟩) from rfl, hr]
    simp [add_lit]
  simp only [execOp, s.ev hx, s.ev hy, Sem.run_bind, hr', Result.andThen_ok, Sem.run_pure]
end
theorem hear_get (m : Ms) (h : MH) {i j : Nat} (hi : i < 6) (hj : j < 6) : getL (mshC m h) (0 + 2 + i * 6 + j * 1) = some (.bool (m.hear i j)) := by
  have a : i = 0 ∨ i = 1 ∨ i = 2 ∨ i = 3 ∨ i = 4 ∨ i = 5 := by omega
  have b : j = 0 ∨ j = 1 ∨ j = 2 ∨ j = 3 ∨ j = 4 ∨ j = 5 := by omega
  rcases a with rfl | rfl | rfl | rfl | rfl | rfl <;> rcases b with rfl | rfl | rfl | rfl | rfl | rfl <;> rfl
attribute [local irreducible] WS LS OpQ OpT OpH OpTQ Spec SpecQ cel
variable (w0 : World)
set_option maxRecDepth 100000 in
theorem fly_spec (g : Nat) (m : Ms) (h : MH) (f : Fl) (hl : m.air.length ≤ 48) : Spec Tryz.prog w0 86 [ptr g 0, .agg (flC f).toArray] (cel g 108 (mshC m h) * rows 114 3 flC h.va m.air) (fun _ : Value => .tuple #[]) (fun va => cel g 108 (mshC (m.fly f) { h with va := va }) * rows 114 3 flC va (m.fly f).air) := by
  refine Spec.enter Tryz.func86 rfl Tryz.ntmps86 rfl fun G => ?_
  have hl2 : (m.air ++ [f]).length = m.air.length + 1 := by simp
  have p1 := fun v => delete_spec w0 v (m.air ++ [f]) 0 (by omega) (by omega)
  have hair : (m.fly f).air = if 48 < (m.air ++ [f]).length then (m.air ++ [f]).eraseIdx 0 else m.air ++ [f] := rfl
  simp only [mshC, flC, argE, Ms.fly]
  by_cases hm : 48 < (m.air ++ [f]).length
  · rw [if_pos hm] at hair ⊢
    have hm' : (48 : Int) < ((m.air ++ [f]).length : Int) := by omega
    repeat' (first | (show WS _ _ _ (.region 1 _ true) _ _; first | refine WS_drawK (.range 11) 7 [4, 5] (by decide +kernel) rfl ?_ | refine WS_drawN 0 3 (.range 11) 10 [4] (by decide +kernel) rfl rfl rfl iI iI ?_) | (refine WS_seqK ?_; intro K hK) | (refine hK _ ?_; clear hK K) | refine stZ ?_ | (refine s2Z ?_ ?_ <;> intro hc <;> (try simp only [cS] at hc) <;> (try (exfalso; first | contradiction | omega))) | refine sbZ ?_ | refine sqZ ?_ | (refine shZ ?_; intro g) | (refine s0Z ?_; intro g) | (refine DL_h (H_buildSliceR flC [f] iI iI iI rfl rfl rfl rfl rfl iI rfl rfl rfl) rfl rfl rfl ?_; intro vx) | (refine DL_h (H_appendR rfl rfl iI iI rfl iI iI flC_one (by first | omega | (simp [be_length] <;> omega)) rfl) rfl rfl rfl ?_; intro va) | (refine LS_h (H_callX iI rfl (p1 _) iI) rfl ?_; intro v5))
    exact ret_none (.inr rfl) rfl ⟨v5, rfl, finE⟩
  · rw [if_neg hm] at hair ⊢
    have hm' : ¬ (48 : Int) < ((m.air ++ [f]).length : Int) := by omega
    repeat' (first | (show WS _ _ _ (.region 1 _ true) _ _; first | refine WS_drawK (.range 11) 7 [4, 5] (by decide +kernel) rfl ?_ | refine WS_drawN 0 3 (.range 11) 10 [4] (by decide +kernel) rfl rfl rfl iI iI ?_) | (refine WS_seqK ?_; intro K hK) | (refine hK _ ?_; clear hK K) | refine stZ ?_ | (refine s2Z ?_ ?_ <;> intro hc <;> (try simp only [cS] at hc) <;> (try (exfalso; first | contradiction | omega))) | refine sbZ ?_ | refine sqZ ?_ | (refine shZ ?_; intro g) | (refine s0Z ?_; intro g) | (refine DL_h (H_buildSliceR flC [f] iI iI iI rfl rfl rfl rfl rfl iI rfl rfl rfl) rfl rfl rfl ?_; intro vx) | (refine DL_h (H_appendR rfl rfl iI iI rfl iI iI flC_one (by first | omega | (simp [be_length] <;> omega)) rfl) rfl rfl rfl ?_; intro va))
    exact ret_none (.inr rfl) rfl ⟨va, rfl, finE⟩
def evBare (i e : Int) : ES := (⟨i, e, OutD.zero⟩, (none, 0, 0), (none, 0, 0), (none, 0, 0))
set_option maxRecDepth 100000 in
theorem refuse_spec (g : Nat) (m : Ms) (h : MH) (el : List ES) (i e : Int) (hl : el.length ≤ 900000) : Spec Tryz.prog w0 88 [ptr g 0, .int .i64 i, .int .i64 e] (cel g 108 (mshC m h) * rows 68 7 evC h.ve el) (fun _ : Value => .tuple #[]) (fun ve => cel g 108 (mshC m { h with ve := ve }) * rows 68 7 evC ve (el ++ [evBare i e])) := by
  refine Spec.enter Tryz.func88 rfl Tryz.ntmps88 rfl fun G => ?_
  simp only [mshC, argE]
  repeat' (first | refine stZ ?_ | refine sqZ ?_ | (refine s0Z ?_; intro g) | (refine LS_h (H_buildSliceR evC [evBare i e] iI iI iI rfl rfl rfl rfl rfl iI rfl rfl rfl) rfl ?_; intro vx) | (refine LS_h (H_appendR rfl rfl iI iI rfl iI iI evC_one (by first | omega | (simp [be_length] <;> omega)) rfl) rfl ?_; intro va))
  exact ret_none (.inr rfl) rfl ⟨va, rfl, finE⟩
set_option maxRecDepth 100000 in
theorem ststop_spec (b gn : Nat) (vj : Value) (s : Sta) : Spec Tryz.prog w0 90 [ptr b 0] (staB b gn vj s) (fun _ : Unit => .tuple #[]) (fun _ => staB b gn vj s.stop) := by
  refine Spec.enter Tryz.func90 rfl Tryz.ntmps90 rfl fun G => ?_
  simp only [staB, staC, Sta.stop, ptrN, staN, argE]
  repeat' (first | refine stZ ?_ | refine sqZ ?_ | (refine s0Z ?_; intro g))
  exact ret_none (.inr rfl) rfl ⟨(), rfl, finE⟩
set_option maxRecDepth 100000 in
theorem torn_spec (b gn : Nat) (vj : Value) (s : Sta) (o : OutD) (v : Value × Value × Value) (hj : s.journal.length + o.journal.length ≤ 900000) (ht : 0 ≤ s.tear ∧ s.tear ≤ 9223372036854775807) : Spec Tryz.prog w0 141 [ptr b 0, outA o v] (staB b gn vj s) (fun _ : Value => .bool (s.tears o)) (fun vj' => staB b gn vj' (if s.tears o then s.torn o else s)) := by
  refine Spec.enter Tryz.func141 rfl Tryz.ntmps141 rfl fun G => ?_
  have p1 := fun vj' s' => ststop_spec w0 b gn vj' s'
  obtain ⟨addr, node, journal, tear, armed⟩ := s
  obtain ⟨J, R, fr, cm, dr⟩ := o
  simp only at hj ht
  simp only [outA, argE]
  cases armed with
  | false =>
    simp only [staB, staC, Sta.tears, Bool.false_and, Bool.false_eq_true, if_false]
    repeat' (first | (refine WS_seqK ?_; intro K hK) | (refine hK _ ?_; clear hK K) | refine stZ ?_ | (refine s2Z ?_ ?_ <;> intro hc <;> (try simp only [cS] at hc) <;> (try (exfalso; first | contradiction | omega))) | refine sqZ ?_ | (refine shZ ?_; intro g))
    exact ret_tmp (.inl rfl) rfl rfl ⟨vj, rfl, finE⟩
  | true =>
    cases J with
    | nil =>
      simp only [staB, staC, Sta.tears, List.isEmpty_nil, Bool.not_true, Bool.and_false, Bool.false_eq_true, if_false]
      repeat' (first | (refine WS_seqK ?_; intro K hK) | (refine hK _ ?_; clear hK K) | refine stZ ?_ | (refine s2Z ?_ ?_ <;> intro hc <;> (try simp only [cS] at hc) <;> (try (exfalso; first | contradiction | omega))) | refine sbZ ?_ | refine sqZ ?_ | (refine shZ ?_; intro g))
      exact ret_tmp (.inl rfl) rfl rfl ⟨vj, rfl, finE⟩
    | cons j0 J' =>
      obtain ⟨J, hJ⟩ : ∃ J, J = j0 :: J' := ⟨_, rfl⟩
      have hne : ¬ J = [] := by rw [hJ]; simp
      have ht : Sta.tears ⟨addr, node, journal, tear, true⟩ ⟨j0 :: J', R, fr, cm, dr⟩ = true := rfl
      rw [ht]
      simp only [if_true]
      rw [← hJ] at hj ⊢
      have hJl : 0 < J.length := by rw [hJ]; simp
      obtain ⟨kk, hkk⟩ : ∃ kk, kk = (min tear (J.length : Int)).toNat := ⟨_, rfl⟩
      haveI : AsNat (min tear (J.length : Int)) kk := ⟨by omega⟩
      have hkl : kk ≤ J.length := by omega
      cases R with
      | true =>
        have p2 := p1 vj ⟨addr, node, journal, tear, true⟩
        simp only [staB, staC, Sta.torn, Sta.stop, if_true] at p2 ⊢
        repeat' (first | (refine WS_seqK ?_; intro K hK) | (refine hK _ ?_; clear hK K) | refine stZ ?_ | (refine s2Z ?_ ?_ <;> intro hc <;> (try simp only [cS] at hc) <;> (try (exfalso; first | contradiction | omega))) | refine sbZ ?_ | refine sqZ ?_ | (refine shZ ?_; intro g) | (refine LS_h (H_callX iI rfl p2 iI) rfl ?_; intro u2))
        exact ret_tmp (.inl rfl) rfl rfl ⟨vj, rfl, finE⟩
      | false =>
        have p2 := fun vj' => p1 vj' ⟨addr, node, journal ++ J.take kk, tear, true⟩
        simp only [staB, staC, Sta.torn, Sta.stop, Sta.part, Bool.false_eq_true, if_false, ← hkk] at p2 ⊢
        repeat' (first | (show WS _ _ _ (.region 4 _ true) _ _; first | refine WS_drawK (.range 20) 16 [4, 6, 10, 12, 13, 14, 15] (by decide +kernel) rfl ?_ | refine WS_drawN 0 3 (.range 20) 19 [4, 10] (by decide +kernel) rfl rfl rfl iI iI ?_) | (refine WS_seqK ?_; intro K hK) | (refine hK _ ?_; clear hK K) | refine stZ ?_ | (refine s2Z ?_ ?_ <;> intro hc <;> (try simp only [cS] at hc) <;> (try (exfalso; first | contradiction | omega))) | refine sbZ ?_ | refine sqZ ?_ | ((first | refine' LQ ?zh rfl ?_ | refine' DL_qp rfl rfl rfl ?zh ?_ | refine' DL_q rfl rfl ?zh ?_); case zh => intro F'; exact Q_sliceS_h rfl rfl iI iI (by first | assumption | omega)) | (refine shZ ?_; intro g) | (refine s0Z ?_; intro g) | (refine LS_h (H_callX iI rfl (p2 va) iI) rfl ?_; intro u2) | (refine DL_h (H_appendS rfl rfl iI rfl iI iI (by first | omega | (simp [be_length] <;> omega)) rfl) rfl rfl rfl ?_; intro va))
        exact ret_tmp (.inl rfl) rfl rfl ⟨va, rfl, finE⟩
set_option maxRecDepth 100000 in
theorem station_spec (g : Nat) (m : Ms) (h : MH) (i b : Nat) (hb : h.bs[i]? = some b) (hl : h.bs.length ≤ 6) : Spec Tryz.prog w0 43 [ptr g 0, .int .i64 (i : Int)] (cel g 108 (mshC m h) * rows 115 1 ptrC h.vs h.bs) (fun _ : Unit => ptr b 0) (fun _ => cel g 108 (mshC m h) * rows 115 1 ptrC h.vs h.bs) := by
  refine Spec.enter Tryz.func43 rfl Tryz.ntmps43 rfl fun G => ?_
  have hlt := (List.getElem?_eq_some_iff.1 hb).1
  have h1 : ¬ (i : Int) < 0 := by omega
  have h2 : ¬ (h.bs.length : Int) ≤ (i : Int) := by omega
  obtain ⟨vs, bs, r, va, ve⟩ := h
  simp only at hb hl hlt h2
  simp only [mshC, argE]
  repeat' (first | (refine WS_seqK ?_; intro K hK) | (refine hK _ ?_; clear hK K) | refine stZ ?_ | (refine s2Z ?_ ?_ <;> intro hc <;> (try simp only [cS] at hc) <;> (try (exfalso; first | contradiction | omega))) | refine sbZ ?_ | refine sqZ ?_)
  exact ret_tmp (.inl rfl) rfl rfl ⟨(), rfl, finE⟩
set_option maxRecDepth 100000 in
theorem stationNo_spec (g : Nat) (m : Ms) (h : MH) (i : Int) (hi : i < 0 ∨ (h.bs.length : Int) ≤ i) (hl : h.bs.length ≤ 6) : Spec Tryz.prog w0 43 [ptr g 0, .int .i64 i] (cel g 108 (mshC m h) * rows 115 1 ptrC h.vs h.bs) (fun _ : Unit => .pointer none) (fun _ => cel g 108 (mshC m h) * rows 115 1 ptrC h.vs h.bs) := by
  refine Spec.enter Tryz.func43 rfl Tryz.ntmps43 rfl fun G => ?_
  obtain ⟨vs, bs, r, va, ve⟩ := h
  simp only at hi hl
  simp only [mshC, argE]
  by_cases h1 : i < 0
  · repeat' (first | (refine WS_seqK ?_; intro K hK) | (refine hK _ ?_; clear hK K) | refine stZ ?_ | (refine s2Z ?_ ?_ <;> intro hc <;> (try simp only [cS] at hc) <;> (try (exfalso; first | contradiction | omega))) | refine sbZ ?_ | refine sqZ ?_)
    exact ret_tmp (.inl rfl) rfl rfl ⟨(), rfl, finE⟩
  · have h2 : (bs.length : Int) ≤ i := by omega
    repeat' (first | (refine WS_seqK ?_; intro K hK) | (refine hK _ ?_; clear hK K) | refine stZ ?_ | (refine s2Z ?_ ?_ <;> intro hc <;> (try simp only [cS] at hc) <;> (try (exfalso; first | contradiction | omega))) | refine sbZ ?_ | refine sqZ ?_)
    exact ret_tmp (.inl rfl) rfl rfl ⟨(), rfl, finE⟩
end

section
def Nd.Puts (s t : Nd) : Prop := ∃ l : List (UInt32 × Pk), t.out.frames = s.out.frames ++ l.map fun x => (x.1, x.2.out)
theorem Nd.Puts.of {s t : Nd} (h : t.out.frames = s.out.frames) : s.Puts t := ⟨[], by simp [h]⟩
theorem Nd.Puts.trans {s t u : Nd} (h : s.Puts t) (k : t.Puts u) : s.Puts u := by
  obtain ⟨l, hl⟩ := h
  obtain ⟨m, hm⟩ := k
  exact ⟨l ++ m, by rw [hm, hl, List.map_append, List.append_assoc]⟩
theorem Nd.Puts.send (s : Nd) (to : UInt32) (p : Pk) : s.Puts (s.send to p) := ⟨[(to, p)], rfl⟩
theorem Nd.Puts.same {s t : Nd} (h : s.Same t) : s.Puts t := Nd.Puts.of h.frames
theorem Nd.Puts.hand (s : Nd) (d : UInt32) (t : Str) : s.Puts (s.hand d t) := by
  unfold Nd.hand
  split
  · exact Nd.Puts.of rfl
  · exact ⟨[(_, _)], rfl⟩
theorem Nd.Puts.handAll (s : Nd) (d : UInt32) (l : List Str) : s.Puts (s.handAll d l) := by
  induction l using snocInd with
  | nil => exact Nd.Puts.of rfl
  | snoc l t ih => rw [Nd.handAll_snoc]; exact ih.trans (Nd.Puts.hand _ _ _)
theorem Nd.Puts.flush (s : Nd) (d : UInt32) : s.Puts (s.flush d) := by
  have h := Nd.Puts.handAll s d (s.texts d)
  unfold Nd.flush
  simp only
  split
  · exact h.trans (Nd.Puts.of rfl)
  · exact h.trans (Nd.Puts.of rfl)
theorem Nd.Puts.remember (s : Nd) (r : Rq) : s.Puts (s.remember r) := Nd.Puts.of (by rw [(s.remember_eqs r).2.2.2.1])
theorem Nd.Puts.ask1 (s : Nd) (x : Sr) : s.Puts (s.ask1 x) := by
  have h0 : s.Puts { s with seq := growS s.seq } := Nd.Puts.of rfl
  have h1 := h0.trans (Nd.Puts.same (Nd.Same.note { s with seq := growS s.seq }))
  unfold Nd.ask1
  simp only
  generalize Nd.note { s with seq := growS s.seq } = t at *
  refine (h1.trans ?_).trans (Nd.Puts.remember _ _)
  exact ⟨[(_, _)], rfl⟩
theorem Nd.Puts.ask (s : Nd) (k : Nat) (x : Sr) : s.Puts (s.ask k x) := by
  unfold Nd.ask
  split
  · exact Nd.Puts.of rfl
  · split
    · exact Nd.Puts.of rfl
    · have h0 : s.Puts (s.setOut k true) := Nd.Puts.of rfl
      exact (h0.trans (Nd.Puts.ask1 _ x)).trans (Nd.Puts.of rfl)
theorem Nd.Puts.again (s : Nd) (k : Nat) (x : Sr) : s.Puts (s.again k x) := by
  unfold Nd.again
  split
  · exact Nd.Puts.flush _ _
  · split
    · split
      · rename_i y _
        have h0 : s.Puts { s with srs := s.srs.set k y } := Nd.Puts.of rfl
        exact h0.trans (Nd.Puts.ask _ k y)
      · exact Nd.Puts.of rfl
    · exact Nd.Puts.ask _ _ _
theorem Nd.Puts.step {s t : Nd} {now : UInt64} (h : s.step now = some t) : s.Puts t := by
  unfold Nd.step at h
  split at h
  · cases h
  · rename_i i _
    simp only at h
    have h0 : s.Puts { s with clk := s.clk.eraseIdx i } := Nd.Puts.of rfl
    split at h
    · split at h
      · cases h; exact h0.trans (Nd.Puts.again _ _ _)
      · cases h; exact h0
    · cases h; exact h0
theorem Nd.Puts.ticks (now : UInt64) : ∀ (f : Nat) (s : Nd), s.Puts (s.ticks f now)
  | 0, s => Nd.Puts.of rfl
  | f + 1, s => by
    unfold Nd.ticks
    cases h : s.step now with
    | none => exact Nd.Puts.of rfl
    | some t => exact (Nd.Puts.step h).trans (Nd.Puts.ticks now f t)
theorem Nd.Puts.answer (s : Nd) (p : Pk) : s.Puts (s.answer p) := by
  unfold Nd.answer
  split
  · exact Nd.Puts.send _ _ _
  · exact Nd.Puts.of rfl
theorem Nd.Puts.req3 (s : Nd) (p : Pk) : s.Puts (s.req3 p) := by
  unfold Nd.req3
  split
  · exact Nd.Puts.of rfl
  · split <;> exact Nd.Puts.send _ _ _
theorem Nd.Puts.req2 (s : Nd) (p : Pk) : s.Puts (s.req2 p) := by
  unfold Nd.req2
  split
  · have h0 : s.Puts { s with seq := if p.unknown then s.seq else max s.seq p.destSeq } := Nd.Puts.of rfl
    exact h0.trans (Nd.Puts.answer _ _)
  · split
    · split
      · rename_i x _ _
        have h0 : s.Puts { s with ls := befT (match lookT s.ls p.from_ s.now with | some b => befT s.ls p.dest b.next | none => s.ls) p.from_ x.next } := Nd.Puts.of rfl
        exact h0.trans (Nd.Puts.answer _ _)
      · exact Nd.Puts.req3 _ _
    · exact Nd.Puts.req3 _ _
theorem Nd.Puts.req (s : Nd) (src : UInt32) (p : Pk) : s.Puts (s.req src p) := by
  unfold Nd.req
  split
  · exact Nd.Puts.of rfl
  · simp only
    have h1 := Nd.Puts.remember s ⟨p.from_, p.id⟩
    generalize s.remember ⟨p.from_, p.id⟩ = s1 at *
    split
    · exact h1.trans (Nd.Puts.of rfl)
    · refine h1.trans (Nd.Puts.trans ?_ (Nd.Puts.req2 _ _))
      exact Nd.Puts.of rfl
theorem Nd.Puts.lost (s : Nd) (l : List (UInt32 × UInt32)) : s.Puts (s.lost l) := by
  unfold Nd.lost
  split
  · exact Nd.Puts.send _ _ _
  · exact Nd.Puts.of rfl
theorem Nd.Puts.los (s : Nd) (src : UInt32) (p : Pk) : s.Puts (s.los src p) := by
  have h0 : s.Puts { s with ls := (loseAll src s.ls p.lost).1 } := Nd.Puts.of rfl
  have h := h0.trans (Nd.Puts.lost _ (loseAll src s.ls p.lost).2.1)
  unfold Nd.los
  simp only
  split
  · exact h
  · exact h.trans (Nd.Puts.of rfl)
theorem Nd.Puts.dat (s : Nd) (src : UInt32) (p : Pk) : s.Puts (s.dat src p) := by
  unfold Nd.dat
  repeat' split
  all_goals first | exact Nd.Puts.of rfl | exact ⟨[(_, _)], rfl⟩
theorem Nd.Puts.brk (s : Nd) (nb : UInt32) : s.Puts (s.brk nb) := by
  have h0 : s.Puts { s with ls := brkT nb s.ls } := Nd.Puts.of rfl
  exact h0.trans (Nd.Puts.lost _ _)
theorem Nd.Puts.rep (s : Nd) (src : UInt32) (p : Pk) : s.Puts (s.rep src p) := by
  unfold Nd.rep
  split
  · exact Nd.Puts.of rfl
  · simp only
    split
    · exact Nd.Puts.of rfl
    · split
      · have h2 : ∀ l : List Ln, s.Puts (if (lookT l p.dest s.now).isSome then Nd.flush { s with ls := l } p.dest else { s with ls := l }) := fun l => by
          have h0 : s.Puts { s with ls := l } := Nd.Puts.of rfl
          split
          · exact h0.trans (Nd.Puts.flush _ _)
          · exact h0
        split
        · exact (h2 _).trans (Nd.Puts.of rfl)
        · exact h2 _
      · split
        · split <;> exact Nd.Puts.of rfl
        · split
          · exact Nd.Puts.of rfl
          · exact ⟨[(_, _)], rfl⟩
theorem Nd.Puts.handle (s : Nd) (src : UInt32) (p : Pk) : s.Puts (s.handle src p) := by
  unfold Nd.handle
  repeat' split
  · exact Nd.Puts.req _ _ _
  · exact Nd.Puts.rep _ _ _
  · exact Nd.Puts.los _ _ _
  · exact Nd.Puts.dat _ _ _
theorem Nd.Puts.rcvQ (s : Nd) (now : UInt64) (src : UInt32) (f : Str) : s.Puts (s.rcvQ now src f) := by
  unfold Nd.rcvQ
  repeat' split
  all_goals first | exact Nd.Puts.of rfl | exact ⟨[(_, _)], rfl⟩
theorem Nd.Puts.rcv (s : Nd) (now : UInt64) (src : UInt32) (f : Str) : s.Puts (s.rcv now src f) := by
  unfold Nd.rcv
  split
  · exact Nd.Puts.rcvQ _ _ _ _
  · split
    · exact Nd.Puts.rcvQ _ _ _ _
    · exact Nd.Puts.handle _ _ _
theorem Nd.Puts.sendT (s : Nd) (d : UInt32) (t : Str) : s.Puts (s.sendT d t) := by
  rw [Nd.sendT_eq]
  split
  · exact Nd.Puts.hand _ _ _
  · have h1 : s.Puts ((s.roomFor d).put d t) := Nd.Puts.of (s.roomFor_eqs d).2.2.2.2.2.2.2.2.2.2.2.1
    split
    · exact h1
    · have h2 : ((s.roomFor d).put d t).Puts (((s.roomFor d).put d t).newSr d) := Nd.Puts.of rfl
      exact (h1.trans h2).trans (Nd.Puts.ask _ _ _)
def OutD.Pks (o : OutD) : Prop := ∃ l : List (UInt32 × Pk), o.frames = l.map fun x => (x.1, x.2.out)
theorem OutD.Pks.le {o : OutD} (h : o.Pks) : ∀ f ∈ o.frames, f.2.length ≤ 100000 := by
  obtain ⟨l, hl⟩ := h
  intro f hf
  rw [hl] at hf
  obtain ⟨x, _, rfl⟩ := List.mem_map.1 hf
  exact Pk.out_le' x.2
theorem Nd.Puts.pks {s t : Nd} {now : UInt64} (h : (s.begin now).Puts t) : t.done.out.Pks := by
  obtain ⟨l, hl⟩ := h
  obtain ⟨_, _, _, _, _, _, _, e8, _⟩ := t.done_same
  exact ⟨l, by rw [e8, hl, Nd.begin_frames]; rfl⟩
theorem Nd.tickF_pks (s : Nd) (now : UInt64) : (s.tickF now).out.Pks := Nd.Puts.pks (Nd.Puts.ticks now _ _)
theorem Nd.rcvF_pks (s : Nd) (now : UInt64) (src : UInt32) (f : Str) : (s.rcvF now src f).out.Pks := Nd.Puts.pks (Nd.Puts.rcv _ _ _ _)
theorem Nd.brkF_pks (s : Nd) (now : UInt64) (nb : UInt32) : (s.brkF now nb).out.Pks := Nd.Puts.pks (Nd.Puts.brk _ _)
theorem Nd.sendF_pks (s : Nd) (now : UInt64) (d : UInt32) (t : Str) : (s.sendF now d t).out.Pks := Nd.Puts.pks (Nd.Puts.sendT _ _ _)
theorem Nd.brkF_all (s : Nd) (now : UInt64) (nb : UInt32) : ∀ f ∈ (s.brkF now nb).out.frames, f.1 = 0 := by
  obtain ⟨_, _, _, _, _, _, _, e8, _⟩ := ((s.begin now).brk nb).done_same
  unfold Nd.brkF
  rw [e8]
  unfold Nd.brk Nd.lost
  split
  · intro f hf
    rw [show (Nd.send { s.begin now with ls := brkT nb (s.begin now).ls } 0 (Pk.lose (outB nb (sortU (dests (s.begin now).ls)) (s.begin now).ls))).out.frames = (s.begin now).out.frames ++ [(0, (Pk.lose (outB nb (sortU (dests (s.begin now).ls)) (s.begin now).ls)).out)] from rfl, Nd.begin_frames] at hf
    simp at hf
    rw [hf]
  · intro f hf
    rw [show ({ s.begin now with ls := brkT nb (s.begin now).ls } : Nd).out.frames = (s.begin now).out.frames from rfl, Nd.begin_frames] at hf
    cases hf
def Joins (J : Str) (n : Nd) (o : OutD) : Prop := (if o.replace then [] else J) ++ o.journal = recsB n.recs
theorem recsB_append (l m : List Rec) : recsB (l ++ m) = recsB l ++ recsB m := by simp [recsB]
theorem Nd.joins {s t : Nd} {now : UInt64} {a b : Nat} (h : (s.begin now).Step t a b) : Joins (recsB s.recs) t.done t.done.out := by
  have h0 := Nd.Step.note { s with now := now, out := OutD.zero, ls := expT now s.ls }
  have h1 := (h0.trans h).trans (Nd.Step.note t)
  have hr := h1.repl
  obtain ⟨W, _, w2, w3⟩ := h1.wr
  unfold Joins Nd.done
  split
  · simp
  · rw [hr, w2, w3]
    simp only [OutD.zero, Bool.false_eq_true, if_false, List.nil_append]
    rw [recsB_append]
theorem Nd.new_joins (self : UInt32) (b : Str) (now : UInt64) : Joins b (Nd.new self b now) (Nd.newO self b now) := by
  have h1 := (Nd.Step.write (Nd.booted self b now) ⟨true, 0, (Nd.booted self b now).seq⟩).trans (Nd.Step.note _)
  obtain ⟨W, _, w2, w3⟩ := h1.wr
  have hb : (Nd.booted self b now).recs = [] ∧ (Nd.booted self b now).out.journal = [] := by unfold Nd.booted; split <;> exact ⟨rfl, rfl⟩
  rw [hb.1] at w2
  rw [hb.2] at w3
  have e : (Nd.newO self b now).journal = (Nd.new self b now).out.journal := rfl
  unfold Joins
  rw [e]
  show (if (decide (0 < b.length)) = true then [] else b) ++ (Nd.new self b now).out.journal = recsB (Nd.new self b now).recs
  have e2 : (if (decide (0 < b.length)) = true then [] else b) = ([] : Str) := by
    cases b with
    | nil => rfl
    | cons x l => rfl
  rw [e2, List.nil_append]
  unfold Nd.new
  rw [w2, w3]
  rfl
end

section
theorem compR_ne {l : List Rec} (h : l ≠ []) : compR l ≠ [] := by
  obtain ⟨m, r, rfl⟩ : ∃ m r, l = m ++ [r] := ⟨l.dropLast, l.getLast h, (List.dropLast_concat_getLast h).symm⟩
  intro e
  have h1 := lookR_comp (m ++ [r]) r.norm.key
  rw [e, seqOf_snoc, if_pos rfl] at h1
  cases h1
theorem Nd.done_ne {s t : Nd} {now : UInt64} {a b : Nat} (h : (s.begin now).Step t a b) (hn : s.recs ≠ []) : t.done.recs ≠ [] := by
  have h0 := Nd.Step.note { s with now := now, out := OutD.zero, ls := expT now s.ls }
  obtain ⟨W, _, w2, _⟩ := ((h0.trans h).trans (Nd.Step.note t)).wr
  have h1 : t.note.recs ≠ [] := by
    rw [w2]
    intro e
    exact hn (List.append_eq_nil_iff.1 e).1
  unfold Nd.done
  split
  · exact compR_ne h1
  · exact h1
theorem Nd.done_self {s t : Nd} {now : UInt64} {a b : Nat} (h : (s.begin now).Step t a b) : t.done.self = s.self := by
  rw [t.done_same.1, h.self, Nd.begin_self]
structure Nd.Went (s t : Nd) (c : Nat) : Prop where
  rest : t.Rest c
  self : t.self = s.self
  joins : Joins (recsB s.recs) t t.out
  ne : s.recs ≠ [] → t.recs ≠ []
  pks : t.out.Pks
theorem Nd.Rest.wentTick {s : Nd} {c : Nat} (h : s.Rest c) (hc : c ≤ 8500) {now : UInt64} (hn : now.toNat ≤ 4611686018427387904) : s.Went (s.tickF now) (c + 1) := by
  obtain ⟨i, _, hT⟩ := Nd.tick_run (h.ready hc hn)
  exact ⟨h.tick hc hn, Nd.done_self hT.step, Nd.joins hT.step, Nd.done_ne hT.step, Nd.tickF_pks _ _⟩
theorem Nd.Rest.wentRcv {s : Nd} {c : Nat} (h : s.Rest c) (now : UInt64) (src : UInt32) (f : Str) : s.Went (s.rcvF now src f) c := by
  have hs := Nd.Step.rcv (h.inv.begin now) now src f
  exact ⟨h.rcv _ _ _, Nd.done_self hs, Nd.joins hs, Nd.done_ne hs, Nd.rcvF_pks _ _ _ _⟩
theorem Nd.Rest.wentBrk {s : Nd} {c : Nat} (h : s.Rest c) (now : UInt64) (nb : UInt32) : s.Went (s.brkF now nb) c := by
  have hs := Nd.Step.brk (s.begin now) nb
  exact ⟨h.brk _ _, Nd.done_self hs, Nd.joins hs, Nd.done_ne hs, Nd.brkF_pks _ _ _⟩
theorem Nd.Rest.wentSend {s : Nd} {c : Nat} (h : s.Rest c) {now : UInt64} (hn : now.toNat ≤ 4611686018427387904) (d : UInt32) (t : Str) (ht : t.length ≤ 16) : s.Went (s.sendF now d t) (c + 1) := by
  have hs := Nd.Step.sendT (s.begin now) d t
  exact ⟨h.send hn d t ht, Nd.done_self hs, Nd.joins hs, Nd.done_ne hs, Nd.sendF_pks _ _ _ _⟩
theorem Nd.new_self (self : UInt32) (b : Str) (now : UInt64) : (Nd.new self b now).self = self := by
  rw [(Nd.new_same self b now).self]
  unfold Nd.booted
  split <;> rfl
theorem Nd.new_ne (self : UInt32) (b : Str) (now : UInt64) : (Nd.new self b now).recs ≠ [] := by
  obtain ⟨W, _, w2, _⟩ := (Nd.Step.note ((Nd.booted self b now).write ⟨true, 0, (Nd.booted self b now).seq⟩)).wr
  show (Nd.note _).recs ≠ []
  rw [w2]
  intro e
  have := (List.append_eq_nil_iff.1 e).1
  simp [Nd.write] at this
theorem Nd.new_frames (self : UInt32) (b : Str) (now : UInt64) : (Nd.newO self b now).frames = [] ∧ (Nd.newO self b now).came = [] ∧ (Nd.newO self b now).dropped = [] := by
  have m := Nd.new_same self b now
  have hb : (Nd.booted self b now).out = OutD.zero := by unfold Nd.booted; split <;> rfl
  refine ⟨?_, ?_, ?_⟩
  · exact m.frames.trans (by rw [hb]; rfl)
  · exact m.came.trans (by rw [hb]; rfl)
  · exact m.dropped.trans (by rw [hb]; rfl)
structure Sta.Sound (s : Sta) (c : Nat) : Prop where
  node : ∀ n, s.node = some n → n.Rest c ∧ n.self = s.addr ∧ s.journal = recsB n.recs ∧ n.recs ≠ []
  jour : s.journal.length ≤ 312
  tear : 0 ≤ s.tear ∧ s.tear ≤ 9223372036854775807
structure Sta.Says (s : Sta) (o : OutD) (c : Nat) : Prop where
  node : ∃ n, s.node = some n ∧ n.Rest c ∧ n.self = s.addr ∧ Joins s.journal n o ∧ n.recs ≠ []
  jour : s.journal.length ≤ 312
  tear : 0 ≤ s.tear ∧ s.tear ≤ 9223372036854775807
theorem recsB_24 {n : Nd} {c : Nat} (h : n.Rest c) : (recsB n.recs).length ≤ 312 := by
  rw [recsB_length]
  have := h.recs
  omega
theorem Sta.Says.wrote {s : Sta} {o : OutD} {c : Nat} (h : s.Says o c) : (s.write o).Sound c := by
  obtain ⟨n, h1, h2, h3, h4, h5⟩ := h.node
  have hj : (s.write o).journal = recsB n.recs := h4
  refine ⟨fun m hm => ?_, by rw [hj]; exact recsB_24 h2, h.tear⟩
  have hm' : s.node = some m := hm
  rw [h1] at hm'
  cases hm'
  exact ⟨h2, h3, hj, h5⟩
theorem Sta.Says.torn {s : Sta} {o : OutD} {c : Nat} (h : s.Says o c) : (s.torn o).Sound c := by
  obtain ⟨n, h1, h2, h3, h4, h5⟩ := h.node
  have h6 := recsB_24 h2
  unfold Joins at h4
  unfold Sta.torn Sta.stop
  refine ⟨fun m hm => (by cases hm), ?_, ?_⟩
  · split
    · exact h.jour
    · rename_i hr
      rw [if_neg hr] at h4
      rw [← h4, List.length_append] at h6
      show (s.journal ++ s.part o).length ≤ 312
      unfold Sta.part
      rw [List.length_append, List.length_take]
      omega
  · show 0 ≤ Sta.tear (if o.replace then s else { s with journal := s.journal ++ s.part o }) ∧ _
    split <;> exact h.tear
theorem Sta.Says.quiet {s : Sta} {o : OutD} {c : Nat} (h : s.Says o c) (ho : o.journal = []) : s.Sound c := by
  obtain ⟨n, h1, h2, h3, h4, h5⟩ := h.node
  unfold Joins at h4
  rw [ho, List.append_nil] at h4
  have hj : s.journal = recsB n.recs := by
    split at h4
    · exfalso
      have := congrArg List.length h4
      rw [recsB_length] at this
      have h0 : 0 < n.recs.length := List.length_pos_iff.2 h5
      simp at this
      omega
    · exact h4
  refine ⟨fun m hm => ?_, h.jour, h.tear⟩
  rw [h1] at hm
  cases hm
  exact ⟨h2, h3, hj, h5⟩
theorem Sta.Sound.mono {s : Sta} {c d : Nat} (h : s.Sound c) (hd : c ≤ d) : s.Sound d := ⟨fun n hn => ⟨(h.node n hn).1.mono hd, (h.node n hn).2⟩, h.jour, h.tear⟩
theorem Sta.Sound.says {s : Sta} {n t : Nd} {c d : Nat} (h : s.Sound c) (hn : s.node = some n) (hw : n.Went t d) : (s.run t).Says t.out d := by
  obtain ⟨h1, h2, h3, h4⟩ := h.node n hn
  refine ⟨⟨t, rfl, hw.rest, hw.self.trans h2, ?_, hw.ne h4⟩, h.jour, h.tear⟩
  show Joins s.journal t t.out
  rw [h3]
  exact hw.joins
structure Ms.AirOk (m : Ms) : Prop where
  few : m.air.length ≤ 48
  each : ∀ f ∈ m.air, f.src < m.sts.length ∧ f.dst < m.sts.length ∧ f.bytes.length ≤ 100000
theorem Ms.fly_mem {m : Ms} {f x : Fl} (h : x ∈ (m.fly f).air) : x ∈ m.air ∨ x = f := by
  have h' : x ∈ m.air ++ [f] := by
    unfold Ms.fly at h
    simp only at h
    split at h
    · exact (List.eraseIdx_sublist _ _).subset h
    · exact h
  rcases List.mem_append.1 h' with h' | h'
  · exact .inl h'
  · simp at h'; exact .inr h'
theorem Ms.AirOk.fly {m : Ms} (h : m.AirOk) {f : Fl} (h1 : f.src < m.sts.length) (h2 : f.dst < m.sts.length) (h3 : f.bytes.length ≤ 100000) : (m.fly f).AirOk := by
  refine ⟨?_, fun x hx => ?_⟩
  · have hf := h.few
    unfold Ms.fly
    simp only
    split
    · rw [List.length_eraseIdx]; simp; omega
    · rename_i hn; omega
  · show x.src < m.sts.length ∧ x.dst < m.sts.length ∧ _
    rcases Ms.fly_mem hx with hx | rfl
    · exact h.each x hx
    · exact ⟨h1, h2, h3⟩
structure Ms.Kept (m m' : Ms) (i : Nat) : Prop where
  now : m'.now = m.now
  hears : m'.hears = m.hears
  addrs : m'.sts.map (·.addr) = m.sts.map (·.addr)
  other : ∀ k, k ≠ i → m'.sts[k]? = m.sts[k]?
theorem Ms.Kept.rfl' (m : Ms) (i : Nat) : m.Kept m i := ⟨rfl, rfl, rfl, fun _ _ => rfl⟩
theorem Ms.Kept.trans {m m1 m2 : Ms} {i : Nat} (h : m.Kept m1 i) (k : m1.Kept m2 i) : m.Kept m2 i := ⟨k.now.trans h.now, k.hears.trans h.hears, k.addrs.trans h.addrs, fun j hj => (k.other j hj).trans (h.other j hj)⟩
theorem Ms.Kept.length {m m' : Ms} {i : Nat} (h : m.Kept m' i) : m'.sts.length = m.sts.length := by
  have := congrArg List.length h.addrs
  simpa using this
theorem Ms.Kept.mod {m : Ms} {i : Nat} {f : Sta → Sta} (hf : ∀ s, (f s).addr = s.addr) : m.Kept (m.mod i f) i := by
  refine ⟨rfl, rfl, ?_, fun k hk => ?_⟩
  · show (m.sts.modify i f).map (·.addr) = _
    apply List.ext_getElem?
    intro k
    rw [List.getElem?_map, List.getElem?_modify, List.getElem?_map]
    cases m.sts[k]? with
    | none => rfl
    | some s => simp only [Option.map_eq_map, Option.map_some]; split <;> simp [hf]
  · show (m.sts.modify i f)[k]? = _
    rw [List.getElem?_modify]
    cases m.sts[k]? with
    | none => rfl
    | some s => simp [Ne.symm hk]
theorem Ms.mod_at {m : Ms} {i : Nat} {f : Sta → Sta} {s : Sta} (h : m.sts[i]? = some s) : (m.mod i f).sts[i]? = some (f s) := by
  show (m.sts.modify i f)[i]? = _
  rw [List.getElem?_modify, h]
  simp
theorem Ms.Kept.event (m : Ms) (e : Ev) (i : Nat) : m.Kept (m.event e) i := ⟨rfl, rfl, rfl, fun _ _ => rfl⟩
theorem Ms.Kept.fly (m : Ms) (f : Fl) (i : Nat) : m.Kept (m.fly f) i := ⟨rfl, rfl, rfl, fun _ _ => rfl⟩
theorem Sta.torn_addr (s : Sta) (o : OutD) : (s.torn o).addr = s.addr := by
  unfold Sta.torn Sta.stop
  split <;> rfl
theorem Ms.castN_keep {m : Ms} {i : Nat} {b : Str} (hi : i < m.sts.length) (hb : b.length ≤ 100000) : ∀ k, k ≤ m.sts.length → (Ms.castN i b k m).sts = m.sts ∧ (Ms.castN i b k m).now = m.now ∧ (Ms.castN i b k m).hears = m.hears ∧ (Ms.castN i b k m).evs = m.evs ∧ (m.AirOk → (Ms.castN i b k m).AirOk)
  | 0, _ => ⟨rfl, rfl, rfl, rfl, fun h => h⟩
  | k + 1, hk => by
    obtain ⟨h1, h2, h3, h4, h5⟩ := Ms.castN_keep (m := m) (i := i) (b := b) hi hb k (by omega)
    unfold Ms.castN
    split
    · refine ⟨h1, h2, h3, h4, fun h => (h5 h).fly ?_ ?_ hb⟩
      · show i < (Ms.castN i b k m).sts.length; rw [h1]; exact hi
      · show k < (Ms.castN i b k m).sts.length; rw [h1]; omega
    · exact ⟨h1, h2, h3, h4, h5⟩
theorem stFind_lt : ∀ {sts : List Sta} {a : UInt32} {j : Nat}, stFind sts a = some j → ∃ s, sts[j]? = some s ∧ s.addr = a
  | [], _, _, h => by cases h
  | s :: r, a, j, h => by
    simp only [stFind] at h
    split at h
    · rename_i e; cases h; exact ⟨s, rfl, e⟩
    · cases hr : stFind r a with
      | none => rw [hr] at h; cases h
      | some k => rw [hr] at h; cases h; obtain ⟨s', h1, h2⟩ := stFind_lt hr; exact ⟨s', by simpa using h1, h2⟩
structure Ms.Did (m m' : Ms) (i c : Nat) (n : Nat) : Prop where
  kept : m.Kept m' i
  here : ∃ s, m'.sts[i]? = some s ∧ s.Sound c
  air : m.AirOk → m'.AirOk
  evs : m'.evs.length ≤ m.evs.length + n
theorem Ms.Did.frame {sub : Ms → OutD → Ms} {m : Ms} {i c n : Nat} {s : Sta} (hs : m.sts[i]? = some s) (hso : s.Sound c) (f : UInt32 × Str) (hf : f.2.length ≤ 100000)
    (hsub : f.1 ≠ 0 → ∀ t : Nd, s.node = some t → m.Did (sub (m.mod i (·.run (t.brkF m.now f.1))) (t.brkF m.now f.1).out) i c n) : m.Did (Ms.frameO sub i m f) i c n := by
  have hi := (List.getElem?_eq_some_iff.1 hs).1
  unfold Ms.frameO
  split
  · obtain ⟨h1, h2, h3, h4, h5⟩ := Ms.castN_keep hi hf m.sts.length (Nat.le_refl _)
    exact ⟨⟨h2, h3, by rw [h1], fun k _ => by rw [h1]⟩, ⟨s, by rw [h1]; exact hs, hso⟩, h5, by rw [h4]; omega⟩
  · rename_i hto
    split
    · rename_i hfi
      cases hst : stFind m.sts f.1 with
      | none => rw [hst] at hfi; cases hfi
      | some j =>
        obtain ⟨s', h1, _⟩ := stFind_lt hst
        refine ⟨Ms.Kept.fly _ _ _, ⟨s, hs, hso⟩, fun h => h.fly hi ?_ hf, Nat.le_add_right _ _⟩
        exact (List.getElem?_eq_some_iff.1 h1).1
    · rw [hs]
      simp only [Option.bind_some]
      cases hn : s.node with
      | none => exact ⟨Ms.Kept.rfl' _ _, ⟨s, hs, hso⟩, fun h => h, Nat.le_add_right _ _⟩
      | some t => exact hsub hto t hn
theorem Ms.Did.emitR {sub : Ms → OutD → Ms} {m : Ms} {i c n : Nat} {o : OutD} {s : Sta} (hs : m.sts[i]? = some s) (hso : s.Says o c) (hf : ∀ f ∈ o.frames, f.2.length ≤ 100000)
    (hsub : ∀ f ∈ o.frames, f.1 ≠ 0 → ∀ (m' : Ms) (s' : Sta) (t : Nd), m.Kept m' i → m'.sts[i]? = some s' → s'.Sound c → s'.node = some t → m'.Did (sub (m'.mod i (·.run (t.brkF m'.now f.1))) (t.brkF m'.now f.1).out) i c n) : m.Did (Ms.emitR sub i m o) i c (1 + o.frames.length * n) := by
  unfold Ms.emitR
  split
  · rename_i ho
    have hj : o.journal = [] := by
      unfold OutD.none at ho
      simp only [Bool.and_eq_true, List.isEmpty_iff] at ho
      exact ho.1.1.1
    exact ⟨Ms.Kept.rfl' _ _, ⟨s, hs, hso.quiet hj⟩, fun h => h, by omega⟩
  · rw [hs]
    simp only
    split
    · refine ⟨(Ms.Kept.mod fun s => Sta.torn_addr s o).trans (Ms.Kept.event _ _ _), ⟨s.torn o, Ms.mod_at hs, hso.torn⟩, fun h => ⟨h.few, fun f hf => ?_⟩, ?_⟩
      · have := h.each f hf
        show f.src < (m.sts.modify i _).length ∧ f.dst < (m.sts.modify i _).length ∧ _
        rw [List.length_modify]
        exact this
      · show (m.evs ++ [_]).length ≤ _
        simp
    · have key : ∀ (l : List (UInt32 × Str)) (m' : Ms), (∀ f ∈ l, f ∈ o.frames) → m.Kept m' i → (∃ s', m'.sts[i]? = some s' ∧ s'.Sound c) → m'.Did (l.foldl (Ms.frameO sub i) m') i c (l.length * n) := by
        intro l
        induction l with
        | nil => intro m' _ _ ⟨s', h1, h2⟩; exact ⟨Ms.Kept.rfl' _ _, ⟨s', h1, h2⟩, fun h => h, by simp⟩
        | cons f l ih =>
          intro m' hl hk ⟨s', h1, h2⟩
          have hff := hl f (by simp)
          have h3 := Ms.Did.frame (n := n) h1 h2 f (hf f hff) fun hz t ht => hsub f hff hz m' s' t hk h1 h2 ht
          have h4 := ih (Ms.frameO sub i m' f) (fun x hx => hl x (by simp [hx])) (hk.trans h3.kept) h3.here
          rw [List.foldl_cons]
          exact ⟨h3.kept.trans h4.kept, h4.here, fun h => h4.air (h3.air h), by have := h3.evs; have := h4.evs; rw [List.length_cons, Nat.succ_mul]; omega⟩
      have h0 : m.Kept ((m.mod i (·.write o)).event ⟨i, 0, o⟩) i := (Ms.Kept.mod (f := fun x => x.write o) fun s => rfl).trans (Ms.Kept.event _ _ _)
      have h1 := key o.frames _ (fun f hf => hf) h0 ⟨s.write o, Ms.mod_at hs, hso.wrote⟩
      refine ⟨h0.trans h1.kept, h1.here, fun h => h1.air ⟨h.few, fun f hf => ?_⟩, ?_⟩
      · have := h.each f hf
        show f.src < (m.sts.modify i _).length ∧ f.dst < (m.sts.modify i _).length ∧ _
        rw [List.length_modify]
        exact this
      · have := h1.evs
        have e : ((m.mod i (·.write o)).event ⟨i, 0, o⟩).evs.length = m.evs.length + 1 := by show (m.evs ++ [_]).length = _; simp
        omega
theorem Ms.Did.emit0 {m : Ms} {i c : Nat} {o : OutD} {s : Sta} (hs : m.sts[i]? = some s) (hso : s.Says o c) (hf : ∀ f ∈ o.frames, f.2.length ≤ 100000) (h0 : ∀ f ∈ o.frames, f.1 = 0) : m.Did (Ms.emit0 i m o) i c 1 := by
  have := Ms.Did.emitR (sub := fun m _ => m) (n := 0) hs hso hf (fun f hf hz => absurd (h0 f hf) hz)
  simpa [Ms.emit0] using this
theorem Ms.Did.run {m m' : Ms} {i c n : Nat} {t : Nd} (h : (m.mod i (·.run t)).Did m' i c n) : m.Did m' i c n := by
  have hk : m.Kept (m.mod i (·.run t)) i := Ms.Kept.mod (f := fun x => x.run t) fun s => rfl
  refine ⟨hk.trans h.kept, h.here, fun ha => h.air ⟨ha.few, fun f hf => ?_⟩, h.evs⟩
  have := ha.each f hf
  rw [hk.length]
  exact this
theorem Ms.Did.emit {m : Ms} {i c : Nat} {o : OutD} {s : Sta} (hs : m.sts[i]? = some s) (hso : s.Says o c) (hf : ∀ f ∈ o.frames, f.2.length ≤ 100000) : m.Did (Ms.emit i m o) i c (1 + o.frames.length) := by
  have := Ms.Did.emitR (sub := Ms.emit0 i) (n := 1) hs hso hf (fun f hf hz m' s' t _ h1 h2 ht => by
    have hw := (h2.node t ht).1.wentBrk m'.now f.1
    exact Ms.Did.run (Ms.Did.emit0 (Ms.mod_at h1) (h2.says ht hw) hw.pks.le (Nd.brkF_all _ _ _)))
  simpa [Ms.emit] using this
end

section
open Go.RowKit
section
variable {P : Program} {n : Frm} {w0 : World} {E : Env} {D : List Deferred} {H F : HProp} {c : Code} {Q : Exit → St → Prop}
theorem WS_outR {o : OutD} {v : Value × Value × Value} (hl : Own H (outR o v) F) (h : ∀ A1 c1 A2 c2 A3 c3, v = (.slice A1 o.frames.length c1, .slice A2 o.came.length c2, .slice A3 o.dropped.length c3) → WS P n w0 c Q ⟨E, D, H⟩) : WS P n w0 c Q ⟨E, D, H⟩ := fun a w gd => by
  have h1 := gd.sat.cast hl.eq
  unfold outR at h1
  rw [star_assoc, star_assoc] at h1
  obtain ⟨A1, c1, e1⟩ := rows_form h1
  obtain ⟨A2, c2, e2⟩ := rows_form (h1.cast (star_left_comm _ _ _))
  obtain ⟨A3, c3, e3⟩ := rows_form (h1.cast ((congrArg _ (star_left_comm _ _ _)).trans (star_left_comm _ _ _)))
  exact h A1 c1 A2 c2 A3 c3 (by rw [← e1, ← e2, ← e3]) a w gd
end
theorem amap_eq : ∀ (l m : List Sta) (k : Nat), l.map (·.addr) = m.map (·.addr) → amap k l = amap k m
  | [], [], _, _ => rfl
  | a :: l, b :: m, k, h => by
    simp only [List.map_cons, List.cons.injEq] at h
    simp only [amap, h.1, amap_eq l m (k + 1) h.2]
  | [], _ :: _, _, h => by simp at h
  | _ :: _, [], _, h => by simp at h
theorem amap_mod (m : Ms) (i : Nat) {f : Sta → Sta} (hf : ∀ s, (f s).addr = s.addr) : amap 0 (m.sts.modify i f) = amap 0 m.sts := amap_eq _ _ 0 (Ms.Kept.mod (m := m) (i := i) hf).addrs
attribute [local irreducible] WS LS OpQ OpT OpH OpTQ Spec SpecQ cel
variable (w0 : World)
set_option maxRecDepth 100000 in
theorem emitR_spec (gm : Nat) (k : MH) (sub : Ms → OutD → Ms) (i b c B : Nat) (hB : B ≤ 899000) (hb : k.bs[i]? = some b) (m : Ms) (el : List ES) (o : OutD) (v : Value × Value × Value) (s : Sta) (hs : m.sts[i]? = some s) (hso : s.Says o c) (hpk : ∀ f ∈ o.frames, f.2.length ≤ 100000) (hfl : o.frames.length ≤ 100000) (hair : m.AirOk) (hevs : m.evs.length + o.frames.length + 2 ≤ B) (h6 : m.sts.length ≤ 6)
    (hsubD : ∀ f ∈ o.frames, f.1 ≠ 0 → ∀ (m' : Ms) (s' : Sta) (t : Nd), m.Kept m' i → m'.sts[i]? = some s' → s'.Sound c → s'.node = some t → m'.Did (sub (m'.mod i (·.run (t.brkF m'.now f.1))) (t.brkF m'.now f.1).out) i c 1)
    (hsub : ∀ f ∈ o.frames, f.1 ≠ 0 → ∀ (m' : Ms) (el' : List ES) (s' : Sta) (t : Nd) (v' : Value × Value × Value), m.Kept m' i → m'.sts[i]? = some s' → s'.Sound c → s'.node = some t → m'.AirOk → m'.evs.length ≤ B → Spec Tryz.prog w0 85 [ptr gm 0, .int .i64 (i : Int), outA (t.brkF m'.now f.1).out v'] (mshA gm k (m'.mod i (·.run (t.brkF m'.now f.1))) el' * outR (t.brkF m'.now f.1).out v') (fun _ : List ES => .tuple #[]) (fun new => mshA gm k (sub (m'.mod i (·.run (t.brkF m'.now f.1))) (t.brkF m'.now f.1).out) (el' ++ new) * evsO new)) :
    Spec Tryz.prog w0 85 [ptr gm 0, .int .i64 (i : Int), outA o v] (mshA gm k m el * outR o v) (fun _ : List ES => .tuple #[]) (fun new => mshA gm k (Ms.emitR sub i m o) (el ++ new) * evsO new) := by
  refine Spec.enter Tryz.func85 rfl Tryz.ntmps85 rfl fun G => ?_
  rw [star_assoc (mshA _ _ _ _)]
  refine WS_outR (o := o) (v := v) iI fun A1 c1 A2 c2 A3 c3 hv => ?_
  subst hv
  have hi := (List.getElem?_eq_some_iff.1 hs).1
  have hjl : s.journal.length + o.journal.length ≤ 900 := by
    obtain ⟨n, h1, h2, h3, h4, h5⟩ := hso.node
    have h6 := recsB_24 h2
    have h7 := hso.jour
    have h8 := congrArg List.length h4
    rw [List.length_append] at h8
    omega
  have hemit : Ms.emitR sub i m o = if o.none then m else if s.tears o then (m.mod i (·.torn o)).event ⟨i, 0, OutD.zero⟩ else o.frames.foldl (Ms.frameO sub i) ((m.mod i (·.write o)).event ⟨i, 0, o⟩) := by
    unfold Ms.emitR
    rw [hs]
  by_cases ho : o.none = true
  · rw [if_pos ho] at hemit
    rw [hemit]
    have hos : o.journal = [] ∧ o.frames = [] ∧ o.came = [] ∧ o.dropped = [] := by
      unfold OutD.none at ho
      simp only [Bool.and_eq_true, List.isEmpty_iff] at ho
      exact ⟨ho.1.1.1, ho.1.1.2, ho.1.2, ho.2⟩
    obtain ⟨J, Rp, fr, cm, dr⟩ := o
    obtain ⟨rfl, rfl, rfl, rfl⟩ := hos
    simp only [outA, argE]
    repeat' (first | (refine WS_seqK ?_; intro K hK) | (refine hK _ ?_; clear hK K) | refine stZ ?_ | (refine s2Z ?_ ?_ <;> intro hc <;> (try simp only [cS] at hc) <;> (try (exfalso; first | contradiction | omega))) | refine sbZ ?_ | refine sqZ ?_ | (refine shZ ?_; intro g))
    exact ret_none (.inl rfl) rfl ⟨[], rfl, by rw [List.append_nil, evsO, star_emp]; exact finE⟩
  rw [if_neg ho] at hemit
  refine WS_msh fun va ve hel => ?_
  refine WS_mlen fun hbl => ?_
  obtain ⟨R, e1, e2⟩ := stas_open hbl hb hs
  refine WS_sta e1 fun gn vj => ?_
  have p1 := torn_spec w0 b gn vj s o (.slice A1 o.frames.length c1, .slice A2 o.came.length c2, .slice A3 o.dropped.length c3) (by omega) hso.tear
  obtain ⟨J, Rp, fr, cm, dr⟩ := o
  simp only [outA, outR, argE] at p1 ⊢
  simp only at hpk hfl hevs hsubD hsub hjl hemit ho
  unfold mshS
  simp only [mshC]
  repeat' (first | (show WS _ _ _ (.seq (.seq (.region 1 _ _) _) _) _ _; refine WS_mid (fun τ => ∃ g5 : Nat, τ = ⟨[(5, ptr g5 0), (0, ptr gm 0), (0 + 1, .int .i64 (i : Int))], [], cel g5 35 [strV J, .bool Rp, .slice A1 fr.length c1, .slice A2 cm.length c2, .slice A3 dr.length c3] * (mshS gm m k va ve el b gn vj s R * (outR ⟨J, Rp, fr, cm, dr⟩ (.slice A1 fr.length c1, .slice A2 cm.length c2, .slice A3 dr.length c3) * G))⟩) ?_ ?_) | (refine WS_seqK ?_; intro K hK) | (refine hK _ ?_; clear hK K) | refine stZ ?_ | (refine s2Z ?_ ?_ <;> intro hc <;> (try simp only [cS] at hc) <;> (try (exfalso; first | contradiction | omega))) | refine sqZ ?_ | ((first | refine LS_binS rfl rfl iI rfl ?_ ?_ | refine LS_binN rfl rfl iI rfl ?_ ?_ | refine DL_binS rfl rfl iI rfl ?_ ?_) <;> intro hc) | (refine shZ ?_; intro g))
  rotate_left 1
  iterate 4 (exact ⟨_, ⟨g, rfl⟩, ⟨rfl, rfl, rfl, trivial⟩, rfl, by unfold mshS; simp only [mshC, outR]; exact finE⟩)
  rotate_left 1
  · exfalso
    apply ho
    have q1 : fr = [] := List.eq_nil_of_length_eq_zero (by omega)
    have q2 : cm = [] := List.eq_nil_of_length_eq_zero (by omega)
    have q3 : dr = [] := List.eq_nil_of_length_eq_zero (by omega)
    have q4 : J = [] := by assumption
    rw [q1, q2, q3, q4]
    rfl
  · rintro τ ⟨g5, rfl⟩
    have hbl6 : k.bs.length ≤ 6 := by omega
    have hell : el.length = m.evs.length := by rw [← hel]; simp
    have hilt : i < k.bs.length := by omega
    unfold mshS
    simp only [mshC]
    cases htr : s.tears ⟨J, Rp, fr, cm, dr⟩ with
    | true =>
      rw [htr] at p1 hemit
      simp only [if_true] at p1 hemit
      rw [hemit]
      repeat' (first | (refine WS_seqK ?_; intro K hK) | (refine hK _ ?_; clear hK K) | refine stZ ?_ | (refine s2Z ?_ ?_ <;> intro hc <;> (try simp only [cS] at hc) <;> (try (exfalso; first | contradiction | omega))) | refine sqZ ?_ | (refine s0Z ?_; intro g) | (refine LS_h (H_callX iI rfl p1 iI) rfl ?_; intro vj2) | (refine LS_h (H_buildSliceR evC [evBare (i : Int) 0] iI iI iI rfl rfl rfl rfl rfl iI rfl rfl rfl) rfl ?_; intro vx) | (refine LS_h (H_appendR rfl rfl iI iI rfl iI iI evC_one (by first | omega | (simp [be_length] <;> omega)) rfl) rfl ?_; intro va2))
      refine ret_none (.inl rfl) rfl ⟨[evBare (i : Int) 0], rfl, ?_⟩
      rw [star_assoc (mshA _ _ _ _)]
      refine Ent.msh va va2 (by rw [List.map_append, hel]; rfl) ?_
      refine Ent.sta gn vj2 (e2 _) ?_
      unfold mshS
      simp only [mshC, Ms.event, Ms.mod, amap_mod m i fun s => Sta.torn_addr s ⟨J, Rp, fr, cm, dr⟩, evsO, evO, outR, evBare, svV, slV', OutD.zero, star_emp]
      exact finE
    | false =>
      rw [htr] at p1 hemit
      simp only [Bool.false_eq_true, if_false] at p1 hemit
      rw [hemit]
      clear hemit
      simp only [staB, staC] at p1 ⊢
      repeat' (first | (show WS _ _ _ (.seq (.seq (.region 5 _ _) _) _) _ _; refine WS_mid (fun τ => ∃ vj3 : Value, τ = ⟨[(6, ptr b 0), (5, ptr g5 0), (0, ptr gm 0), (0 + 1, .int .i64 (i : Int))], [], cel g5 35 [strV J, .bool Rp, .slice A1 fr.length c1, .slice A2 cm.length c2, .slice A3 dr.length c3] * (mshS gm m k va ve el b gn vj3 { s with journal := if Rp then [] else s.journal } R * (outR ⟨J, Rp, fr, cm, dr⟩ (.slice A1 fr.length c1, .slice A2 cm.length c2, .slice A3 dr.length c3) * G))⟩) ?_ ?_) | (refine WS_seqK ?_; intro K hK) | (refine hK _ ?_; clear hK K) | refine stZ ?_ | (refine s2Z ?_ ?_ <;> intro hc <;> (try simp only [cS] at hc) <;> (try (exfalso; first | contradiction | omega))) | refine sqZ ?_ | (refine s0Z ?_; intro g) | (refine LS_h (H_callX iI rfl p1 iI) rfl ?_; intro vj2))
      rotate_left 2
      · rintro τ ⟨vj3, rfl⟩
        unfold mshS
        simp only [mshC, staB, staC, outR]
        have hJ0 : (if Rp = true then [] else s.journal).length ≤ 900 := (by split <;> (try simp only [List.length_nil]) <;> omega)
        repeat' (first | (show WS _ _ _ (.region 7 _ true) _ _; first | refine WS_drawK (.range 11) 7 [4, 6] (by decide +kernel) rfl ?_ | refine WS_drawN 6 5 (.range 11) 10 [4] (by decide +kernel) rfl rfl rfl iI iI ?_) | (show WS _ _ _ (.region 8 _ true) _ _; first | refine WS_drawK (.range 13) 9 [4, 6] (by decide +kernel) rfl ?_ | refine WS_drawN 0 5 (.range 13) 12 [4] (by decide +kernel) rfl rfl rfl iI iI ?_) | (refine WS_seqK ?_; intro K hK) | (refine hK _ ?_; clear hK K) | refine stZ ?_ | refine sqZ ?_ | (refine s0Z ?_; intro g) | (refine DL_h (H_appendS rfl rfl iI rfl iI iI (by first | omega | (simp [be_length] <;> omega)) rfl) rfl rfl rfl ?_; intro vj4) | (refine DL_h (H_buildSliceR evC [((⟨(i : Int), 0, ⟨J, Rp, fr, cm, dr⟩⟩, (A1, fr.length, c1), (A2, cm.length, c2), (A3, dr.length, c3)) : ES)] iI iI iI rfl rfl rfl rfl rfl iI rfl rfl rfl) rfl rfl rfl ?_; intro vx) | (refine DL_h (H_appendR rfl rfl iI iI rfl iI iI evC_one (by first | omega | (simp [be_length] <;> omega)) rfl) rfl rfl rfl ?_; intro ve4))
        obtain ⟨x, hx⟩ : ∃ x : ES, x = ((⟨(i : Int), 0, ⟨J, Rp, fr, cm, dr⟩⟩, (A1, fr.length, c1), (A2, cm.length, c2), (A3, dr.length, c3)) : ES) := ⟨_, rfl⟩
        obtain ⟨m1, hm1⟩ : ∃ m1, m1 = (m.mod i (·.write ⟨J, Rp, fr, cm, dr⟩)).event ⟨i, 0, ⟨J, Rp, fr, cm, dr⟩⟩ := ⟨_, rfl⟩
        have hk1 : m.Kept m1 i := by rw [hm1]; exact (Ms.Kept.mod (f := fun x => x.write ⟨J, Rp, fr, cm, dr⟩) fun s => rfl).trans (Ms.Kept.event _ _ _)
        have hs1 : m1.sts[i]? = some (s.write ⟨J, Rp, fr, cm, dr⟩) := by rw [hm1]; exact Ms.mod_at hs
        have hair1 : m1.AirOk := by
          refine ⟨by rw [hm1]; exact hair.few, fun f hf => ?_⟩
          rw [hk1.length]
          exact hair.each f (by rw [hm1] at hf; exact hf)
        have hev1 : m1.evs = m.evs ++ [⟨(i : Int), 0, ⟨J, Rp, fr, cm, dr⟩⟩] := by rw [hm1]; rfl
        have hel1 : (el ++ [x]).map (·.1) = m1.evs := by rw [List.map_append, hel, hev1, hx]; rfl
        rw [← hm1]
        refine WS_loop (fun kk τ => ∃ (j : Nat) (mj : Ms) (new : List ES), j + kk = fr.length ∧ mj = (fr.take j).foldl (Ms.frameO sub i) m1 ∧ m.Kept mj i ∧ (∃ sj, mj.sts[i]? = some sj ∧ sj.Sound c) ∧ mj.AirOk ∧ mj.evs.length ≤ m.evs.length + 1 + j ∧ τ = ⟨[(84, .int .i64 (j : Int)), (83, .int .i64 (fr.length : Int)), (82, .slice A1 fr.length c1), (6, ptr b 0), (0, ptr gm 0), (0 + 1, .int .i64 (i : Int))], [], mshA gm k mj (el ++ [x] ++ new) * (evsO new * (rows 48 2 txtC (.slice A1 fr.length c1) fr * (rows 70 2 txtC (.slice A2 cm.length c2) cm * (rows 166 1 intC (.slice A3 dr.length c3) dr * G))))⟩) ?_ ?_
        · refine ⟨fr.length, _, ⟨0, m1, [], by omega, rfl, hk1, ⟨_, hs1, hso.wrote⟩, hair1, by rw [hev1]; simp, rfl⟩, ⟨rfl, rfl, rfl, rfl, rfl, rfl, trivial⟩, rfl, ?_⟩
          rw [List.append_nil]
          refine Ent.msh va ve4 hel1 ?_
          refine Ent.sta gn vj4 (by rw [hm1]; exact e2 _) ?_
          have ham : amap 0 m1.sts = amap 0 m.sts := amap_eq _ _ 0 hk1.addrs
          have hma : m1.air = m.air := by rw [hm1]; rfl
          unfold mshS
          simp only [mshC, ham, hma, hk1.hears, hk1.now, evsO, emp_star, staB, staC, Sta.write, hx]
          exact finE
        · rintro kk τ ⟨j, mj, new, hjk, hmj, hkj, ⟨sj, hsj, hsoj⟩, hairj, hevj, rfl⟩
          rcases Nat.lt_or_ge j fr.length with hlt | hge
          · obtain ⟨⟨to, fb⟩, hz⟩ : ∃ z, fr[j]? = some z := ⟨_, List.getElem?_eq_getElem hlt⟩
            have hfm := List.mem_of_getElem? hz
            have hfb := hpk _ hfm
            have hnext := Ms.Did.frame (sub := sub) (n := 1) hsj hsoj (to, fb) hfb fun hz t ht => hsubD _ hfm hz mj sj t hkj hsj hsoj ht
            have htk : (fr.take (j + 1)).foldl (Ms.frameO sub i) m1 = Ms.frameO sub i mj (to, fb) := by rw [List.take_add_one, hz, Option.toList_some, List.foldl_append, ← hmj]; rfl
            have hD1 := hkj.trans hnext.kept
            have hD2 := hnext.here
            have hD3 := hnext.air hairj
            have hD4 := hnext.evs
            have hlj : mj.sts.length = m.sts.length := hkj.length
            simp only at hfb
            clear hnext hmj hm1 hk1 hs1 hair1 hev1 hel1
            refine WS_msh fun va1 ve1 helj => ?_
            refine WS_mlen fun hblj => ?_
            by_cases hto : to = 0
            · subst hto
              have hfo : Ms.frameO sub i mj ((0 : UInt32), fb) = Ms.castN i fb mj.sts.length mj := by unfold Ms.frameO; rw [if_pos rfl]
              rw [hfo] at hD1 hD2 hD3 hD4 htk
              have hcast := fun q hq => Ms.castN_keep (m := mj) (i := i) (b := fb) (by omega) hfb q hq
              have h00 : ((0 : UInt32), fb).1 = 0 := rfl
              simp only [mshP, mshC]
              repeat' (first | (show WS _ _ _ (.region 12 _ true) _ _; refine WS_drawA (.range 12) (by decide +kernel) rfl ?_) | (refine WS_seqK ?_; intro K hK) | (refine hK _ ?_; clear hK K) | refine stZ ?_ | (refine s2Z ?_ ?_ <;> intro hc <;> (try simp only [cS] at hc) <;> (try (exfalso; first | contradiction | omega))) | refine sqZ ?_ | ((first | refine' LQ ?zh rfl ?_ | refine' DL_q rfl rfl ?zh ?_); case zh => intro F'; first | exact Q_bin_t rfl rfl iI (by first | assumption | omega | decide | rfl) | exact Q_lookupOk rfl rfl iI iI iI iI iI) | ((refine' LS_h0 ?zh ?_); (case zh => exact H_storeA rfl rfl iI iI (by first | rfl | (simp only [List.all_cons, List.all_nil, *]; rfl)) rfl); intro g) | (refine LS_h (H_alloc iI) rfl ?_; intro g8))
              refine WS_loop (fun k3 τ => ∃ (q : Nat) (va' : Value), q + k3 = mj.sts.length ∧ τ = ⟨[(107, .int .i64 (q : Int)), (106, .int .i64 (k.bs.length : Int)), (8, ptr g8 0), (84, .int .i64 (j : Int)), (83, .int .i64 (fr.length : Int)), (82, .slice A1 fr.length c1), (6, ptr b 0), (0, ptr gm 0), (0 + 1, .int .i64 (i : Int))], [], cel gm 108 (mshC (Ms.castN i fb q mj) ⟨k.vs, k.bs, k.r, va', ve1⟩) * (rows 114 3 flC va' (Ms.castN i fb q mj).air * (cel g8 48 [u32 0, strV fb] * (rows 115 1 ptrC k.vs k.bs * (mp u32 i64 k.r (amap 0 mj.sts) * (stasQ k.bs mj.sts * (rows 68 7 evC ve1 (el ++ [x] ++ new) * (evsO new * (rows 48 2 txtC (.slice A1 fr.length c1) fr * (rows 70 2 txtC (.slice A2 cm.length c2) cm * (rows 166 1 intC (.slice A3 dr.length c3) dr * G))))))))))⟩) ?_ ?_
              · exact ⟨mj.sts.length, _, ⟨0, va1, by omega, rfl⟩, ⟨rfl, rfl, rfl, rfl, rfl, rfl, rfl, rfl, rfl, trivial⟩, rfl, by simp only [Ms.castN, mshC]; exact finE⟩
              · rintro k3 τ ⟨q, va', hqk, rfl⟩
                obtain ⟨q1, q2, q3, q4, q5⟩ := hcast q (by omega)
                rcases Nat.lt_or_ge q mj.sts.length with hltq | hgeq
                · have hq6 : (q : Int) < (k.bs.length : Int) := by omega
                  have hstep : Ms.castN i fb (q + 1) mj = if (Ms.castN i fb q mj).hear i q then (Ms.castN i fb q mj).fly ⟨i, q, fb⟩ else Ms.castN i fb q mj := rfl
                  have hairq := (q5 hairj).few
                  generalize Ms.castN i fb q mj = mq at *
                  have hg := hear_get mq ⟨k.vs, k.bs, k.r, va', ve1⟩ (i := i) (j := q) (by omega) (by omega)
                  have p7 := fly_spec w0 gm mq ⟨k.vs, k.bs, k.r, va', ve1⟩ ⟨i, q, fb⟩ hairq
                  simp only [flC] at p7
                  have hi6 : i < 6 := by omega
                  have hq66 : q < 6 := by omega
                  cases hh : mq.hear i q with
                  | true =>
                    rw [hh] at hg hstep
                    simp only [if_true] at hstep
                    repeat' (first | (refine WS_seqK ?_; intro K hK) | (refine hK _ ?_; clear hK K) | refine stZ ?_ | (refine s2Z ?_ ?_ <;> intro hc <;> (try simp only [cS] at hc) <;> (try (exfalso; first | contradiction | omega))) | ((refine' LQ ?zh rfl ?_); case zh => intro F'; first | exact Q_move rfl | exact Q_assign rfl | exact Q_nilCheck rfl | exact Q_fieldAddr rfl iI rfl | exact Q_load rfl iI iI rfl | exact Q_bin_t rfl rfl iI (by first | assumption | omega | decide | rfl) | exact Q_addI rfl rfl (by omega) | exact Q_build iI iI rfl rfl) | (refine' LQ ?zh rfl ?_; (case zh => intro F'; exact Q_indexArr rfl rfl iI iI iI (by assumption))) | (refine' LQ ?zh rfl ?_; (case zh => intro F'; exact Q_load rfl iI iI (by assumption))) | (refine LS_h (H_callX iI rfl p7 iI) rfl ?_; intro va2))
                    exact ⟨k3 - 1, _, by omega, ⟨q + 1, va2, by omega, rfl⟩, ⟨rfl, rfl, rfl, rfl, rfl, rfl, rfl, rfl, rfl, trivial⟩, rfl, by rw [hstep]; exact finE⟩
                  | false =>
                    rw [hh] at hg hstep
                    simp only [Bool.false_eq_true, if_false] at hstep
                    repeat' (first | (refine WS_seqK ?_; intro K hK) | (refine hK _ ?_; clear hK K) | refine stZ ?_ | (refine s2Z ?_ ?_ <;> intro hc <;> (try simp only [cS] at hc) <;> (try (exfalso; first | contradiction | omega))) | ((refine' LQ ?zh rfl ?_); case zh => intro F'; first | exact Q_move rfl | exact Q_assign rfl | exact Q_nilCheck rfl | exact Q_fieldAddr rfl iI rfl | exact Q_bin_t rfl rfl iI (by first | assumption | omega | decide | rfl) | exact Q_addI rfl rfl (by omega)) | (refine' LQ ?zh rfl ?_; (case zh => intro F'; exact Q_indexArr rfl rfl iI iI iI (by assumption))) | (refine' LQ ?zh rfl ?_; (case zh => intro F'; exact Q_load rfl iI iI (by assumption))))
                    exact ⟨k3 - 1, _, by omega, ⟨q + 1, va', by omega, rfl⟩, ⟨rfl, rfl, rfl, rfl, rfl, rfl, rfl, rfl, rfl, trivial⟩, rfl, by rw [hstep]; exact finE⟩
                · obtain rfl : q = mj.sts.length := by omega
                  have hq6 : ¬ (mj.sts.length : Int) < (k.bs.length : Int) := by omega
                  repeat' (first | (refine WS_seqK ?_; intro K hK) | (refine hK _ ?_; clear hK K) | refine stZ ?_ | (refine s2Z ?_ ?_ <;> intro hc <;> (try simp only [cS] at hc) <;> (try (exfalso; first | contradiction | omega))) | refine sqZ ?_ | ((refine' LQ ?zh rfl ?_); case zh => intro F'; exact Q_bin_f rfl rfl iI (by first | assumption | omega | decide | rfl)))
                  refine ⟨kk - 1, _, by omega, ⟨j + 1, Ms.castN i fb mj.sts.length mj, new, by omega, htk.symm, hD1, hD2, hD3, by omega, rfl⟩, ⟨rfl, rfl, rfl, rfl, rfl, rfl, trivial⟩, rfl, ?_⟩
                  refine Ent.msh va' ve1 (by rw [q4]; exact helj) ?_
                  simp only [mshP, q1]
                  exact finE
            · have hto' : ¬ (to, fb).1 = 0 := hto
              have hget := amap_get to mj.sts 0
              have hi6 : i < 6 := by omega
              obtain ⟨R2, e3, e4⟩ := stas_open hblj hb hsj
              refine WS_sta e3 fun gn2 vj5 => ?_
              unfold mshS
              have hfo : ¬ (((stFind mj.sts to).map fun j => mj.hear i j) = some true) → Ms.frameO sub i mj (to, fb) = match sj.node with | some s => sub (mj.mod i (·.run (s.brkF mj.now to))) (s.brkF mj.now to).out | none => mj := fun h => by
                unfold Ms.frameO
                rw [if_neg hto, if_neg h, hsj]
                rfl
              have hfy : ∀ jj, stFind mj.sts to = some jj → mj.hear i jj = true → Ms.frameO sub i mj (to, fb) = mj.fly ⟨i, jj, fb⟩ := fun jj h1 h2 => by
                unfold Ms.frameO
                rw [if_neg hto, if_pos (by rw [h1]; simp [h2]), h1]
                rfl
              simp only [mshC, staB, staC]
              cases hst : stFind mj.sts to with
              | none =>
                rw [hst] at hget
                simp only [Option.map_none] at hget
                have hfo' := hfo (by rw [hst]; simp)
                cases hn : sj.node with
                | none =>
                  rw [hn] at hfo'
                  simp only at hfo'
                  rw [hfo'] at hD1 hD2 hD3 hD4 htk
                  simp only [hn, ptrN, staN]
                  repeat' (first | (show WS _ _ _ (.region 12 _ true) _ _; refine WS_drawA (.range 12) (by decide +kernel) rfl ?_) | (refine WS_seqK ?_; intro K hK) | (refine hK _ ?_; clear hK K) | refine stZ ?_ | (refine s2Z ?_ ?_ <;> intro hc <;> (try simp only [cS] at hc) <;> (try (exfalso; first | contradiction | omega))) | refine sqZ ?_ | ((first | refine' LQ ?zh rfl ?_ | refine' DL_q rfl rfl ?zh ?_); case zh => intro F'; first | exact Q_bin_t rfl rfl iI (by first | assumption | omega | decide | rfl) | exact Q_bin_f rfl rfl iI (by first | assumption | omega | decide | rfl) | exact Q_lookupOk_n rfl rfl iI iI iI iI iI (by assumption)) | ((refine' LQ ?zh rfl ?_); case zh => intro F'; exact Q_bin rfl rfl iI) | ((refine' LS_h0 ?zh ?_); (case zh => exact H_storeA rfl rfl iI iI (by first | rfl | (simp only [List.all_cons, List.all_nil, *]; rfl)) rfl); intro g) | (refine LS_h (H_alloc iI) rfl ?_; intro g8))
                  refine ⟨kk - 1, _, by omega, ⟨j + 1, mj, new, by omega, htk.symm, hD1, hD2, hD3, by omega, rfl⟩, ⟨rfl, rfl, rfl, rfl, rfl, rfl, trivial⟩, rfl, ?_⟩
                  refine Ent.msh va1 ve1 helj ?_
                  refine Ent.sta gn2 vj5 e3 ?_
                  unfold mshS
                  simp only [mshC, staB, staC, hn, ptrN, staN]
                  exact finE
                | some tn =>
                  rw [hn] at hfo'
                  simp only at hfo'
                  rw [hfo'] at hD1 hD2 hD3 hD4 htk
                  have hrt := (hsoj.node tn hn).1
                  have p7 := nbroken_spec w0 gn2 tn mj.now to hrt
                  have p8 := fun v' => (hsub (to, fb) hfm hto mj (el ++ [x] ++ new) sj tn v' hkj hsj hsoj hn hairj (by omega)).conv (X' := cel gm 108 (mshC mj ⟨k.vs, k.bs, k.r, va1, ve1⟩) * (rows 115 1 ptrC k.vs k.bs * (mp u32 i64 k.r (amap 0 mj.sts) * (cel b 118 (staC (sj.run (tn.brkF mj.now to)) gn2 vj5) * (rows 5 1 byteC vj5 sj.journal * (nodI gn2 (tn.brkF mj.now to) * (R2 * (rows 114 3 flC va1 mj.air * (rows 68 7 evC ve1 (el ++ [x] ++ new) * outR (tn.brkF mj.now to).out v')))))))))
                    (fun Z => by
                      rw [star_assoc (mshA _ _ _ _)]
                      refine Ent.msh va1 ve1 helj ?_
                      refine Ent.sta gn2 vj5 (e4 _) ?_
                      unfold mshS
                      rw [show amap 0 (mj.mod i fun y => y.run (tn.brkF mj.now to)).sts = amap 0 mj.sts from amap_mod mj i fun s => rfl]
                      simp only [mshC, Ms.mod, staB, staC, Sta.run, ptrN, staN]
                      exact finE) (fun _ _ => Ent.refl _)
                  simp only at p8
                  generalize sub (mj.mod i fun y => y.run (tn.brkF mj.now to)) (tn.brkF mj.now to).out = mn at *
                  generalize tn.brkF mj.now to = t2 at *
                  simp only [outA, mshC, staC, Sta.run, ptrN] at p7 p8
                  simp only [hn, ptrN, staN]
                  repeat' (first | (show WS _ _ _ (.region 12 _ true) _ _; refine WS_drawA (.range 12) (by decide +kernel) rfl ?_) | (show WS _ _ _ (.region 23 _ true) _ _; refine WS_drawK (.range 14) 12 [5, 9, 11] (by decide +kernel) rfl ?_) | (refine WS_seqK ?_; intro K hK) | (refine hK _ ?_; clear hK K) | refine stZ ?_ | (refine s2Z ?_ ?_ <;> intro hc <;> (try simp only [cS] at hc) <;> (try (exfalso; first | contradiction | omega))) | refine sqZ ?_ | ((first | refine' LQ ?zh rfl ?_ | refine' DL_qp rfl rfl rfl ?zh ?_ | refine' DL_q rfl rfl ?zh ?_); case zh => intro F'; first | exact Q_bin_t rfl rfl iI (by first | assumption | omega | decide | rfl) | exact Q_bin_f rfl rfl iI (by first | assumption | omega | decide | rfl) | exact Q_lookupOk_n rfl rfl iI iI iI iI iI (by assumption)) | ((refine' LQ ?zh rfl ?_); case zh => intro F'; exact Q_bin rfl rfl iI) | ((refine' LS_h0 ?zh ?_); (case zh => exact H_storeA rfl rfl iI iI (by first | rfl | (simp only [List.all_cons, List.all_nil, *]; rfl)) rfl); intro g) | (refine LS_h (H_alloc iI) rfl ?_; intro g8) | (refine DL_h (H_callX iI rfl p7 iI) rfl rfl rfl ?_; intro x7) | (refine DL_h (H_callX iI rfl (p8 x7) iI) rfl rfl rfl ?_; intro new2))
                  refine ⟨kk - 1, _, by omega, ⟨j + 1, mn, new ++ new2, by omega, htk.symm, hD1, hD2, hD3, by omega, rfl⟩, ⟨rfl, rfl, rfl, rfl, rfl, rfl, trivial⟩, rfl, ?_⟩
                  rw [show el ++ [x] ++ (new ++ new2) = el ++ [x] ++ new ++ new2 by simp, evsO_append]
                  exact finE
              | some jj =>
                obtain ⟨sx, hsx, _⟩ := stFind_lt hst
                have hjj := (List.getElem?_eq_some_iff.1 hsx).1
                have hj6 : jj < 6 := by omega
                rw [hst] at hget
                simp only [Option.map_some] at hget
                replace hget : mget (amap 0 mj.sts) to = some ((jj : Nat) : Int) := by rw [hget]; simp
                have hg := hear_get mj ⟨k.vs, k.bs, k.r, va1, ve1⟩ hi6 hj6
                simp only [mshC] at hg
                cases hh : mj.hear i jj with
                | false =>
                  rw [hh] at hg
                  have hfo' := hfo (by rw [hst]; simp [hh])
                  cases hn : sj.node with
                  | none =>
                    rw [hn] at hfo'
                    simp only at hfo'
                    rw [hfo'] at hD1 hD2 hD3 hD4 htk
                    simp only [hn, ptrN, staN]
                    repeat' (first | (show WS _ _ _ (.region 12 _ true) _ _; refine WS_drawA (.range 12) (by decide +kernel) rfl ?_) | (refine WS_seqK ?_; intro K hK) | (refine hK _ ?_; clear hK K) | refine stZ ?_ | (refine s2Z ?_ ?_ <;> intro hc <;> (try simp only [cS] at hc) <;> (try (exfalso; first | contradiction | omega))) | ((first | refine' LQ ?zh rfl ?_ | refine' DL_q rfl rfl ?zh ?_); case zh => intro F'; first | exact Q_move rfl | exact Q_assign rfl | exact Q_nilCheck rfl | exact Q_fieldAddr rfl iI rfl | exact Q_load rfl iI iI rfl | exact Q_bin_t rfl rfl iI (by first | assumption | omega | decide | rfl) | exact Q_bin_f rfl rfl iI (by first | assumption | omega | decide | rfl) | exact Q_addI rfl rfl (by omega) | exact Q_extract rfl rfl | exact Q_pick_t rfl iI rfl | exact Q_index rfl rfl iI iI iI iI (by first | assumption | omega | (simp [be_length] <;> omega)) | exact Q_loadRA rfl iI iI iI (by assumption) | exact Q_lookupOk_s rfl rfl iI iI iI iI iI (by assumption)) | ((refine' LQ ?zh rfl ?_); case zh => intro F'; exact Q_bin rfl rfl iI) | ((refine' LS_h0 ?zh ?_); (case zh => exact H_storeA rfl rfl iI iI (by first | rfl | (simp only [List.all_cons, List.all_nil, *]; rfl)) rfl); intro g) | (refine LS_h (H_alloc iI) rfl ?_; intro g8) | (refine' LQ ?zh rfl ?_; (case zh => intro F'; exact Q_indexArr rfl rfl iI iI iI (by assumption))) | (refine' LQ ?zh rfl ?_; (case zh => intro F'; exact Q_load rfl iI iI (by assumption))))
                    refine ⟨kk - 1, _, by omega, ⟨j + 1, mj, new, by omega, htk.symm, hD1, hD2, hD3, by omega, rfl⟩, ⟨rfl, rfl, rfl, rfl, rfl, rfl, trivial⟩, rfl, ?_⟩
                    refine Ent.msh va1 ve1 helj ?_
                    refine Ent.sta gn2 vj5 e3 ?_
                    unfold mshS
                    simp only [mshC, staB, staC, hn, ptrN, staN]
                    exact finE
                  | some tn =>
                    rw [hn] at hfo'
                    simp only at hfo'
                    rw [hfo'] at hD1 hD2 hD3 hD4 htk
                    have hrt := (hsoj.node tn hn).1
                    have p7 := nbroken_spec w0 gn2 tn mj.now to hrt
                    have p8 := fun v' => (hsub (to, fb) hfm hto mj (el ++ [x] ++ new) sj tn v' hkj hsj hsoj hn hairj (by omega)).conv (X' := cel gm 108 (mshC mj ⟨k.vs, k.bs, k.r, va1, ve1⟩) * (rows 115 1 ptrC k.vs k.bs * (mp u32 i64 k.r (amap 0 mj.sts) * (cel b 118 (staC (sj.run (tn.brkF mj.now to)) gn2 vj5) * (rows 5 1 byteC vj5 sj.journal * (nodI gn2 (tn.brkF mj.now to) * (R2 * (rows 114 3 flC va1 mj.air * (rows 68 7 evC ve1 (el ++ [x] ++ new) * outR (tn.brkF mj.now to).out v')))))))))
                      (fun Z => by
                        rw [star_assoc (mshA _ _ _ _)]
                        refine Ent.msh va1 ve1 helj ?_
                        refine Ent.sta gn2 vj5 (e4 _) ?_
                        unfold mshS
                        rw [show amap 0 (mj.mod i fun y => y.run (tn.brkF mj.now to)).sts = amap 0 mj.sts from amap_mod mj i fun s => rfl]
                        simp only [mshC, Ms.mod, staB, staC, Sta.run, ptrN, staN]
                        exact finE) (fun _ _ => Ent.refl _)
                    simp only at p8
                    generalize sub (mj.mod i fun y => y.run (tn.brkF mj.now to)) (tn.brkF mj.now to).out = mn at *
                    generalize tn.brkF mj.now to = t2 at *
                    simp only [outA, mshC, staC, Sta.run, ptrN] at p7 p8
                    simp only [hn, ptrN, staN]
                    repeat' (first | (show WS _ _ _ (.region 12 _ true) _ _; refine WS_drawA (.range 12) (by decide +kernel) rfl ?_) | (show WS _ _ _ (.region 23 _ true) _ _; refine WS_drawK (.range 14) 12 [5, 9, 11] (by decide +kernel) rfl ?_) | (refine WS_seqK ?_; intro K hK) | (refine hK _ ?_; clear hK K) | refine stZ ?_ | (refine s2Z ?_ ?_ <;> intro hc <;> (try simp only [cS] at hc) <;> (try (exfalso; first | contradiction | omega))) | ((first | refine' LQ ?zh rfl ?_ | refine' DL_qp rfl rfl rfl ?zh ?_ | refine' DL_q rfl rfl ?zh ?_); case zh => intro F'; first | exact Q_move rfl | exact Q_assign rfl | exact Q_nilCheck rfl | exact Q_fieldAddr rfl iI rfl | exact Q_load rfl iI iI rfl | exact Q_bin_t rfl rfl iI (by first | assumption | omega | decide | rfl) | exact Q_bin_f rfl rfl iI (by first | assumption | omega | decide | rfl) | exact Q_addI rfl rfl (by omega) | exact Q_extract rfl rfl | exact Q_pick_t rfl iI rfl | exact Q_index rfl rfl iI iI iI iI (by first | assumption | omega | (simp [be_length] <;> omega)) | exact Q_loadRA rfl iI iI iI (by assumption) | exact Q_lookupOk_s rfl rfl iI iI iI iI iI (by assumption)) | ((refine' LQ ?zh rfl ?_); case zh => intro F'; exact Q_bin rfl rfl iI) | ((refine' LS_h0 ?zh ?_); (case zh => exact H_storeA rfl rfl iI iI (by first | rfl | (simp only [List.all_cons, List.all_nil, *]; rfl)) rfl); intro g) | (refine LS_h (H_alloc iI) rfl ?_; intro g8) | (refine' LQ ?zh rfl ?_; (case zh => intro F'; exact Q_indexArr rfl rfl iI iI iI (by assumption))) | (refine' LQ ?zh rfl ?_; (case zh => intro F'; exact Q_load rfl iI iI (by assumption))) | (refine DL_h (H_callX iI rfl p7 iI) rfl rfl rfl ?_; intro x7) | (refine DL_h (H_callX iI rfl (p8 x7) iI) rfl rfl rfl ?_; intro new2))
                    refine ⟨kk - 1, _, by omega, ⟨j + 1, mn, new ++ new2, by omega, htk.symm, hD1, hD2, hD3, by omega, rfl⟩, ⟨rfl, rfl, rfl, rfl, rfl, rfl, trivial⟩, rfl, ?_⟩
                    rw [show el ++ [x] ++ (new ++ new2) = el ++ [x] ++ new ++ new2 by simp, evsO_append]
                    exact finE
                | true =>
                  rw [hh] at hg
                  rw [hfy jj hst hh] at hD1 hD2 hD3 hD4 htk
                  have p7 := fly_spec w0 gm mj ⟨k.vs, k.bs, k.r, va1, ve1⟩ ⟨i, jj, fb⟩ hairj.few
                  simp only [flC, mshC] at p7
                  repeat' (first | (show WS _ _ _ (.region 12 _ true) _ _; refine WS_drawA (.range 12) (by decide +kernel) rfl ?_) | (refine WS_seqK ?_; intro K hK) | (refine hK _ ?_; clear hK K) | refine stZ ?_ | (refine s2Z ?_ ?_ <;> intro hc <;> (try simp only [cS] at hc) <;> (try (exfalso; first | contradiction | omega))) | ((first | refine' LQ ?zh rfl ?_ | refine' DL_q rfl rfl ?zh ?_); case zh => intro F'; first | exact Q_move rfl | exact Q_assign rfl | exact Q_nilCheck rfl | exact Q_fieldAddr rfl iI rfl | exact Q_load rfl iI iI rfl | exact Q_bin_t rfl rfl iI (by first | assumption | omega | decide | rfl) | exact Q_bin_f rfl rfl iI (by first | assumption | omega | decide | rfl) | exact Q_addI rfl rfl (by omega) | exact Q_extract rfl rfl | exact Q_pick_t rfl iI rfl | exact Q_build iI iI rfl rfl | exact Q_index rfl rfl iI iI iI iI (by first | assumption | omega | (simp [be_length] <;> omega)) | exact Q_loadRA rfl iI iI iI (by assumption) | exact Q_lookupOk_s rfl rfl iI iI iI iI iI (by assumption)) | ((refine' LS_h0 ?zh ?_); (case zh => exact H_storeA rfl rfl iI iI (by first | rfl | (simp only [List.all_cons, List.all_nil, *]; rfl)) rfl); intro g) | (refine LS_h (H_alloc iI) rfl ?_; intro g8) | (refine' LQ ?zh rfl ?_; (case zh => intro F'; exact Q_indexArr rfl rfl iI iI iI (by assumption))) | (refine' LQ ?zh rfl ?_; (case zh => intro F'; exact Q_load rfl iI iI (by assumption))) | (refine LS_h (H_callX iI rfl p7 iI) rfl ?_; intro va2))
                  refine ⟨kk - 1, _, by omega, ⟨j + 1, mj.fly ⟨i, jj, fb⟩, new, by omega, htk.symm, hD1, hD2, hD3, by omega, rfl⟩, ⟨rfl, rfl, rfl, rfl, rfl, rfl, trivial⟩, rfl, ?_⟩
                  refine Ent.msh va2 ve1 helj ?_
                  refine Ent.sta (m := mj.fly ⟨i, jj, fb⟩) gn2 vj5 e3 ?_
                  unfold mshS
                  rw [show (mj.fly ⟨i, jj, fb⟩).sts = mj.sts from rfl]
                  simp only [mshC, staB, staC]
                  exact finE
          · obtain rfl : j = fr.length := by omega
            rw [List.take_length] at hmj
            have hj1 : ¬ (fr.length : Int) < (fr.length : Int) := by omega
            repeat' (first | (refine WS_seqK ?_; intro K hK) | (refine hK _ ?_; clear hK K) | refine stZ ?_ | (refine s2Z ?_ ?_ <;> intro hc <;> (try simp only [cS] at hc) <;> (try (exfalso; first | contradiction | omega))) | refine sbZ ?_)
            refine ret_none (.inr rfl) rfl ⟨x :: new, rfl, ?_⟩
            rw [← hmj, show el ++ x :: new = el ++ [x] ++ new by simp, evsO, hx]
            simp only [evO, outR, svV, slV']
            exact finE
      · exact ⟨_, ⟨.slice none 0 0, rfl⟩, ⟨rfl, rfl, rfl, rfl, trivial⟩, rfl, by unfold mshS; simp only [mshC, staB, staC, outR, hc, if_true]; exact finE⟩
      · exact ⟨_, ⟨vj2, rfl⟩, ⟨rfl, rfl, rfl, rfl, trivial⟩, rfl, by unfold mshS; simp only [mshC, staB, staC, outR, hc, Bool.false_eq_true, if_false]; exact finE⟩
theorem emit0_spec (gm : Nat) (k : MH) (i b c : Nat) (hb : k.bs[i]? = some b) (m : Ms) (el : List ES) (o : OutD) (v : Value × Value × Value) (s : Sta) (hs : m.sts[i]? = some s) (hso : s.Says o c) (hpk : ∀ f ∈ o.frames, f.2.length ≤ 100000) (hfl : o.frames.length ≤ 100) (h0 : ∀ f ∈ o.frames, f.1 = 0) (hair : m.AirOk) (hevs : m.evs.length ≤ 890000) (h6 : m.sts.length ≤ 6) :
    Spec Tryz.prog w0 85 [ptr gm 0, .int .i64 (i : Int), outA o v] (mshA gm k m el * outR o v) (fun _ : List ES => .tuple #[]) (fun new => mshA gm k (Ms.emit0 i m o) (el ++ new) * evsO new) :=
  emitR_spec w0 gm k (fun m _ => m) i b c 899000 (by omega) hb m el o v s hs hso hpk (by omega) hair (by omega) h6 (fun f hf hz => absurd (h0 f hf) hz) (fun f hf hz => absurd (h0 f hf) hz)
theorem brkF_few (t : Nd) (now : UInt64) (nb : UInt32) : (t.brkF now nb).out.frames.length ≤ 1 := by
  have h := (Nd.Step.brk (t.begin now) nb).frames
  rw [Nd.begin_frames] at h
  obtain ⟨_, _, _, _, _, _, _, e8, _⟩ := ((t.begin now).brk nb).done_same
  unfold Nd.brkF
  rw [e8]
  simpa using h
theorem emit_spec (gm : Nat) (k : MH) (i b c : Nat) (hb : k.bs[i]? = some b) (m : Ms) (el : List ES) (o : OutD) (v : Value × Value × Value) (s : Sta) (hs : m.sts[i]? = some s) (hso : s.Says o c) (hpk : ∀ f ∈ o.frames, f.2.length ≤ 100000) (hfl : o.frames.length ≤ 100000) (hair : m.AirOk) (hevs : m.evs.length + o.frames.length + 2 ≤ 890000) (h6 : m.sts.length ≤ 6) :
    Spec Tryz.prog w0 85 [ptr gm 0, .int .i64 (i : Int), outA o v] (mshA gm k m el * outR o v) (fun _ : List ES => .tuple #[]) (fun new => mshA gm k (Ms.emit i m o) (el ++ new) * evsO new) := by
  refine emitR_spec w0 gm k (Ms.emit0 i) i b c 890000 (by omega) hb m el o v s hs hso hpk hfl hair hevs h6 (fun f hf hz m' s' t _ h1 h2 ht => ?_) (fun f hf hz m' el' s' t v' hk h1 h2 ht ha he => ?_)
  · have hw := (h2.node t ht).1.wentBrk m'.now f.1
    exact Ms.Did.run (Ms.Did.emit0 (Ms.mod_at h1) (h2.says ht hw) hw.pks.le (Nd.brkF_all _ _ _))
  · have hw := (h2.node t ht).1.wentBrk m'.now f.1
    have hk2 : m'.Kept (m'.mod i (·.run (t.brkF m'.now f.1))) i := Ms.Kept.mod (f := fun x => x.run (t.brkF m'.now f.1)) fun s => rfl
    refine emit0_spec w0 gm k i b c hb _ el' _ v' _ (Ms.mod_at h1) (h2.says ht hw) hw.pks.le (by have := brkF_few t m'.now f.1; omega) (Nd.brkF_all _ _ _) ⟨ha.few, fun x hx => ?_⟩ he (by rw [hk2.length, hk.length]; exact h6)
    rw [hk2.length]
    exact ha.each x hx
end

end Go.Proofs.YtapoehkdnglahabGreat

