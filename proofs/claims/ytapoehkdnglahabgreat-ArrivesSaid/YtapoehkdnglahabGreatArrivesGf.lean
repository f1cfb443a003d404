/- A part of what Arrives needs. -/
import Derived.Test.YtapoehkdnglahabGreatArrivesGe
set_option maxHeartbeats 8000000
set_option linter.unusedVariables false
set_option linter.unusedSimpArgs false
set_option linter.unusedSectionVars false
namespace Go.Proofs.YtapoehkdnglahabGreat
section
open Go.RowKit
theorem u64_0 : u64 0 = .int .u64 0 := rfl
theorem u32_0 : u32 0 = .int .u32 0 := rfl
theorem Q_conv32I {P : Program} {n : Frm} {E : Env} {H : HProp} {w0 : World} {d : Option Tmp} {src t ty : TypeId} {pos : String} {after : Array Edge} {gu : Option (Nat × Bool)} {x : Operand} {v : Value} {a : UInt32} {ds : TypeDesc} (hx : E.ev x = some v) (hv : AsU32 v a) (hs : Und P src ds) (hd : Und P t (.int .i64)) : OpQ P n w0 ⟨d, .convert src t x, ty, pos, after, gu⟩ E H (.int .i64 (a.toNat : Int)) := by
 obtain ⟨rfl⟩ := hv
 exact Q_convI hx hs hd (IntWalk.i64_in _ (by have := a.toNat_lt; omega))
theorem H_clearM {P : Program} {n : Frm} {w0 : World} {E : Env} {H F : HProp} {d : Option Tmp} {x : Operand} {r : Nat} {κ ν : Type} {fk : κ → Value} {fv : ν → Value} {m : List (κ × ν)} {t kt et ty : TypeId} {pos : String} {after : Array Edge} {gu : Option (Nat × Bool)} (hx : E.ev x = some (.map (some r))) (hl : MapOf H r κ ν fk fv m F) (hm : MapT P t kt et) :
  OpH P n w0 ⟨d, .call ⟨.builtin .clear, #[x], #[t]⟩, ty, pos, after, gu⟩ E H (fun _ : Unit => .tuple #[]) (fun _ => mp fk fv r [] * F) := by
 refine OpH.mk' (pre := mp fk fv r m) (post := fun _ => mp fk fv r []) (fun G a w K Q s hs hK => ?_) hl.eq
 obtain ⟨es, clock, hat, h1, h2, h3, hp⟩ := hs.map_at
 have hr : (Builtin.clear_ #[t] ty #[.map (some r)]).run P w = .ok (.tuple #[]) { w with heap := w.heap.setIfInBounds r (.map #[] clock) } := by
  simp [Builtin.clear_, run_underlying hm.eq, run_getObj_map hat, run_setObj_map hat]
 simp only [Oper.wp, execOp, resolve, invoke, builtin, Sem.run_bind, Sem.run_pure, Result.andThen_ok, List.map_toArray, List.map_cons, List.map_nil, s.ev hx, hr, Oper.upon_value]
 exact hK () _ (Sat.map_mk hp.setObj (by simp) (by simp) (by simp))
attribute [local irreducible] WS LS OpQ OpT OpH OpTQ Spec SpecQ cel
variable (w0 : World)
set_option maxRecDepth 100000 in
theorem valid_some {g r : Nat} {self : UInt32} {bs : List (Nat × Nat)} {ls : List Ln} {d : UInt32} {b rb : Nat} {l : Ln} {F : HProp} (hm : mget (lmap bs ls) d = some b) :
    Spec Tryz.prog w0 214 [ptr g 0, u32 d] (cel g 216 [u32 self, .map (some r)] * (mp u32 ptrV r (lmap bs ls) * (cel b 230 (lineC l rb) * F))) (fun _ : Unit => .tuple #[ptr b 0, .bool l.valid]) (fun _ => cel g 216 [u32 self, .map (some r)] * (mp u32 ptrV r (lmap bs ls) * (cel b 230 (lineC l rb) * F))) := by
  refine Spec.enter Tryz.func214 rfl Tryz.ntmps214 rfl fun G => ?_
  simp only [argE, lineC]
  repeat' (first | (show WS _ _ _ (.region 2 _ true) _ _; refine WS_drawA (.range 11) (by decide +kernel) rfl ?_) | (refine WS_seqK ?_; intro K hK) | (refine hK _ ?_; clear hK K) | refine stZ ?_ | refine sqZ ?_ | ((first | refine' LQ ?zh rfl ?_ | refine' DL_q rfl rfl ?zh ?_ | refine' DL_qg rfl rfl rfl ?zh ?_); case zh => intro F'; exact Q_lookupOk_s rfl rfl iI iI iI iI iI (by assumption)))
  exact ret_tmp2 (.inl rfl) rfl rfl rfl ⟨(), rfl, finE⟩
set_option maxRecDepth 100000 in
theorem valid_none {g r : Nat} {self : UInt32} {bs : List (Nat × Nat)} {ls : List Ln} {d : UInt32} {F : HProp} (hm : mget (lmap bs ls) d = none) :
    Spec Tryz.prog w0 214 [ptr g 0, u32 d] (cel g 216 [u32 self, .map (some r)] * (mp u32 ptrV r (lmap bs ls) * F)) (fun _ : Unit => .tuple #[.pointer none, .bool false]) (fun _ => cel g 216 [u32 self, .map (some r)] * (mp u32 ptrV r (lmap bs ls) * F)) := by
  refine Spec.enter Tryz.func214 rfl Tryz.ntmps214 rfl fun G => ?_
  simp only [argE]
  repeat' (first | (show WS _ _ _ (.region 2 _ true) _ _; refine WS_drawA (.range 11) (by decide +kernel) rfl ?_) | (refine WS_seqK ?_; intro K hK) | (refine hK _ ?_; clear hK K) | refine stZ ?_ | refine sqZ ?_ | ((first | refine' LQ ?zh rfl ?_ | refine' DL_q rfl rfl ?zh ?_); case zh => intro F'; exact Q_lookupOk_n rfl rfl iI iI iI iI iI (by assumption)))
  exact ret_tmp2 (.inl rfl) rfl rfl rfl ⟨(), rfl, finE⟩
set_option maxRecDepth 100000 in
theorem end_spec (b rb : Nat) (l : Ln) (s : UInt32) : Spec Tryz.prog w0 168 [ptr b 0, u32 s] (cel b 230 (lineC l rb) * mp u32 unitV rb (bmap l.before)) (fun _ : Unit => .tuple #[]) (fun _ => cel b 230 (lineC (l.ended s) rb) * mp u32 unitV rb (bmap (l.ended s).before)) := by
  have hg := grow_spec w0 l.seq
  refine Spec.enter Tryz.func168 rfl Tryz.ntmps168 rfl fun G => ?_
  simp only [argE, lineC]
  repeat' (first | (refine WS_seqK ?_; intro K hK) | (refine hK _ ?_; clear hK K) | refine stZ ?_ | refine sqZ ?_ | (refine s0Z ?_; intro g) | (refine LS_h (H_callX iI rfl hg iI) rfl ?_; intro u) | (refine LS_h0 (H_clearM rfl iI iI) ?_; intro u))
  exact ret_none (.inr rfl) rfl ⟨(), rfl, by simp only [Ln.ended, growS, bmap, List.map_nil, u64_0]; exact finE⟩
set_option maxRecDepth 100000 in
theorem rank_spec (b rb : Nat) (l : Ln) (h1 : 0 ≤ l.hops) (h2 : l.hops ≤ 1000) : Spec Tryz.prog w0 213 [ptr b 0] (cel b 230 (lineC l rb)) (fun _ : Unit => .tuple #[.int .i64 l.rk, .int .i64 (-l.hops)]) (fun _ => cel b 230 (lineC l rb)) := by
  refine Spec.enter Tryz.func213 rfl Tryz.ntmps213 rfl fun G => ?_
  simp only [argE, lineC]
  have hs := l.seq.toNat_lt
  cases hv : l.valid
  all_goals
    repeat' (first | (show WS _ _ _ (.region 4 _ true) _ _; refine WS_drawA (.range 9) (by decide +kernel) rfl ?_) | (refine WS_seqK ?_; intro K hK) | (refine hK _ ?_; clear hK K) | refine stZ ?_ | (refine s2Z ?_ ?_ <;> intro hc <;> (try simp only [cS] at hc) <;> (try (exfalso; first | contradiction | omega))) | refine sqZ ?_ | ((first | refine' LQ ?zh rfl ?_ | refine' DL_q rfl rfl ?zh ?_); case zh => intro F'; exact Q_negI rfl (by omega)) | (refine LS_q (Q_conv32I rfl iI iI iI) rfl ?_))
  all_goals exact ret_tmp2 (.inl rfl) rfl rfl rfl ⟨(), by simp [Ln.rk, hv], by rw [← hv]; exact finE⟩
set_option maxRecDepth 100000 in
theorem number_specT (g r : Nat) (self : UInt32) (bs : List (Nat × Nat)) (ls : List Ln) (hlen : bs.length = ls.length) (d : UInt32) : Spec Tryz.prog w0 67 [ptr g 0, u32 d] (tabP g r self bs ls) (fun _ : Unit => .tuple #[u32 (numT ls d), .bool (lget ls d).isSome]) (fun _ => tabP g r self bs ls) := by
  have hm' := tab_none (d := d) hlen
  cases hf : lfind ls d with
  | none =>
    have hm := hm' hf
    simp only [numT, lget_none hf, tabP]
    refine Spec.enter Tryz.func67 rfl Tryz.ntmps67 rfl fun G => ?_
    simp only [argE]
    repeat' (first | (refine WS_seqK ?_; intro K hK) | (refine hK _ ?_; clear hK K) | refine stZ ?_ | (refine s2Z ?_ ?_ <;> intro hc <;> (try simp only [cS] at hc) <;> (try (exfalso; first | contradiction | omega))) | refine sqZ ?_ | ((refine' LQ ?zh rfl ?_); case zh => intro F'; exact Q_lookupOk_n rfl rfl iI iI iI iI iI (by assumption)))
    exact ret_tmp2 (.inl rfl) rfl rfl rfl ⟨(), rfl, finE⟩
  | some i =>
    obtain ⟨b, rb, l, F, hl, hd, hm, e, e'⟩ := tab_open (g := g) (r := r) (self := self) hlen hf
    simp only [numT, lget_some hf hl, e, lineC]
    refine Spec.enter Tryz.func67 rfl Tryz.ntmps67 rfl fun G => ?_
    simp only [argE]
    repeat' (first | (refine WS_seqK ?_; intro K hK) | (refine hK _ ?_; clear hK K) | refine stZ ?_ | (refine s2Z ?_ ?_ <;> intro hc <;> (try simp only [cS] at hc) <;> (try (exfalso; first | contradiction | omega))) | refine sqZ ?_ | ((refine' LQ ?zh rfl ?_); case zh => intro F'; exact Q_lookupOk_s rfl rfl iI iI iI iI iI (by assumption)))
    exact ret_tmp2 (.inl rfl) rfl rfl rfl ⟨(), rfl, finE⟩
set_option maxRecDepth 100000 in
theorem bump_specT (g r : Nat) (self : UInt32) (bs : List (Nat × Nat)) (ls : List Ln) (hlen : bs.length = ls.length) (d : UInt32) : Spec Tryz.prog w0 180 [ptr g 0, u32 d] (tabP g r self bs ls) (fun _ : Unit => u32 (numT (bumpT ls d) d)) (fun _ => tabP g r self bs (bumpT ls d)) := by
  have hm' := tab_none (d := d) hlen
  cases hf : lfind ls d with
  | none =>
    have hm := hm' hf
    simp only [bumpT, lmod_none hf, numT, lget_none hf, tabP]
    refine Spec.enter Tryz.func180 rfl Tryz.ntmps180 rfl fun G => ?_
    simp only [argE]
    repeat' (first | (refine WS_seqK ?_; intro K hK) | (refine hK _ ?_; clear hK K) | refine stZ ?_ | (refine s2Z ?_ ?_ <;> intro hc <;> (try simp only [cS] at hc) <;> (try (exfalso; first | contradiction | omega))) | refine sqZ ?_ | ((refine' LQ ?zh rfl ?_); case zh => intro F'; exact Q_lookupOk_n rfl rfl iI iI iI iI iI (by assumption)))
    exact ret_tmp (.inl rfl) rfl rfl ⟨(), rfl, finE⟩
  | some i =>
    obtain ⟨b, rb, l, F, hl, hd, hm, e, e'⟩ := tab_open (g := g) (r := r) (self := self) hlen hf
    have hg := grow_spec w0 l.seq
    have hget : lget (ls.set i { l with seq := growS l.seq }) d = some { l with seq := growS l.seq } := lget_set hf hl hd
    simp only [bumpT, lmod_some hf hl, numT, hget, e, e' { l with seq := growS l.seq } rfl]
    refine Spec.enter Tryz.func180 rfl Tryz.ntmps180 rfl fun G => ?_
    simp only [argE, lineC]
    repeat' (first | (refine WS_seqK ?_; intro K hK) | (refine hK _ ?_; clear hK K) | refine stZ ?_ | (refine s2Z ?_ ?_ <;> intro hc <;> (try simp only [cS] at hc) <;> (try (exfalso; first | contradiction | omega))) | refine sqZ ?_ | ((refine' LQ ?zh rfl ?_); case zh => intro F'; exact Q_lookupOk_s rfl rfl iI iI iI iI iI (by assumption)) | (refine s0Z ?_; intro g) | (refine LS_h (H_callX iI rfl hg iI) rfl ?_; intro u))
    exact ret_tmp (.inl rfl) rfl rfl ⟨(), rfl, by simp only [growS]; exact finE⟩
set_option maxRecDepth 100000 in
theorem use_specT (g r : Nat) (self : UInt32) (bs : List (Nat × Nat)) (ls : List Ln) (hlen : bs.length = ls.length) (d : UInt32) (ex : UInt64) : Spec Tryz.prog w0 173 [ptr g 0, u32 d, u64 ex] (tabP g r self bs ls) (fun _ : Unit => .tuple #[]) (fun _ => tabP g r self bs (useT ls d ex)) := by
  have hm' := tab_none (d := d) hlen
  cases hf : lfind ls d with
  | none =>
    have hm := hm' hf
    simp only [useT, lmod_none hf, tabP]
    have hv := valid_none (w0 := w0) (g := g) (r := r) (self := self) (bs := bs) (ls := ls) (d := d) (F := linesP bs ls) hm
    refine Spec.enter Tryz.func173 rfl Tryz.ntmps173 rfl fun G => ?_
    simp only [argE]
    repeat' (first | (refine WS_seqK ?_; intro K hK) | (refine hK _ ?_; clear hK K) | refine stZ ?_ | (refine s2Z ?_ ?_ <;> intro hc <;> (try simp only [cS] at hc) <;> (try (exfalso; first | contradiction | omega))) | refine sqZ ?_ | (refine LS_h (H_callX iI rfl hv iI) rfl ?_; intro u))
    exact ret_none (.inr rfl) rfl ⟨(), rfl, finE⟩
  | some i =>
    obtain ⟨b, rb, l, F, hl, hd, hm, e, e'⟩ := tab_open (g := g) (r := r) (self := self) hlen hf
    have hv := valid_some (w0 := w0) (g := g) (r := r) (self := self) (bs := bs) (ls := ls) (d := d) (l := l) (rb := rb) (F := mp u32 unitV rb (bmap l.before) * F) hm
    cases hva : l.valid
    all_goals
      rw [hva] at hv
      simp only [useT, lmod_some hf hl, hva]
      simp only [Bool.false_eq_true, if_false, if_true]
      refine Spec.enter Tryz.func173 rfl Tryz.ntmps173 rfl fun G => ?_
      simp only [argE, e, lineC, hva] at hv ⊢
      repeat' (first | (refine WS_seqK ?_; intro K hK) | (refine hK _ ?_; clear hK K) | refine stZ ?_ | (refine s2Z ?_ ?_ <;> intro hc <;> (try simp only [cS] at hc) <;> (try (exfalso; first | contradiction | omega))) | refine sqZ ?_ | ((refine' LQ ?zh rfl ?_); case zh => intro F'; exact Q_max64 rfl rfl iI iI) | (refine s0Z ?_; intro g) | (refine LS_h (H_callX iI rfl hv iI) rfl ?_; intro u))
    · exact ret_none (.inr rfl) rfl ⟨(), rfl, by rw [e' l rfl]; simp only [lineC, hva]; exact finE⟩
    · exact ret_none (.inr rfl) rfl ⟨(), rfl, by rw [e' ⟨l.dest, l.seq, l.hops, l.next, true, max l.expires ex, l.before⟩ rfl]; simp only [lineC, hva]; exact finE⟩
end

section
open Go.RowKit
def sortU (l : List UInt32) : List UInt32 := l.mergeSort (fun a b => decide (a.toNat ≤ b.toNat))
theorem rise_sortU (l : List UInt32) : rise (sortU l) := by
 have := List.pairwise_mergeSort (le := fun a b : UInt32 => decide (a.toNat ≤ b.toNat)) (by intro a b c h1 h2; simp at *; omega) (by intro a b; simp; omega) l
 exact this.imp (by simp)
theorem sortU_eq {l l0 : List UInt32} (hp : l0.Perm l) (s : SortedU l0) : s.l' = sortU l :=
 List.Perm.eq_of_pairwise (fun a b _ _ h1 h2 => UInt32.toNat_inj.1 (Nat.le_antisymm h1 h2)) s.rise (rise_sortU l) ((s.perm.trans hp).trans (List.mergeSort_perm l _).symm)
theorem bmap_fst (l : List UInt32) : (bmap l).map (·.1) = l := by simp [bmap, Function.comp_def]
theorem bmap_length (l : List UInt32) : (bmap l).length = l.length := by simp [bmap]
@[reducible] def befV (l : Ln) (p : Option Addr × Nat) : Value := .slice p.1 (sortU l.before).length p.2
theorem LS_formR {P : Program} {n : Frm} {w0 : World} {E : Env} {D : List Deferred} {H : HProp} {ops : Array Oper} {l' : List Oper} {Q : Exit → St → Prop} {α : Type} {size : Nat} {f : α → List Value} {l : List α} (v : Value) (hl : Rdr w0 H v α size f l) (h : ∀ A cap, v = .slice A l.length cap → LS P n w0 ops Q l' ⟨E, D, H⟩) : LS P n w0 ops Q l' ⟨E, D, H⟩ := fun a w g => by
 obtain ⟨A, c, e, _⟩ := (hl.at_ w g.sat).form
 exact h A c e a w g
attribute [local irreducible] WS LS OpQ OpT OpH OpTQ Spec SpecQ cel
variable (w0 : World)
set_option maxRecDepth 100000 in
theorem copied_spec (b rb : Nat) (l : Ln) (hb : l.before.length ≤ 12) : Spec Tryz.prog w0 123 [ptr b 0] (cel b 230 (lineC l rb) * mp u32 unitV rb (bmap l.before)) (fun p : Option Addr × Nat => .agg (routeC l (befV l p)).toArray) (fun p => rows 26 1 wordC (befV l p) (sortU l.before) * (cel b 230 (lineC l rb) * mp u32 unitV rb (bmap l.before))) := by
  have hk := keysBf_spec w0 rb
  have hs : ∀ gk, Spec Tryz.prog w0 181 [.func (.func 219) #[] [ptr gk 0].toArray] (cel gk 228 [.map (some rb)] * mp u32 unitV rb (bmap l.before)) (fun p : Value × (l : List UInt32) × SortedU l => p.1) (fun p => pure' (p.2.1.Perm ((bmap l.before).map (·.1))) * (rows 26 1 wordC p.1 p.2.2.l' * (cel gk 228 [.map (some rb)] * mp u32 unitV rb (bmap l.before)))) := fun gk =>
    sorted32_spec w0 iI (keysB_iter w0 (bmap l.before) rb gk) (fun xs hx => by have := hx.length_eq; simp [bmap_length] at this; omega)
  refine Spec.enter Tryz.func123 rfl Tryz.ntmps123 rfl fun G => ?_
  simp only [argE, lineC]
  repeat' (first | (refine WS_seqK ?_; intro K hK) | (refine hK _ ?_; clear hK K) | refine stZ ?_ | refine sqZ ?_ | (refine shZ ?_; intro g) | (refine s0Z ?_; intro g) | (refine LS_h (H_callX iI rfl hk iI) rfl ?_; intro gk) | (refine LS_h (H_callX iI rfl (hs gk) iI) rfl ?_; rintro ⟨v, l0, sk⟩; refine LS_pureI iI fun hp => ?_; dsimp only; refine LS_formR v iI fun A cap hv => ?_; subst hv))
  have hp' : l0.Perm l.before := by rw [← bmap_fst l.before]; exact hp
  refine ret_1 (.inl rfl) rfl (RV_cell rfl iI iI rfl) ⟨(A, cap), by simp only [befV, ← sortU_eq hp' sk]; rfl, ?_⟩
  simp only [befV]
  rw [← sortU_eq hp' sk]
  exact finE
set_option maxRecDepth 100000 in
theorem put_specT (gt r : Nat) (self : UInt32) (bs : List (Nat × Nat)) (ls : List Ln) (hlen : bs.length = ls.length) (x : Ln) (hx : x.before = []) : Spec Tryz.prog w0 110 [ptr gt 0, .agg (routeC x (.slice none 0 0)).toArray] (tabP gt r self bs ls) (fun _ : Unit => .tuple #[]) (fun _ => tabQ gt self (putT ls x)) := by
  have hxb : bmap x.before = [] := by rw [hx]; rfl
  refine Spec.enter Tryz.func110 rfl Tryz.ntmps110 rfl fun G => ?_
  simp only [argE, routeC, tabP]
  repeat' (first | (show WS _ _ _ (.region 1 _ true) _ _; refine WS_drawK (.range 11) 10 [3, 5, 6] (by decide +kernel) rfl ?_) | (refine WS_seqK ?_; intro K hK) | (refine hK _ ?_; clear hK K) | refine stZ ?_ | refine sqZ ?_ | (refine shZ ?_; intro g) | ((refine' DL_h0 ?zh rfl rfl ?_); (case zh => exact H_mapUpdate rfl rfl rfl iI iI iI iI iI); intro g) | (refine DL_h (H_makeMap u32 unitV) rfl rfl rfl ?_; intro rb))
  rename_i bx bn
  refine ret_none (.inr rfl) rfl ⟨(), rfl, ?_⟩
  cases hf : lfind ls x.dest with
  | none =>
    have e1 : putT ls x = ls ++ [x] := by simp only [putT, hf]
    rw [e1, lmap_put_none (bn, rb) hlen hf]
    refine Ent.tabQ (r := r) (bs := bs ++ [(bn, rb)]) (by simp [hlen]) ?_
    unfold tabP
    rw [linesP_snoc (bn, rb) x hlen]
    simp only [linP, lineC, hxb]
    exact finE
  | some i =>
    have e1 : putT ls x = ls.set i x := by simp only [putT, hf]
    obtain ⟨l, hl, hd⟩ := lfind_some hf
    obtain ⟨b, hb⟩ : ∃ b, bs[i]? = some b := ⟨_, List.getElem?_eq_getElem (by rw [hlen]; exact (List.getElem?_eq_some_iff.1 hl).1)⟩
    obtain ⟨F, h1, h2⟩ := linesP_hole2 hb hl
    rw [e1, lmap_put_some (bn, rb) hlen hf, h1]
    refine Ent.tabQ (r := r) (bs := bs.set i (bn, rb)) (by simp [hlen]) ?_
    unfold tabP
    rw [h2 (bn, rb) x]
    simp only [linP, lineC, hxb]
    exact finE
end

section
open Go.RowKit
def Ln.zero : Ln := ⟨0, 0, 0, 0, false, 0, []⟩
def findV (o : Option Ln) (p : Option Addr × Nat) : Value := match o with
 | some l => .tuple #[.agg (routeC l (befV l p)).toArray, .bool true]
 | none => .tuple #[.agg (routeC Ln.zero (.slice none 0 0)).toArray, .bool false]
def findH (o : Option Ln) (p : Option Addr × Nat) : HProp := match o with
 | some l => rows 26 1 wordC (befV l p) (sortU l.before)
 | none => emp
theorem bmap_set (bs : List UInt32) (n : UInt32) : mset (bmap bs) n () = bmap (setB bs n) := by
 unfold setB
 have : ∀ m : List (UInt32 × Unit), m = bmap (m.map (·.1)) := fun m => by
  simp only [bmap, List.map_map]
  induction m with
  | nil => rfl
  | cons x m ih => rw [List.map_cons, ← ih]; rfl
 exact this _
attribute [local irreducible] WS LS OpQ OpT OpH OpTQ Spec SpecQ cel
variable (w0 : World)
set_option maxRecDepth 100000 in
theorem find_specT (gt r : Nat) (self : UInt32) (bs : List (Nat × Nat)) (ls : List Ln) (hlen : bs.length = ls.length) (hb : ∀ l ∈ ls, l.before.length ≤ 12) (d : UInt32) (now : UInt64) :
    Spec Tryz.prog w0 175 [ptr gt 0, u32 d, u64 now] (tabP gt r self bs ls) (fun p : Option Addr × Nat => findV (lookT ls d now) p) (fun p => findH (lookT ls d now) p * tabP gt r self bs ls) := by
  have hm' := tab_none (d := d) hlen
  refine Spec.enter Tryz.func175 rfl Tryz.ntmps175 rfl fun G => ?_
  simp only [argE]
  cases hf : lfind ls d with
  | none =>
    have hm := hm' hf
    have hv := valid_none (w0 := w0) (g := gt) (r := r) (self := self) (bs := bs) (ls := ls) (d := d) (F := linesP bs ls) hm
    have hres : lookT ls d now = none := by simp [lookT, lget_none hf]
    simp only [hres, findV, findH, tabP]
    repeat' (first | (refine WS_seqK ?_; intro K hK) | (refine hK _ ?_; clear hK K) | refine stZ ?_ | (refine s2Z ?_ ?_ <;> intro hc <;> (try simp only [cS] at hc) <;> (try (exfalso; first | contradiction | omega))) | refine sqZ ?_ | (refine shZ ?_; intro g) | (refine s0Z ?_; intro g) | (refine LS_h (H_callX iI rfl hv iI) rfl ?_; intro u))
    exact ret_2 (.inl rfl) rfl (RV_cell rfl iI iI rfl) (RV_tmp rfl) ⟨(none, 0), rfl, finE⟩
  | some i =>
    obtain ⟨b, rb, l, F, hl, hd, hm, e, e'⟩ := tab_open (g := gt) (r := r) (self := self) hlen hf
    have hv := valid_some (w0 := w0) (g := gt) (r := r) (self := self) (bs := bs) (ls := ls) (d := d) (l := l) (rb := rb) (F := mp u32 unitV rb (bmap l.before) * F) hm
    have hc := copied_spec w0 b rb l (hb l (List.mem_of_getElem? hl))
    simp only [lineC, routeC] at hv hc
    by_cases h1 : l.valid = true
    · by_cases h2 : l.expires ≤ now
      · have hres : lookT ls d now = none := by
          have : ¬ now < l.expires := by rw [UInt64.lt_iff_toNat_lt]; have := UInt64.le_iff_toNat_le.1 h2; omega
          simp [lookT, lget_some hf hl, this]
        simp only [hres, findV, findH, e, lineC]
        rw [h1] at hv ⊢
        repeat' (first | (refine WS_seqK ?_; intro K hK) | (refine hK _ ?_; clear hK K) | refine stZ ?_ | (refine s2Z ?_ ?_ <;> intro hc <;> (try simp only [cS] at hc) <;> (try (exfalso; first | contradiction | omega))) | refine sbZ ?_ | refine sqZ ?_ | (refine shZ ?_; intro g) | (refine s0Z ?_; intro g) | (refine LS_h (H_callX iI rfl hv iI) rfl ?_; intro u))
        exact ret_2 (.inl rfl) rfl (RV_cell rfl iI iI rfl) (RV_tmp rfl) ⟨(none, 0), rfl, finE⟩
      · have hres : lookT ls d now = some l := by
          have : now < l.expires := by rw [UInt64.lt_iff_toNat_lt]; have := mt UInt64.le_iff_toNat_le.2 h2; omega
          simp [lookT, lget_some hf hl, this, h1]
        simp only [hres, findV, findH, e, lineC, routeC]
        rw [h1] at hv hc ⊢
        repeat' (first | (refine WS_seqK ?_; intro K hK) | (refine hK _ ?_; clear hK K) | refine stZ ?_ | (refine s2Z ?_ ?_ <;> intro hc <;> (try simp only [cS] at hc) <;> (try (exfalso; first | contradiction | omega))) | refine sbZ ?_ | refine sqZ ?_ | (refine shZ ?_; intro g) | (refine s0Z ?_; intro g) | (refine LS_h (H_callX iI rfl hv iI) rfl ?_; intro u) | (refine LS_h (H_callX iI rfl hc iI) rfl ?_; intro vb))
        exact ret_2 (.inl rfl) rfl (RV_cell rfl iI iI rfl) (RV_tmp rfl) ⟨vb, rfl, finE⟩
    · have h1' : l.valid = false := by simpa using h1
      have hres : lookT ls d now = none := by simp [lookT, lget_some hf hl, h1']
      simp only [hres, findV, findH, e, lineC]
      rw [h1'] at hv ⊢
      repeat' (first | (refine WS_seqK ?_; intro K hK) | (refine hK _ ?_; clear hK K) | refine stZ ?_ | (refine s2Z ?_ ?_ <;> intro hc <;> (try simp only [cS] at hc) <;> (try (exfalso; first | contradiction | omega))) | refine sqZ ?_ | (refine shZ ?_; intro g) | (refine s0Z ?_; intro g) | (refine LS_h (H_callX iI rfl hv iI) rfl ?_; intro u))
      exact ret_2 (.inl rfl) rfl (RV_cell rfl iI iI rfl) (RV_tmp rfl) ⟨(none, 0), rfl, finE⟩
set_option maxRecDepth 100000 in
theorem before_specT (gt r : Nat) (self : UInt32) (bs : List (Nat × Nat)) (ls : List Ln) (hlen : bs.length = ls.length) (d nb : UInt32) :
    Spec Tryz.prog w0 176 [ptr gt 0, u32 d, u32 nb] (tabP gt r self bs ls) (fun _ : Unit => .tuple #[]) (fun _ => tabP gt r self bs (befT ls d nb)) := by
  have hm' := tab_none (d := d) hlen
  refine Spec.enter Tryz.func176 rfl Tryz.ntmps176 rfl fun G => ?_
  simp only [argE]
  cases hf : lfind ls d with
  | none =>
    have hm := hm' hf
    have hv := valid_none (w0 := w0) (g := gt) (r := r) (self := self) (bs := bs) (ls := ls) (d := d) (F := linesP bs ls) hm
    simp only [befT, lmod_none hf, tabP]
    repeat' (first | (refine WS_seqK ?_; intro K hK) | (refine hK _ ?_; clear hK K) | refine stZ ?_ | (refine s2Z ?_ ?_ <;> intro hc <;> (try simp only [cS] at hc) <;> (try (exfalso; first | contradiction | omega))) | refine sqZ ?_ | (refine LS_h (H_callX iI rfl hv iI) rfl ?_; intro u))
    exact ret_none (.inr rfl) rfl ⟨(), rfl, finE⟩
  | some i =>
    obtain ⟨b, rb, l, F, hl, hd, hm, e, e'⟩ := tab_open (g := gt) (r := r) (self := self) hlen hf
    have hv := valid_some (w0 := w0) (g := gt) (r := r) (self := self) (bs := bs) (ls := ls) (d := d) (l := l) (rb := rb) (F := mp u32 unitV rb (bmap l.before) * F) hm
    have hbl := bmap_length l.before
    by_cases h1 : l.valid = true
    · by_cases h2 : l.before.length < 4
      · have hres : befT ls d nb = ls.set i { l with before := setB l.before nb } := by simp [befT, lmod_some hf hl, h1, h2]
        rw [hres, e' { l with before := setB l.before nb } rfl, e]
        simp only [lineC] at hv ⊢
        rw [h1] at hv ⊢
        repeat' (first | (refine WS_seqK ?_; intro K hK) | (refine hK _ ?_; clear hK K) | refine stZ ?_ | (refine s2Z ?_ ?_ <;> intro hc <;> (try simp only [cS] at hc) <;> (try (exfalso; first | contradiction | omega))) | refine sbZ ?_ | refine sqZ ?_ | ((refine' LS_h0 ?zh ?_); (case zh => exact H_mapUpdate rfl rfl rfl iI iI iI iI iI); intro g) | (refine LS_h (H_callX iI rfl hv iI) rfl ?_; intro u))
        exact ret_none (.inr rfl) rfl ⟨(), rfl, by rw [bmap_set]; exact finE⟩
      · have hres : befT ls d nb = ls.set i l := by simp [befT, lmod_some hf hl, h2]
        rw [hres, e' l rfl, e]
        simp only [lineC] at hv ⊢
        rw [h1] at hv ⊢
        repeat' (first | (refine WS_seqK ?_; intro K hK) | (refine hK _ ?_; clear hK K) | refine stZ ?_ | (refine s2Z ?_ ?_ <;> intro hc <;> (try simp only [cS] at hc) <;> (try (exfalso; first | contradiction | omega))) | refine sbZ ?_ | refine sqZ ?_ | (refine LS_h (H_callX iI rfl hv iI) rfl ?_; intro u))
        exact ret_none (.inr rfl) rfl ⟨(), rfl, finE⟩
    · have h1' : l.valid = false := by simpa using h1
      have hres : befT ls d nb = ls.set i l := by simp [befT, lmod_some hf hl, h1']
      rw [hres, e' l rfl, e]
      simp only [lineC] at hv ⊢
      rw [h1'] at hv ⊢
      repeat' (first | (refine WS_seqK ?_; intro K hK) | (refine hK _ ?_; clear hK K) | refine stZ ?_ | (refine s2Z ?_ ?_ <;> intro hc <;> (try simp only [cS] at hc) <;> (try (exfalso; first | contradiction | omega))) | refine sqZ ?_ | (refine LS_h (H_callX iI rfl hv iI) rfl ?_; intro u))
      exact ret_none (.inr rfl) rfl ⟨(), rfl, finE⟩
set_option maxRecDepth 100000 in
theorem lose_specT (gt r : Nat) (self : UInt32) (bs : List (Nat × Nat)) (ls : List Ln) (hlen : bs.length = ls.length) (src d s : UInt32) :
    Spec Tryz.prog w0 178 [ptr gt 0, u32 src, .agg #[u32 d, u32 s]] (tabP gt r self bs ls) (fun _ : Unit => .tuple #[u32 (if losesT ls src d then numT (loseT ls src d s) d else 0), .bool (losesT ls src d), .bool (losesT ls src d && decide (0 < ((lget ls d).getD Ln.zero).before.length))]) (fun _ => tabP gt r self bs (loseT ls src d s)) := by
  have hm' := tab_none (d := d) hlen
  refine Spec.enter Tryz.func178 rfl Tryz.ntmps178 rfl fun G => ?_
  simp only [argE]
  cases hf : lfind ls d with
  | none =>
    have hm := hm' hf
    have hv := valid_none (w0 := w0) (g := gt) (r := r) (self := self) (bs := bs) (ls := ls) (d := d) (F := linesP bs ls) hm
    have hl0 : losesT ls src d = false := by simp [losesT, lget_none hf]
    simp only [hl0, loseT, lmod_none hf, tabP, Bool.false_and, Bool.false_eq_true, if_false, u32_0]
    repeat' (first | (refine WS_seqK ?_; intro K hK) | (refine hK _ ?_; clear hK K) | refine stZ ?_ | (refine s2Z ?_ ?_ <;> intro hc <;> (try simp only [cS] at hc) <;> (try (exfalso; first | contradiction | omega))) | refine sqZ ?_ | (refine shZ ?_; intro g) | (refine LS_h (H_callX iI rfl hv iI) rfl ?_; intro u))
    exact ret_3 (.inl rfl) rfl (RV_tmp rfl) (RV_tmp rfl) (RV_tmp rfl) ⟨(), rfl, finE⟩
  | some i =>
    obtain ⟨b, rb, l, F, hl, hd, hm, e, e'⟩ := tab_open (g := gt) (r := r) (self := self) hlen hf
    have hv := valid_some (w0 := w0) (g := gt) (r := r) (self := self) (bs := bs) (ls := ls) (d := d) (l := l) (rb := rb) (F := mp u32 unitV rb (bmap l.before) * F) hm
    have hbl := bmap_length l.before
    by_cases h1 : l.valid = true
    · by_cases h2 : l.next = src
      · have hl0 : losesT ls src d = true := by simp [losesT, lget_some hf hl, h1, h2]
        have hres : loseT ls src d s = ls.set i (l.ended s) := by simp [loseT, lmod_some hf hl, h1, h2]
        have hgt : lget (ls.set i (l.ended s)) d = some (l.ended s) := lget_set hf hl hd
        have hgl : lget ls d = some l := lget_some hf hl
        have hen := end_spec w0 b rb l s
        simp only [hl0, hres, e' (l.ended s) rfl, e, numT, hgt, hgl, Option.getD_some, Bool.true_and, if_true]
        simp only [lineC] at hv hen ⊢
        rw [h1] at hv hen ⊢
        by_cases h3 : 0 < l.before.length
        · rw [decide_eq_true h3]
          repeat' (first | (refine WS_seqK ?_; intro K hK) | (refine hK _ ?_; clear hK K) | refine stZ ?_ | (refine s2Z ?_ ?_ <;> intro hc <;> (try simp only [cS] at hc) <;> (try (exfalso; first | contradiction | omega))) | refine sbZ ?_ | refine sqZ ?_ | (refine shZ ?_; intro g) | (refine LS_h (H_callX iI rfl hv iI) rfl ?_; intro u) | (refine LS_h (H_callX iI rfl hen iI) rfl ?_; intro u))
          exact ret_3 (.inl rfl) rfl (RV_tmp rfl) (RV_tmp rfl) (RV_tmp rfl) ⟨(), rfl, finE⟩
        · rw [decide_eq_false h3]
          repeat' (first | (refine WS_seqK ?_; intro K hK) | (refine hK _ ?_; clear hK K) | refine stZ ?_ | (refine s2Z ?_ ?_ <;> intro hc <;> (try simp only [cS] at hc) <;> (try (exfalso; first | contradiction | omega))) | refine sbZ ?_ | refine sqZ ?_ | (refine shZ ?_; intro g) | (refine LS_h (H_callX iI rfl hv iI) rfl ?_; intro u) | (refine LS_h (H_callX iI rfl hen iI) rfl ?_; intro u))
          exact ret_3 (.inl rfl) rfl (RV_tmp rfl) (RV_tmp rfl) (RV_tmp rfl) ⟨(), rfl, finE⟩
      · have hl0 : losesT ls src d = false := by simp [losesT, lget_some hf hl, h2]
        have hres : loseT ls src d s = ls.set i l := by simp [loseT, lmod_some hf hl, h2]
        simp only [hl0, hres, e' l rfl, e, Bool.false_and, Bool.false_eq_true, if_false, u32_0]
        simp only [lineC] at hv ⊢
        rw [h1] at hv ⊢
        repeat' (first | (refine WS_seqK ?_; intro K hK) | (refine hK _ ?_; clear hK K) | refine stZ ?_ | (refine s2Z ?_ ?_ <;> intro hc <;> (try simp only [cS] at hc) <;> (try (exfalso; first | contradiction | omega))) | refine sbZ ?_ | refine sqZ ?_ | (refine shZ ?_; intro g) | (refine LS_h (H_callX iI rfl hv iI) rfl ?_; intro u))
        exact ret_3 (.inl rfl) rfl (RV_tmp rfl) (RV_tmp rfl) (RV_tmp rfl) ⟨(), rfl, finE⟩
    · have h1' : l.valid = false := by simpa using h1
      have hl0 : losesT ls src d = false := by simp [losesT, lget_some hf hl, h1']
      have hres : loseT ls src d s = ls.set i l := by simp [loseT, lmod_some hf hl, h1']
      simp only [hl0, hres, e' l rfl, e, Bool.false_and, Bool.false_eq_true, if_false, u32_0]
      simp only [lineC] at hv ⊢
      rw [h1'] at hv ⊢
      repeat' (first | (refine WS_seqK ?_; intro K hK) | (refine hK _ ?_; clear hK K) | refine stZ ?_ | (refine s2Z ?_ ?_ <;> intro hc <;> (try simp only [cS] at hc) <;> (try (exfalso; first | contradiction | omega))) | refine sqZ ?_ | (refine shZ ?_; intro g) | (refine LS_h (H_callX iI rfl hv iI) rfl ?_; intro u))
      exact ret_3 (.inl rfl) rfl (RV_tmp rfl) (RV_tmp rfl) (RV_tmp rfl) ⟨(), rfl, finE⟩
end

section
open Go.RowKit
theorem mem_eraseIdx_nodup {α : Type} {l : List α} {i : Nat} {k x : α} (hn : l.Nodup) (h : l[i]? = some k) : x ∈ l.eraseIdx i ↔ x ∈ l ∧ x ≠ k := by
 obtain ⟨hlt, he⟩ := List.getElem?_eq_some_iff.1 h
 have hp : (k :: l.eraseIdx i).Perm l := he ▸ List.getElem_cons_eraseIdx_perm' hlt
 have hn2 := (hp.nodup_iff).2 hn
 rw [← hp.mem_iff, List.mem_cons]
 constructor
 ·intro hx; exact ⟨.inr hx, fun e => (List.nodup_cons.1 hn2).1 (e ▸ hx)⟩
 ·rintro ⟨rfl | hx, hne⟩
  ·exact absurd rfl hne
  ·exact hx
def dests (ls : List Ln) : List UInt32 := ls.map (·.dest)
theorem lmap_fst : ∀ {bs : List (Nat × Nat)} {ls : List Ln}, bs.length = ls.length → (lmap bs ls).map (·.1) = dests ls
 | [], [], _ => rfl
 | b :: bs, l :: ls, h => by
  show l.dest :: (lmap bs ls).map (·.1) = _
  rw [lmap_fst (by simpa using h)]; rfl
 | [], _ :: _, h => by simp at h
 | _ :: _, [], h => by simp at h
theorem lfind_nodup : ∀ {ls : List Ln} {j : Nat} {l : Ln}, (dests ls).Nodup → ls[j]? = some l → lfind ls l.dest = some j
 | [], _, _, _, h => by simp at h
 | x :: ls, 0, l, hn, h => by simp at h; subst h; simp [lfind]
 | x :: ls, j + 1, l, hn, h => by
  have hl : ls[j]? = some l := by simpa using h
  have hne : x.dest ≠ l.dest := fun e => (List.nodup_cons.1 hn).1 (by show x.dest ∈ _; rw [e]; exact List.mem_map.2 ⟨l, List.mem_of_getElem? hl, rfl⟩)
  simp only [lfind, if_neg hne]
  rw [lfind_nodup (List.nodup_cons.1 hn).2 hl]; rfl
def halfE (now : UInt64) (left : List (UInt32 × Nat)) (ls : List Ln) : List Ln := ls.map fun l => if l.dest ∈ left.map (·.1) then l else l.exp now
theorem halfE_all {now : UInt64} {bs : List (Nat × Nat)} {ls : List Ln} (hlen : bs.length = ls.length) : halfE now (lmap bs ls) ls = ls := by
 unfold halfE
 rw [lmap_fst hlen]
 conv => rhs; rw [← List.map_id ls]
 apply List.map_congr_left
 intro l hl
 have : l.dest ∈ dests ls := List.mem_map.2 ⟨l, hl, rfl⟩
 rw [if_pos this]; rfl
theorem halfE_nil {now : UInt64} {ls : List Ln} : halfE now [] ls = expT now ls := by
 unfold halfE expT; simp
theorem exp_dest (now : UInt64) (l : Ln) : (l.exp now).dest = l.dest := by unfold Ln.exp; split <;> rfl
theorem halfE_lmap {now : UInt64} {left : List (UInt32 × Nat)} {bs : List (Nat × Nat)} {ls : List Ln} : lmap bs (halfE now left ls) = lmap bs ls := by
 apply List.ext_getElem?
 intro j
 simp only [lmap, halfE, List.getElem?_zipWith, List.getElem?_map]
 cases bs[j]? <;> cases ls[j]? <;> simp only [Option.map_some, Option.map_none]
 rename_i b l
 split <;> simp [exp_dest]
theorem halfE_lmapE {now : UInt64} {bs : List (Nat × Nat)} {ls : List Ln} : lmap bs (expT now ls) = lmap bs ls := by
 have := halfE_lmap (now := now) (left := []) (bs := bs) (ls := ls)
 rwa [halfE_nil] at this
theorem halfE_step {now : UInt64} {left : List (UInt32 × Nat)} {ls : List Ln} {i j : Nat} {k : UInt32} {b : Nat} {l : Ln} (hn : (dests ls).Nodup) (hnl : (left.map (·.1)).Nodup) (hi : left[i]? = some (k, b)) (hl : ls[j]? = some l) (hk : l.dest = k) :
  (halfE now left ls)[j]? = some l ∧ (halfE now left ls).set j (l.exp now) = halfE now (left.eraseIdx i) ls := by
 have hmem : k ∈ left.map (·.1) := List.mem_map.2 ⟨_, List.mem_of_getElem? hi, rfl⟩
 have herase : ∀ x, x ∈ (left.eraseIdx i).map (·.1) ↔ x ∈ left.map (·.1) ∧ x ≠ k := by
  intro x
  have h2 : (left.eraseIdx i).map (·.1) = (left.map (·.1)).eraseIdx i := map_eraseIdx' _ _ _
  have h3 : (left.map (·.1))[i]? = some k := by simp [hi]
  rw [h2, mem_eraseIdx_nodup hnl h3]
 refine ⟨by simp only [halfE, List.getElem?_map, hl, Option.map_some]; rw [if_pos (hk ▸ hmem)], ?_⟩
 apply List.ext_getElem?
 intro m
 have hlt := (List.getElem?_eq_some_iff.1 hl).1
 rw [List.getElem?_set]
 simp only [halfE, List.getElem?_map, List.length_map]
 by_cases e : j = m
 ·subst e
  rw [if_pos rfl, if_pos hlt, hl, Option.map_some, if_neg]
  rw [herase, hk]; simp
 ·rw [if_neg e]
  cases hm : ls[m]? with
  | none => rfl
  | some x =>
   simp only [Option.map_some]
   have hne : x.dest ≠ k := fun hx => e (by
    have h1 := lfind_nodup hn hl
    have h2 := lfind_nodup hn hm
    rw [hk] at h1; rw [hx, h1] at h2; exact Option.some.inj h2)
   congr 1
   by_cases hx : x.dest ∈ left.map (·.1)
   ·rw [if_pos hx, if_pos ((herase _).2 ⟨hx, hne⟩)]
   ·rw [if_neg hx, if_neg (fun h => hx ((herase _).1 h).1)]
theorem lmap_mem {bs : List (Nat × Nat)} {ls : List Ln} {k : UInt32} {b : Nat} (h : (k, b) ∈ lmap bs ls) : ∃ (j rb : Nat) (l : Ln), ls[j]? = some l ∧ bs[j]? = some (b, rb) ∧ l.dest = k := by
 obtain ⟨j, hj⟩ := List.getElem?_of_mem h
 simp only [lmap, List.getElem?_zipWith] at hj
 cases hb : bs[j]? with
 | none => rw [hb] at hj; simp at hj
 | some b0 =>
  cases hl : ls[j]? with
  | none => rw [hb, hl] at hj; simp at hj
  | some l =>
   rw [hb, hl] at hj
   simp only [Option.some.injEq, Prod.mk.injEq] at hj
   obtain ⟨b1, rb⟩ := b0
   exact ⟨j, rb, l, hl, by simp only at hj; rw [← hj.2]; exact hb, hj.1⟩
attribute [local irreducible] WS LS OpQ OpT OpH OpTQ Spec SpecQ cel
variable (w0 : World)
set_option maxRecDepth 100000 in
theorem expire_specT (gt r : Nat) (self : UInt32) (bs : List (Nat × Nat)) (ls : List Ln) (hlen : bs.length = ls.length) (hn : (dests ls).Nodup) (now : UInt64) :
    Spec Tryz.prog w0 115 [ptr gt 0, u64 now] (tabP gt r self bs ls) (fun _ : Unit => .tuple #[]) (fun _ => tabP gt r self bs (expT now ls)) := by
  refine Spec.enter Tryz.func115 rfl Tryz.ntmps115 rfl fun G => ?_
  simp only [argE, tabP]
  repeat' (first | (refine WS_seqK ?_; intro K hK) | (refine hK _ ?_; clear hK K) | refine stZ ?_ | refine sqZ ?_ | (refine LS_h (H_range rfl iI iI) rfl ?_; intro it))
  refine WS_loop (fun k τ => ∃ (left : List (UInt32 × Nat)) (cur : Option (UInt32 × Nat)), left.length = k ∧ left.Sublist (lmap bs ls) ∧ τ = ⟨[(10, ptr it 0), (1, u64 now)], [], mpi u32 ptrV r it (lmap bs ls) left cur * (linesP bs (halfE now left ls) * (cel gt 216 [u32 self, .map (some r)] * G))⟩) ?_ ?_
  · exact ⟨_, _, ⟨lmap bs ls, none, rfl, List.Sublist.refl _, rfl⟩, ⟨rfl, rfl, trivial⟩, rfl, by rw [halfE_all hlen]; exact finE⟩
  · rintro k τ ⟨left, cur, hk, hsub, rfl⟩
    have hnl : (left.map (·.1)).Nodup := by
      refine (hsub.map (·.1)).nodup ?_
      rw [lmap_fst hlen]; exact hn
    repeat' (first | (refine WS_seqK ?_; intro K hK) | (refine hK _ ?_; clear hK K) | refine stZ ?_ | (refine s2Z ?_ ?_ <;> intro hc <;> (try simp only [cS] at hc) <;> (try (exfalso; first | contradiction | omega))) | refine sqZ ?_ | (refine LS_h (H_next rfl iI) rfl ?_; rintro ⟨_ | ⟨i, z, u⟩, ho⟩ <;> simp only [NextR.val, NextR.rest, NextR.now]))
    · obtain rfl : left = [] := ho
      refine ret_none (.inr rfl) rfl ⟨(), rfl, ?_⟩
      rw [halfE_nil, halfE_lmapE]
      exact Ent.trans Ent.mpi_mp (finE)
    · obtain ⟨j, rb, l, hl, hbj, hd⟩ := lmap_mem (hsub.subset (List.mem_of_getElem? ho))
      obtain ⟨hat, hst⟩ := halfE_step (now := now) hn hnl ho hl hd
      obtain ⟨F, h1, h2⟩ := linesP_hole hbj hat
      have h3 := h2 (l.exp now)
      rw [hst] at h3
      have hlt := (List.getElem?_eq_some_iff.1 ho).1
      have hsub' : (left.eraseIdx i).Sublist (lmap bs ls) := (List.eraseIdx_sublist left i).trans hsub
      have hen := end_spec w0 u rb l 0
      rw [h1]
      simp only [linP]
      by_cases c1 : l.valid = true
      · by_cases c2 : l.expires ≤ now
        · have hx : l.exp now = l.ended 0 := by simp [Ln.exp, c1, c2]
          rw [hx] at h3
          simp only [lineC] at hen ⊢
          rw [c1] at hen ⊢
          repeat' (first | (refine WS_seqK ?_; intro K hK) | (refine hK _ ?_; clear hK K) | refine stZ ?_ | (refine s2Z ?_ ?_ <;> intro hc <;> (try simp only [cS] at hc) <;> (try (exfalso; first | contradiction | omega))) | refine sbZ ?_ | refine sqZ ?_ | (refine LS_q (Q_entry rfl iI) rfl ?_) | (refine LS_h (H_callX iI rfl hen iI) rfl ?_; intro u2))
          exact ⟨k - 1, _, by omega, ⟨left.eraseIdx i, some (z, u), by rw [List.length_eraseIdx, if_pos hlt, hk], hsub', rfl⟩, ⟨rfl, rfl, trivial⟩, rfl, by rw [h3]; simp only [linP, lineC]; exact finE⟩
        · have hx : l.exp now = l := by simp [Ln.exp, c2]
          rw [hx] at h3
          simp only [lineC]
          rw [c1]
          repeat' (first | (refine WS_seqK ?_; intro K hK) | (refine hK _ ?_; clear hK K) | refine stZ ?_ | (refine s2Z ?_ ?_ <;> intro hc <;> (try simp only [cS] at hc) <;> (try (exfalso; first | contradiction | omega))) | refine sbZ ?_ | refine sqZ ?_ | (refine LS_q (Q_entry rfl iI) rfl ?_))
          exact ⟨k - 1, _, by omega, ⟨left.eraseIdx i, some (z, u), by rw [List.length_eraseIdx, if_pos hlt, hk], hsub', rfl⟩, ⟨rfl, rfl, trivial⟩, rfl, by rw [h3]; simp only [linP, lineC, c1]; exact finE⟩
      · have c1' : l.valid = false := by simpa using c1
        have hx : l.exp now = l := by simp [Ln.exp, c1']
        rw [hx] at h3
        simp only [lineC]
        rw [c1']
        repeat' (first | (refine WS_seqK ?_; intro K hK) | (refine hK _ ?_; clear hK K) | refine stZ ?_ | (refine s2Z ?_ ?_ <;> intro hc <;> (try simp only [cS] at hc) <;> (try (exfalso; first | contradiction | omega))) | refine sqZ ?_ | (refine LS_q (Q_entry rfl iI) rfl ?_))
        exact ⟨k - 1, _, by omega, ⟨left.eraseIdx i, some (z, u), by rw [List.length_eraseIdx, if_pos hlt, hk], hsub', rfl⟩, ⟨rfl, rfl, trivial⟩, rfl, by rw [h3]; simp only [linP, lineC, c1']; exact finE⟩
end

section
open Go.RowKit
attribute [local irreducible] WS LS OpQ OpT OpH OpTQ Spec SpecQ cel
variable (w0 : World)
theorem lost_neq (x y x' y' : Int) (w : World) :
  (binOp .neq 180 (.agg #[.int .u32 x, .int .u32 y]) (.agg #[.int .u32 x', .int .u32 y'])).run Tryz.prog w = .ok (.bool (!(x == x' && y == y'))) w := by
 have u4 := Tryz.underlying26
 have hS : Tryz.prog.underlying 180 = some (.struct (Tryz.prog.fieldsOf 180)) := by kernel_rfl
 have hp : Tryz.prog.stoodInHeld 180 = false := by kernel_rfl
 rw [run_neq_struct, show (10000 : Nat) = 9999 + 1 from rfl, run_equalIn_agg w 9999 180 _ _ hS hp]
 simp only [Program.fieldsOf, Tryz.underlying180]
 by_cases h1 : x = x' <;> by_cases h2 : y = y' <;> go_simp
instance neqLost (a b : UInt32 × UInt32) : BinV Tryz.prog .neq 180 (.agg (lostC a).toArray) (.agg (lostC b).toArray) (.bool (!decide (a = b))) := ⟨fun w => by
 have h := lost_neq (a.1.toNat : Int) (a.2.toNat : Int) (b.1.toNat : Int) (b.2.toNat : Int) w
 have e : (((a.1.toNat : Int) == (b.1.toNat : Int)) && ((a.2.toNat : Int) == (b.2.toNat : Int))) = decide (a = b) := by
  rw [Bool.eq_iff_iff]
  simp only [Bool.and_eq_true, beq_iff_eq, decide_eq_true_eq]
  constructor
  ·intro ⟨h1, h2⟩
   exact Prod.ext (UInt32.toNat_inj.1 (by omega)) (UInt32.toNat_inj.1 (by omega))
  ·rintro rfl; exact ⟨rfl, rfl⟩
 rw [e] at h
 exact h, fun w x y => by apply run_eqGuard_agg; kernel_rfl⟩
theorem take_succ_eq {α : Type} {l m : List α} {k : Nat} {a b : α} (h : l.take k = m.take k) (ha : l[k]? = some a) (hb : m[k]? = some b) (e : a = b) : l.take (k + 1) = m.take (k + 1) := by
 rw [List.take_add_one, List.take_add_one, h, ha, hb, e]
end

section
open Go.RowKit
attribute [local irreducible] WS LS OpQ OpT OpH OpTQ Spec SpecQ cel
variable (w0 : World)
theorem four_spec (v : Value) (l : List UInt8) (x : UInt32) (hl : l.length ≤ 900000) : Spec Tryz.prog w0 54 [v, u32 x] (rows 5 1 byteC v l) (fun v' : Value => v') (fun v' => rows 5 1 byteC v' (l ++ be x)) := by
  refine Spec.enter Tryz.func54 rfl Tryz.ntmps54 rfl fun G => ?_
  simp only [argE, be_shr]
  repeat' (first | (refine WS_seqK ?_; intro K hK) | (refine hK _ ?_; clear hK K) | refine stZ ?_ | refine sqZ ?_ | ((refine' LQ ?zh rfl ?_); case zh => intro F'; first | exact Q_bin rfl rfl iI | exact Q_conv32_8 rfl iI iI iI) | ((refine' LS_h ?zh rfl ?_); (case zh => first | exact H_buildB iI iI iI rfl rfl rfl rfl rfl iI rfl rfl | exact H_appendD rfl rfl iI iI rfl iI iI byteC_one (by first | omega | (simp [be_length] <;> omega)) rfl); intro g))
  all_goals exact ret_tmp (.inl rfl) rfl rfl ⟨_, rfl, Ent.refl _⟩
def Pk.out (p : Pk) : List UInt8 := if p.Fits then p.bytes else []
theorem Pk.out_fit {p : Pk} (h : p.Fits) : p.out = p.bytes := if_pos h
theorem Pk.out_not {p : Pk} (h : ¬ p.Fits) : p.out = [] := if_neg h
theorem Pk.Fits.kind {p : Pk} (h : p.Fits) : p.kind = 1 ∨ p.kind = 2 ∨ p.kind = 3 ∨ p.kind = 9 := by
 unfold Pk.Fits at h
 rcases h.2 with h | h | h | h <;> simp [h.1]
set_option maxRecDepth 100000 in
theorem encode_a (p : Pk) (hp : p.Ok) (h3 : p.kind ≠ 3) (v : Value) (X : HProp) [hX : Rdr w0 X v (UInt32 × UInt32) 2 lostC p.lost] : Spec Tryz.prog w0 169 [p.val v] X (fun v' : Value => .tuple #[v', .bool (decide p.Fits)]) (fun v' => rows 5 1 byteC v' p.out * X) := by
  have hfit := fits_spec w0 p hp v X
  obtain ⟨⟨t1, t2⟩, ⟨k1, k2⟩, ⟨h1, h2⟩, hl, hs⟩ := hp
  refine Spec.enter Tryz.func169 rfl Tryz.ntmps169 rfl fun G => ?_
  simp only [argE, Pk.val, Pk.cells]
  repeat' (first | (refine WS_seqK ?_; intro K hK) | (refine hK _ ?_; clear hK K) | refine stZ ?_ | (refine s2Z ?_ ?_ <;> intro hc <;> (try simp only [cS] at hc) <;> (try (exfalso; first | contradiction | omega))) | refine sbZ ?_ | refine sqZ ?_ | ((refine' LQ ?zh rfl ?_); case zh => intro F'; first | exact Q_buildA iI iI iI rfl rfl | exact Q_conv8 rfl iI iI | exact Q_indexA rfl rfl iI iI iI (by omega) rfl) | ((first | refine LS_binS rfl rfl iI rfl ?_ ?_ | refine LS_binN rfl rfl iI rfl ?_ ?_ | refine DL_binS rfl rfl iI rfl ?_ ?_) <;> intro hc) | (refine shZ ?_; intro g) | ((refine' LS_h ?zh rfl ?_); (case zh => first | exact H_buildB iI iI iI rfl rfl rfl rfl rfl iI rfl rfl | exact H_appendD rfl rfl iI iI rfl iI iI byteC_one (by first | omega | (simp [be_length] <;> omega)) rfl | exact H_appendS rfl rfl iI rfl iI iI (by first | omega | (simp [be_length] <;> omega)) rfl); intro g) | ((refine' LS_h0 ?zh ?_); (case zh => exact H_store8 rfl rfl iI iI rfl iI (by first | assumption | omega | (simp [be_length] <;> omega))); intro g) | (refine LS_h (H_callX iI rfl hfit iI) rfl ?_; intro g) | (refine LS_h (H_callR iI rfl (four_spec w0 _ _ _ (by first | omega | (simp [be_length] <;> omega))) iI) rfl ?_; intro g) | refine WS_unroll 6 ?_)
  · simp only [decide_eq_false hc, Pk.out_not hc, star_assoc]
    refine ret_tmp2 (.inl rfl) rfl rfl rfl ⟨_, rfl, ?_⟩
    exact (Ent.nil _ _ _ _ _).trans (Ent.tail _ (Ent.take Ent.last))
  all_goals have hF := ‹p.Fits›
  all_goals have hk := hF.kind
  all_goals simp only [decide_eq_true hF, Pk.out_fit hF, star_assoc]
  all_goals refine ret_tmp2 (.inl rfl) rfl rfl rfl ⟨_, rfl, Ent.takeR ?_ (Ent.take Ent.last)⟩
  all_goals first | (exfalso; omega) | (simp [Pk.bytes, *]; try decide)
def Pk.upto (p : Pk) (k : Nat) : List UInt8 := [b8 p.ttl, 3, 0, 0] ++ [b8 p.lost.length] ++ lostB (p.lost.take k)
theorem Pk.upto_length (p : Pk) (k : Nat) : (p.upto k).length = 5 + 8 * min k p.lost.length := by
 simp [Pk.upto, lostB_length]; omega
theorem Pk.upto_succ {p : Pk} {k : Nat} {z : UInt32 × UInt32} (h : p.lost[k]? = some z) : p.upto k ++ be z.1 ++ be z.2 = p.upto (k + 1) := by
 simp [Pk.upto, lostB_take_succ _ _ _ h]
theorem Pk.upto_end {p : Pk} (h : p.kind = 3) : p.upto p.lost.length = p.bytes := by
 simp [Pk.upto, Pk.bytes, h]
set_option maxRecDepth 100000 in
theorem encode_3 (p : Pk) (hp : p.Ok) (h3 : p.kind = 3) (v : Value) (X : HProp) [hX : Rdr w0 X v (UInt32 × UInt32) 2 lostC p.lost] : Spec Tryz.prog w0 169 [p.val v] X (fun v' : Value => .tuple #[v', .bool (decide p.Fits)]) (fun v' => rows 5 1 byteC v' p.out * X) := by
  have hfit := fits_spec w0 p hp v X
  obtain ⟨⟨t1, t2⟩, ⟨k1, k2⟩, ⟨h1, h2⟩, hl, hs⟩ := hp
  refine Spec.enter Tryz.func169 rfl Tryz.ntmps169 rfl fun G => ?_
  simp only [argE, Pk.val, Pk.cells]
  repeat' (first | (refine WS_seqK ?_; intro K hK) | (refine hK _ ?_; clear hK K) | refine stZ ?_ | (refine s2Z ?_ ?_ <;> intro hc <;> (try simp only [cS] at hc) <;> (try (exfalso; first | contradiction | omega))) | refine sbZ ?_ | refine sqZ ?_ | ((refine' LQ ?zh rfl ?_); case zh => intro F'; exact Q_conv8 rfl iI iI) | (refine shZ ?_; intro g) | ((refine' LS_h ?zh rfl ?_); (case zh => first | exact H_buildB iI iI iI rfl rfl rfl rfl rfl iI rfl rfl | exact H_appendD rfl rfl iI iI rfl iI iI byteC_one (by first | omega | (simp [be_length] <;> omega)) rfl); intro g) | (refine LS_h (H_callX iI rfl hfit iI) rfl ?_; intro g))
  · simp only [decide_eq_false hc, Pk.out_not hc, star_assoc]
    refine ret_tmp2 (.inl rfl) rfl rfl rfl ⟨_, rfl, ?_⟩
    exact (Ent.nil _ _ _ _ _).trans (Ent.tail _ (Ent.take Ent.last))
  refine WS_loop (fun m τ => ∃ k v', k + m = p.lost.length ∧ τ = ⟨[(4, v'), (91, .int .i64 (k : Int)), (90, .int .i64 (p.lost.length : Int)), (89, v)], [], rows 5 1 byteC v' (p.upto k) * (X * G)⟩) ?_ ?_
  · refine ⟨p.lost.length, _, ⟨0, g, by omega, rfl⟩, ⟨rfl, rfl, rfl, rfl, trivial⟩, rfl, ?_⟩
    exact Ent.takeR (by simp [Pk.upto, h3]; exact ⟨rfl, rfl⟩) (Ent.take Ent.last)
  · rintro m τ ⟨k, v', hkm, rfl⟩
    clear g
    rcases Nat.lt_or_ge k p.lost.length with hlt | hge
    · obtain ⟨z, hz⟩ : ∃ z, p.lost[k]? = some z := ⟨_, List.getElem?_eq_getElem hlt⟩
      repeat' (first | (refine WS_seqK ?_; intro K hK) | (refine hK _ ?_; clear hK K) | refine stZ ?_ | (refine s2Z ?_ ?_ <;> intro hc <;> (try simp only [cS] at hc) <;> (try (exfalso; first | contradiction | omega))) | refine sbZ ?_ | refine sqZ ?_ | (refine shZ ?_; intro g) | ((refine' LS_h0 ?zh ?_); (case zh => exact H_storeA rfl rfl iI iI (by first | rfl | (simp only [List.all_cons, List.all_nil, *]; rfl)) rfl); intro g))
      have hul := p.upto_length k
      refine WS_drawC [0, 1, 2, 4, 5, 3, 6, 7] (by kernel_rfl) iI ?_
      repeat' (first | (refine hK _ ?_; clear hK K) | refine stZ ?_ | refine sqZ ?_ | (refine DL_h (H_callR iI rfl (four_spec w0 _ _ _ (by first | omega | (simp [be_length] <;> omega))) iI) rfl rfl rfl ?_; intro g))
      refine ⟨m - 1, _, by omega, ⟨k + 1, g, by omega, rfl⟩, ⟨rfl, rfl, rfl, rfl, trivial⟩, rfl, ?_⟩
      exact Ent.takeR (Pk.upto_succ hz) (Ent.take Ent.last)
    · obtain rfl : k = p.lost.length := by omega
      repeat' (first | (refine WS_seqK ?_; intro K hK) | (refine hK _ ?_; clear hK K) | refine stZ ?_ | (refine s2Z ?_ ?_ <;> intro hc <;> (try simp only [cS] at hc) <;> (try (exfalso; first | contradiction | omega))) | refine sbZ ?_ | refine sqZ ?_)
      simp only [decide_eq_true hc, Pk.out_fit hc, star_assoc]
      exact ret_tmp2 (.inl rfl) rfl rfl rfl ⟨_, rfl, Ent.takeR (Pk.upto_end h3) (Ent.take Ent.last)⟩
theorem encode_spec (p : Pk) (hp : p.Ok) (v : Value) (X : HProp) [hX : Rdr w0 X v (UInt32 × UInt32) 2 lostC p.lost] : Spec Tryz.prog w0 169 [p.val v] X (fun v' : Value => .tuple #[v', .bool (decide p.Fits)]) (fun v' => rows 5 1 byteC v' p.out * X) := by
 by_cases h : p.kind = 3
 ·exact encode_3 w0 p hp h v X
 ·exact encode_a w0 p hp h v X
end

section
open Go.RowKit
variable {P : Program} {w0 : World}
theorem Q_makeInterface {n : Frm} {E : Env} {H : HProp} {d : Option Tmp} {ty : TypeId} {pos : String} {after : Array Edge} {gu : Option (Nat × Bool)} {x : Operand} {v : Value} {t : TypeId} (hx : E.ev x = some v) (h : P.concrete t = true) : OpQ P n w0 ⟨d, .makeInterface t x, ty, pos, after, gu⟩ E H (.iface t v) := fun a w s hs => by
 simp [execOp, s.ev hx, run_makeInterface (w := w) t v h]
def recV : FrameMode → Value × FrameMode
 | .panicking ({ v, recovered := false, goexit := false } :: older) => (v, .panicking ({ v, recovered := true } :: older))
 | u => (.nilIface, u)
theorem recoverD_eq (c₀ : Frame) (cs : List Frame) (u : FrameMode) (hu : c₀.mode = u) : (recoverD (c₀ :: cs) = some ((recV u).1, { c₀ with mode := (recV u).2 } :: cs)) ∨ (recoverD (c₀ :: cs) = none ∧ recV u = (.nilIface, u)) := by
 subst hu
 cases hm : c₀.mode with
 | panicking ch =>
  cases ch with
  | nil => simp [recoverD, recV, hm]
  | cons p older => obtain ⟨v, r, g⟩ := p; cases r <;> cases g <;> simp [recoverD, recV, hm]
 | _ => simp [recoverD, recV, hm]
theorem DSpec.enterR {f : FuncId} {fn : Func} {c2 : Code} {args : List Value} {u : FrameMode} {H : HProp} {K : FrameMode → HProp → Prop} {m id d d2 : Nat} {ty ty2 : TypeId} {pos pos2 : String} {after after2 : Array Edge} {op2 : Op} {b : Bool}
  (hf : P.funcs[f]? = some fn) (hb : fn.body = some (.seq (.region id #[⟨some d, .call ⟨.builtin .recover, #[], #[]⟩, ty, pos, after, none⟩, ⟨some d2, op2, ty2, pos2, after2, none⟩] false) c2)) (hn : fn.ntmps = m) (hle : Nat.ble args.length m = true) (hd : Nat.blt d m = true) (hd2 : Nat.blt d2 m = true)
  (hop : OpQ P ⟨m, none⟩ w0 ⟨some d2, op2, ty2, pos2, after2, none⟩ ((d, (recV u).1) :: argE 0 args) H (.bool b))
  (h : WS P ⟨m, none⟩ w0 c2 (retS P ⟨m, none⟩ w0 fn fun v H' => K (recV u).2 H') ⟨(d2, .bool b) :: (d, (recV u).1) :: argE 0 args, [], H⟩) : DSpec P w0 f args u H K := by
 intro w hs
 subst hn
 refine callsDIn_of_wpSIn hf hb trivial fun c₀ cs hu => ?_
 refine wpSIn_seq (wpSIn_region ?_)
 have s0 := enter_sees (args := args) hle
 have s1 : Sees ⟨fn.ntmps, none⟩ ((d, (recV u).1) :: argE 0 args) (Act.put ⟨args.toArray ++ Array.replicate (fn.ntmps - args.toArray.size) undef, []⟩ (some d) (recV u).1) := s0.put _ hd
 have s2 := s1.put (.bool b) hd2
 have hr1 : ∀ a : Act, (execOp a.eval ⟨some d, .call ⟨.builtin .recover, #[], #[]⟩, ty, pos, after, none⟩).run P w = .ok .recover w := fun a => by
  rfl
 have hr2 := hop _ w s1 hs
 have rest : ∀ (cs' : List Frame), cs' = { c₀ with mode := (recV u).2 } :: cs → c2.wpSIn (fen none) 0 P (bodyPostS P fn c₀ cs fun e u' w' => ∃ v H', e = Ending.returned v ∧ Sat w0 w' H' ∧ K u' H') ((Act.put ⟨args.toArray ++ Array.replicate (fn.ntmps - args.toArray.size) undef, []⟩ (some d) (recV u).1).put (some d2) (.bool b)) cs' w := by
  rintro cs' rfl
  refine wpSIn_of_wpIn rfl (wpIn_mono (h _ w ⟨s2, rfl, hs⟩) ?_)
  rintro e a w' ⟨σ, h1, h2⟩
  cases e with
  | normal => obtain ⟨hD, v, hr, hK⟩ := h1; exact ⟨h2.defers.trans hD, _, rfl, v, hr a w' h2, v, σ.H, rfl, h2.sat, hK⟩
  | ret => obtain ⟨hD, v, hr, hK⟩ := h1; exact ⟨h2.defers.trans hD, _, rfl, v, hr a w' h2, v, σ.H, rfl, h2.sat, hK⟩
  | _ => exact h1.elim
 have e0 : (List.range (#[(⟨some d, .call ⟨.builtin .recover, #[], #[]⟩, ty, pos, after, none⟩ : Oper), ⟨some d2, op2, ty2, pos2, after2, none⟩] : Array Oper).size) = [0, 1] := rfl
 rw [e0]
 have tail : ∀ (cs' : List Frame), cs' = { c₀ with mode := (recV u).2 } :: cs → wpOpsSIn (fen none) 0 P #[⟨some d, .call ⟨.builtin .recover, #[], #[]⟩, ty, pos, after, none⟩, ⟨some d2, op2, ty2, pos2, after2, none⟩] (Exit.thenS (c2.wpSIn (fen none) 0 P (bodyPostS P fn c₀ cs fun e u' w' => ∃ v H', e = Ending.returned v ∧ Sat w0 w' H' ∧ K u' H')) (bodyPostS P fn c₀ cs fun e u' w' => ∃ v H', e = Ending.returned v ∧ Sat w0 w' H' ∧ K u' H')) [1] (Act.put ⟨args.toArray ++ Array.replicate (fn.ntmps - args.toArray.size) undef, []⟩ (some d) (recV u).1) cs' w := by
  intro cs' hcs
  simp only [wpOpsSIn, List.getElem?_toArray, List.getElem?_cons_succ, List.getElem?_cons_zero]
  refine ⟨fun _ _ => trivial, ?_⟩
  rw [if_pos (by rfl), hr2]
  exact rest cs' hcs
 unfold wpOpsSIn
 simp only [List.getElem?_toArray, List.getElem?_cons_zero]
 refine ⟨fun _ _ => trivial, ?_⟩
 rw [if_pos (by rfl), hr1]
 rcases recoverD_eq c₀ cs u hu with h1 | ⟨h1, h2⟩
 ·simp only [h1]
  exact tail _ rfl
 ·simp only [h1]
  have : (recV u).1 = .nilIface := by rw [h2]
  rw [← this]
  refine tail _ ?_
  rw [h2]
  subst hu; rfl
class IfaceT (P : Program) (t : TypeId) : Prop where
  eq : P.underlying t = some (.interface (P.methodsAt t))
instance neqHeld {t u : TypeId} {x : Value} [h : IfaceT P t] : BinV P .neq t (.iface u x) .nilIface (.bool true) := ⟨fun w => run_neq_held_nil (w := w) t u x h.eq, fun w _ _ => by rfl⟩
theorem Q_neqNilC {n : Frm} {E : Env} {H : HProp} {d : Option Tmp} {ty t t2 : TypeId} {pos : String} {after : Array Edge} {gu : Option (Nat × Bool)} {x : Operand} (hx : E.ev x = some .nilIface) (h : IfaceT P t) : OpQ P n w0 ⟨d, .binOp .neq t x (.const .nilIface) t2, ty, pos, after, gu⟩ E H (.bool false) := fun a w s hs => by
 have e := s.ev hx
 have e2 : a.eval (.const .nilIface) = .nilIface := rfl
 have hr := run_neq_nil_nil (w := w) t h.eq
 have hg : (eqGuard .neq t x (.const .nilIface) .nilIface .nilIface).run P w = .ok () w := by simp [eqGuard]
 simp only [execOp, e, e2, Sem.run_bind, hg, hr, Result.andThen_ok, Sem.run_pure]
end

section
def lostsAt (l : List UInt8) : Nat → List (UInt32 × UInt32)
 | 0 => []
 | n + 1 => lostsAt l n ++ [(numAt l (8 * n), numAt l (8 * n + 4))]
theorem lostsAt_length (l : List UInt8) (n : Nat) : (lostsAt l n).length = n := by
 induction n with
 | zero => rfl
 | succ n ih => simp [lostsAt, ih]
def Pk.body (ttl kind : UInt8) (flag n : UInt8) (l : List UInt8) : Option Pk :=
 if kind = 1 then
  if l.length = 20 ∧ (flag = 0 ∨ (flag = 8 ∧ numAt l 8 = 0)) then some ⟨ttl.toNat, 1, n.toNat, decide (flag = 8), numAt l 0, numAt l 4, numAt l 8, numAt l 12, numAt l 16, 0, [], []⟩ else none
 else if kind = 2 then
  if l.length = 16 ∧ flag = 0 then some ⟨ttl.toNat, 2, n.toNat, false, 0, numAt l 0, numAt l 4, numAt l 8, 0, numAt l 12, [], []⟩ else none
 else if kind = 3 then
  if 1 ≤ n.toNat ∧ n.toNat ≤ 8 ∧ l.length = 8 * n.toNat ∧ flag = 0 then some ⟨ttl.toNat, 3, 0, false, 0, 0, 0, 0, 0, 0, lostsAt l n.toNat, []⟩ else none
 else if kind = 9 then
  if n.toNat ≤ 16 ∧ l.length = 12 + n.toNat ∧ flag = 0 then some ⟨ttl.toNat, 9, 0, false, numAt l 0, numAt l 4, 0, numAt l 8, 0, 0, [], l.drop 12⟩ else none
 else none
def Pk.dec : List UInt8 → Option Pk
 | t :: k :: f :: z :: n :: l => if z = 0 ∧ t ≠ 0 then Pk.body t k f n l else none
 | _ => none
theorem numAt_be' (k : UInt32) (pre post : List UInt8) (n : Nat) (hn : n = pre.length) : numAt (pre ++ (be k ++ post)) n = k := by
 subst hn
 have e : ∀ j, byteAt (pre ++ (be k ++ post)) (pre.length + j) = byteAt (be k ++ post) j := fun j => by
  rw [byteAt, List.getElem?_append_right (by omega), Nat.add_sub_cancel_left]; rfl
 have e0 := e 0
 rw [Nat.add_zero] at e0
 rw [numAt, e0, e 1, e 2, e 3]
 exact num_be k
theorem b8_lt (m : Int) (h0 : 0 ≤ m) (h : m ≤ 255) : ((b8 m).toNat : Int) = m := by
 unfold b8; simp; omega
theorem be_numAt (l : List UInt8) (i : Nat) (h : i + 4 ≤ l.length) : be (numAt l i) = (l.drop i).take 4 := by
 rw [numAt, be_num]
 apply List.ext_getElem?
 intro j
 rw [List.getElem?_take, List.getElem?_drop]
 have g : ∀ k, i + k < l.length → l[i + k]? = some (byteAt l (i + k)) := fun k hk => by simp [byteAt, hk]
 match j with
 | 0 => simpa using (g 0 (by omega)).symm
 | 1 => simpa using (g 1 (by omega)).symm
 | 2 => simpa using (g 2 (by omega)).symm
 | 3 => simpa using (g 3 (by omega)).symm
 | j + 4 => simp; omega
theorem lostB_append (a b : List (UInt32 × UInt32)) : lostB (a ++ b) = lostB a ++ lostB b := by simp [lostB]
theorem lostsAt_bytes (l : List UInt8) : ∀ n, 8 * n ≤ l.length → lostB (lostsAt l n) = l.take (8 * n)
 | 0, _ => by simp [lostsAt, lostB]
 | n + 1, h => by
  rw [lostsAt, lostB_append, lostsAt_bytes l n (by omega)]
  have e : lostB [(numAt l (8 * n), numAt l (8 * n + 4))] = (l.drop (8 * n)).take 8 := by
   simp only [lostB, List.flatMap_cons, List.flatMap_nil, List.append_nil]
   rw [be_numAt l _ (by omega), be_numAt l _ (by omega), ← List.drop_drop]
   exact (List.take_add (i := 4) (j := 4)).symm
  rw [e, show 8 * (n + 1) = 8 * n + 8 by omega]
  exact (List.take_add (i := 8 * n) (j := 8)).symm
theorem lostsAt_lostB : ∀ (x : List (UInt32 × UInt32)) (post : List UInt8) (n : Nat), n ≤ x.length → lostsAt (lostB x ++ post) n = x.take n
 | x, post, 0, _ => by simp [lostsAt]
 | x, post, n + 1, h => by
  rw [lostsAt, lostsAt_lostB x post n (by omega), List.take_add_one]
  obtain ⟨z, hz⟩ : ∃ z, x[n]? = some z := ⟨_, List.getElem?_eq_getElem (by omega)⟩
  have hx : lostB x = lostB (x.take n) ++ (be z.1 ++ (be z.2 ++ lostB (x.drop (n + 1)))) := by
   have h1 : x = x.take n ++ (z :: x.drop (n + 1)) := by
    have := (List.getElem?_eq_some_iff.1 hz).2
    rw [← this, List.getElem_cons_drop, List.take_append_drop]
   conv => lhs; rw [h1]
   simp [lostB]
  have hl := lostB_length (x.take n)
  have hn : (x.take n).length = n := by simp; omega
  rw [hn] at hl
  have e1 : numAt (lostB x ++ post) (8 * n) = z.1 := by
   rw [hx, List.append_assoc, List.append_assoc]
   exact numAt_be' _ _ _ _ hl.symm
  have e2 : numAt (lostB x ++ post) (8 * n + 4) = z.2 := by
   have : lostB x ++ post = (lostB (x.take n) ++ be z.1) ++ (be z.2 ++ (lostB (x.drop (n + 1)) ++ post)) := by rw [hx]; simp
   rw [this]
   exact numAt_be' _ _ _ _ (by simp [hl, be_length])
  rw [e1, e2, hz]; rfl
theorem numAts (ks : List UInt32) (post : List UInt8) (i : Nat) (k : UInt32) (h : ks[i]? = some k) : numAt (nums32 ks ++ post) (4 * i) = k := by
 have hx : nums32 ks ++ post = nums32 (ks.take i) ++ (be k ++ (nums32 (ks.drop (i + 1)) ++ post)) := by
  have h1 : ks = ks.take i ++ (k :: ks.drop (i + 1)) := by
   have hi := (List.getElem?_eq_some_iff.1 h).1
   have := (List.getElem?_eq_some_iff.1 h).2
   rw [← this, List.getElem_cons_drop, List.take_append_drop]
  conv => lhs; rw [h1]
  simp [nums32]
 have hl : ∀ l : List UInt32, (nums32 l).length = 4 * l.length := by
  intro l; induction l with
  | nil => rfl
  | cons a l ih => simp [nums32, be_length] at ih ⊢; omega
 rw [hx]
 exact numAt_be' _ _ _ _ (by rw [hl, List.length_take]; have := (List.getElem?_eq_some_iff.1 h).1; omega)
theorem Pk.dec_bytes {p : Pk} (h : p.Fits) : Pk.dec p.bytes = some p := by
 obtain ⟨ttl, kind, hops, unknown, id, dest, destSeq, from_, fromSeq, life, lost, payload⟩ := p
 obtain ⟨⟨t1, t2, h1, h2, h3, h4⟩, hk⟩ := h
 dsimp only at t1 t2 h1 h2 h3 h4 hk
 have e1 := b8_lt ttl (by omega) t2
 have e2 := b8_lt hops h1 h2
 have e3 : b8 ttl ≠ 0 := by intro e; rw [e] at e1; simp at e1; omega
 rcases hk with ⟨rfl, rfl, hl, rfl, hu⟩ | ⟨rfl, rfl, rfl, rfl, hl, rfl⟩ | ⟨rfl, rfl, rfl, rfl, rfl, rfl, rfl, hl, rfl, rfl, rfl⟩ | ⟨rfl, rfl, rfl, rfl, rfl, rfl, hl⟩
 ·obtain rfl : lost = [] := List.eq_nil_of_length_eq_zero hl
  have n := numAts [id, dest, destSeq, from_, fromSeq] []
  simp only [nums32, List.flatMap_cons, List.flatMap_nil, List.append_nil] at n
  have n0 := n 0 id rfl; have n1 := n 1 dest rfl; have n2 := n 2 destSeq rfl; have n3 := n 3 from_ rfl; have n4 := n 4 fromSeq rfl
  simp only [Nat.mul_zero, Nat.reduceMul] at n0 n1 n2 n3 n4
  cases unknown <;> simp_all [Pk.bytes, Pk.dec, Pk.body, be_length]
 ·obtain rfl : lost = [] := List.eq_nil_of_length_eq_zero hl
  have n := numAts [dest, destSeq, from_, life] []
  simp only [nums32, List.flatMap_cons, List.flatMap_nil, List.append_nil] at n
  have n0 := n 0 dest rfl; have n1 := n 1 destSeq rfl; have n2 := n 2 from_ rfl; have n3 := n 3 life rfl
  simp only [Nat.mul_zero, Nat.reduceMul] at n0 n1 n2 n3
  simp_all [Pk.bytes, Pk.dec, Pk.body, be_length]
 ·have e4 := b8_lt (lost.length : Int) (by omega) (by omega)
  have e5 : (b8 (lost.length : Int)).toNat = lost.length := by omega
  have e6 := lostsAt_lostB lost [] lost.length (Nat.le_refl _)
  rw [List.append_nil, List.take_length] at e6
  have e7 := lostB_length lost
  simp only [Pk.bytes, Pk.dec, Pk.body]
  simp [e3, e5, e6, e7, h4, e1, show 1 ≤ lost.length by omega]
 ·obtain rfl : lost = [] := List.eq_nil_of_length_eq_zero hl
  have e4 := b8_lt (payload.length : Int) (by omega) (by omega)
  have e5 : (b8 (payload.length : Int)).toNat = payload.length := by omega
  have n := numAts [id, dest, from_] payload
  simp only [nums32, List.flatMap_cons, List.flatMap_nil, List.append_nil, List.append_assoc] at n
  have n0 := n 0 id rfl; have n1 := n 1 dest rfl; have n2 := n 2 from_ rfl
  simp only [Nat.mul_zero, Nat.reduceMul] at n0 n1 n2
  have e6 : (be id ++ (be dest ++ (be from_ ++ payload))).drop 12 = payload := by
   rw [← List.append_assoc, ← List.append_assoc]
   exact List.drop_left' (by simp [be_length])
  simp only [Pk.bytes, Pk.dec, Pk.body]
  simp [e3, e5, e6, h3, e1, n0, n1, n2, be_length]
  omega
theorem b8_nat (b : UInt8) : b8 (b.toNat : Int) = b := by
 unfold b8; apply UInt8.toNat_inj.1; have := b.toNat_lt; simp; omega
theorem take_split (l : List UInt8) : ∀ (n : Nat), 4 * n = l.length → l = nums32 ((List.range n).map fun i => numAt l (4 * i)) := by
 intro n hn
 have key : ∀ k, k ≤ n → nums32 ((List.range k).map fun i => numAt l (4 * i)) = l.take (4 * k) := by
  intro k
  induction k with
  | zero => intro _; simp [nums32]
  | succ k ih =>
   intro hk
   rw [List.range_succ, List.map_append]
   have e : nums32 ([k].map fun i => numAt l (4 * i)) = (l.drop (4 * k)).take 4 := by
    simp only [nums32, List.map_cons, List.map_nil, List.flatMap_cons, List.flatMap_nil, List.append_nil]
    exact be_numAt l _ (by omega)
   have e2 : ∀ a b, nums32 (a ++ b) = nums32 a ++ nums32 b := fun a b => by simp [nums32]
   rw [e2, ih (by omega), e, show 4 * (k + 1) = 4 * k + 4 by omega]
   exact (List.take_add (i := 4 * k) (j := 4)).symm
 rw [key n (Nat.le_refl _), hn, List.take_length]
theorem Pk.dec_some {s : List UInt8} {p : Pk} (h : Pk.dec s = some p) : p.Fits ∧ p.bytes = s := by
 unfold Pk.dec at h
 split at h
 ·rename_i t k f z n l
  split at h
  ·rename_i hz
   obtain ⟨rfl, ht⟩ := hz
   have ht0 : 1 ≤ (t.toNat : Int) := by
    have : t.toNat ≠ 0 := fun e => ht (UInt8.toNat_inj.1 (by rw [e]; rfl))
    omega
   have ht1 := t.toNat_lt
   have hn1 := n.toNat_lt
   unfold Pk.body at h
   split at h
   ·rename_i hk; subst hk
    split at h
    ·rename_i hc
     obtain ⟨hl, hf⟩ := hc
     have hs := take_split l 5 hl.symm
     simp only [List.range, List.range.loop, List.map_cons, List.map_nil, nums32, List.flatMap_cons, List.flatMap_nil, List.append_nil, Nat.mul_zero, Nat.reduceMul] at hs
     cases h
     refine ⟨⟨⟨ht0, by dsimp only; omega, by dsimp only; omega, by dsimp only; omega, by simp, by simp⟩, .inl ⟨rfl, rfl, rfl, rfl, ?_⟩⟩, ?_⟩
     ·rcases hf with rfl | ⟨rfl, h0⟩
      ·left; rfl
      ·right; exact h0
     ·rcases hf with rfl | ⟨rfl, h0⟩
      ·simp only [Pk.bytes, b8_nat]
       simp only [if_true, List.append_assoc]
       rw [← hs]; rfl
      ·simp only [Pk.bytes, b8_nat]
       simp only [if_true, List.append_assoc]
       rw [← hs]; rfl
    ·cases h
   ·split at h
    ·rename_i hk; subst hk
     split at h
     ·rename_i hc
      obtain ⟨hl, rfl⟩ := hc
      have hs := take_split l 4 hl.symm
      simp only [List.range, List.range.loop, List.map_cons, List.map_nil, nums32, List.flatMap_cons, List.flatMap_nil, List.append_nil, Nat.mul_zero, Nat.reduceMul] at hs
      cases h
      refine ⟨⟨⟨ht0, by dsimp only; omega, by dsimp only; omega, by dsimp only; omega, by simp, by simp⟩, .inr (.inl ⟨rfl, rfl, rfl, rfl, rfl, rfl⟩)⟩, ?_⟩
      simp only [Pk.bytes, b8_nat]
      rw [if_neg (by decide), if_pos trivial]
      simp only [List.append_assoc]
      rw [← hs]; rfl
     ·cases h
    ·split at h
     ·rename_i hk; subst hk
      split at h
      ·rename_i hc
       obtain ⟨hn, hn8, hl, rfl⟩ := hc
       cases h
       have e := lostsAt_length l n.toNat
       refine ⟨⟨⟨ht0, by dsimp only; omega, by simp, by simp, by simp, by dsimp only; omega⟩, .inr (.inr (.inl ⟨rfl, rfl, rfl, rfl, rfl, rfl, rfl, by dsimp only; omega, rfl, rfl, rfl⟩))⟩, ?_⟩
       simp only [Pk.bytes, b8_nat, e]
       rw [if_neg (by decide), if_neg (by decide), if_pos trivial, lostsAt_bytes l _ (by omega), ← hl, List.take_length]
       rfl
      ·cases h
     ·split at h
      ·rename_i hk; subst hk
       split at h
       ·rename_i hc
        obtain ⟨hn, hl, rfl⟩ := hc
        cases h
        have e : (l.drop 12).length = n.toNat := by simp; omega
        refine ⟨⟨⟨ht0, by dsimp only; omega, by simp, by simp, by dsimp only; omega, by simp⟩, .inr (.inr (.inr ⟨rfl, rfl, rfl, rfl, rfl, rfl, rfl⟩))⟩, ?_⟩
        simp only [Pk.bytes, b8_nat, e]
        rw [if_neg (by decide), if_neg (by decide), if_neg (by decide)]
        have hs := take_split (l.take 12) 3 (by simp; omega)
        have en : ∀ i, i + 4 ≤ 12 → numAt (l.take 12) i = numAt l i := fun i hi => by
         simp only [numAt, byteAt, List.getElem?_take]
         rw [if_pos (by omega), if_pos (by omega), if_pos (by omega), if_pos (by omega)]
        simp only [List.range, List.range.loop, List.map_cons, List.map_nil, nums32, List.flatMap_cons, List.flatMap_nil, List.append_nil, Nat.mul_zero, Nat.reduceMul] at hs
        rw [en 0 (by omega), en 4 (by omega), en 8 (by omega)] at hs
        have e12 : be (numAt l 0) ++ (be (numAt l 4) ++ (be (numAt l 8) ++ l.drop 12)) = l := by
         rw [← List.append_assoc, ← List.append_assoc, List.append_assoc (be (numAt l 0)), ← hs, List.take_append_drop]
        simp only [List.append_assoc]
        rw [e12]; rfl
       ·cases h
      ·cases h
  ·cases h
 ·cases h
end

section
open Go.RowKit
attribute [local irreducible] WS LS OpQ OpT OpH OpTQ Spec SpecQ SpecX DSpec cel
variable (w0 : World)
set_option maxRecDepth 100000 in
theorem wnumber_spec (l : List UInt8) (h : 4 ≤ l.length) (v : Value) (X : HProp) [hX : Rdr w0 X v UInt8 1 byteC l] : Spec Tryz.prog w0 111 [v] X (fun _ : Unit => u32 (numAt l 0)) (fun _ => X) := by
  refine Spec.enter Tryz.func111 rfl Tryz.ntmps111 rfl fun G => ?_
  simp only [argE]
  have h0 := byteAt_get (l := l) (i := 0) (by omega)
  have h1 := byteAt_get (l := l) (i := 1) (by omega)
  have h2 := byteAt_get (l := l) (i := 2) (by omega)
  have h3 := byteAt_get (l := l) (i := 3) (by omega)
  repeat' (first | (show WS _ _ _ (.region 1 _ true) _ _; refine WS_drawA (.range 23) (by decide +kernel) rfl ?_) | (refine WS_seqK ?_; intro K hK) | (refine hK _ ?_; clear hK K) | refine stZ ?_ | refine sqZ ?_ | ((first | refine' LQ ?zh rfl ?_ | refine' DL_q rfl rfl ?zh ?_); case zh => intro F'; exact Q_conv328 rfl iI iI) | ((refine' DL_q rfl rfl ?zh ?_); case zh => intro F'; exact Q_bin rfl rfl iI))
  exact ret_tmp (.inl rfl) rfl rfl ⟨(), by rw [numAt, ← num_or], finE⟩
def brk : List PanicEntry := [{ v := .iface 232 (.agg #[]), recovered := false }]
theorem must_t : Spec Tryz.prog w0 72 [.bool true] emp (fun _ : Unit => .tuple #[]) (fun _ => emp) := by
  refine Spec.enter Tryz.func72 rfl Tryz.ntmps72 rfl fun G => ?_
  simp only [argE]
  repeat' (first | (refine WS_seqK ?_; intro K hK) | (refine hK _ ?_; clear hK K) | refine stZ ?_ | (refine s2Z ?_ ?_ <;> intro hc <;> (try simp only [cS] at hc) <;> (try (exfalso; first | contradiction | omega))) | refine sqZ ?_)
  exact ret_none (.inr rfl) rfl ⟨(), rfl, finE⟩
theorem must_f : SpecX Tryz.prog w0 72 [.bool false] emp brk emp := by
  refine SpecX.enter Tryz.func72 rfl Tryz.ntmps72 rfl fun G => ?_
  simp only [argE]
  repeat' (first | (refine WS_seqK ?_; intro K hK) | (refine hK _ ?_; clear hK K) | refine stZ ?_ | (refine s2Z ?_ ?_ <;> intro hc <;> (try simp only [cS] at hc) <;> (try (exfalso; first | contradiction | omega))) | refine sqZ ?_ | refine LS_q (Q_makeInterface rfl (by kernel_rfl)) rfl ?_ | refine LS_panic rfl ?_)
  exact ⟨rfl, rfl, finE⟩
section reader
variable (l : List UInt8) (v : Value) (g : Nat) (X : HProp) [hX : Rdr w0 X v UInt8 1 byteC l]
set_option maxRecDepth 100000 in
include hX in
theorem take_t (k : Nat) (x : Int) (hx : x = (k : Int)) (hk : k ≤ l.length) : Spec Tryz.prog w0 74 [ptr g 0, .int .i64 x] (cel g 176 [v] * X) (fun _ : Unit => sHead v k) (fun _ => cel g 176 [sTail 1 v k] * X) := by
  subst hx
  refine Spec.enter Tryz.func74 rfl Tryz.ntmps74 rfl fun G => ?_
  simp only [argE]
  repeat' (first | (refine WS_seqK ?_; intro K hK) | (refine hK _ ?_; clear hK K) | refine stZ ?_ | refine sbZ ?_ | refine sqZ ?_ | ((refine' LQ ?zh rfl ?_); case zh => intro F'; first | exact Q_sliceR_h rfl rfl iI iI iI iI (by first | assumption | omega | (simp [be_length] <;> omega)) | exact Q_sliceR_l rfl rfl iI iI iI iI (by first | assumption | omega | (simp [be_length] <;> omega))) | (refine s0Z ?_; intro g) | (refine LS_h (H_callX iI rfl (must_t w0) iI) rfl ?_; intro u))
  exact ret_tmp (.inl rfl) rfl rfl ⟨(), rfl, finE⟩
set_option maxRecDepth 100000 in
include hX in
theorem take_f (k : Nat) (x : Int) (hx : x = (k : Int)) (hk : l.length < k) : SpecX Tryz.prog w0 74 [ptr g 0, .int .i64 x] (cel g 176 [v] * X) brk (cel g 176 [v] * X) := by
  subst hx
  refine SpecX.enter Tryz.func74 rfl Tryz.ntmps74 rfl fun G => ?_
  simp only [argE]
  repeat' (first | (refine WS_seqK ?_; intro K hK) | (refine hK _ ?_; clear hK K) | refine stZ ?_ | refine sbZ ?_ | refine sqZ ?_ | refine LS_callX iI rfl (must_f w0) iI ?_ | refine thenS_p ?_)
  exact ⟨rfl, rfl, finE⟩
set_option maxRecDepth 100000 in
include hX in
theorem one_t (hk : 1 ≤ l.length) : Spec Tryz.prog w0 71 [ptr g 0] (cel g 176 [v] * X) (fun _ : Unit => .int .i64 ((byteAt l 0).toNat : Int)) (fun _ => cel g 176 [sTail 1 v 1] * X) := by
  refine Spec.enter Tryz.func71 rfl Tryz.ntmps71 rfl fun G => ?_
  simp only [argE]
  have h0 : (l.take 1)[0]? = some (byteAt l 0) := by rw [List.getElem?_take, if_pos (by omega)]; exact byteAt_get (by omega)
  have hlen : (l.take 1).length = 1 := by simp; omega
  repeat' (first | (refine WS_seqK ?_; intro K hK) | (refine hK _ ?_; clear hK K) | refine stZ ?_ | refine sqZ ?_ | ((refine' LQ ?zh rfl ?_); case zh => intro F'; exact Q_convI8 rfl iI iI) | (refine LS_h (H_callX iI rfl (take_t w0 l v g X 1 1 rfl hk) iI) rfl ?_; intro u))
  exact ret_tmp (.inl rfl) rfl rfl ⟨(), rfl, finE⟩
set_option maxRecDepth 100000 in
include hX in
theorem one_f (hk : l.length < 1) : SpecX Tryz.prog w0 71 [ptr g 0] (cel g 176 [v] * X) brk (cel g 176 [v] * X) := by
  refine SpecX.enter Tryz.func71 rfl Tryz.ntmps71 rfl fun G => ?_
  simp only [argE]
  repeat' (first | (refine WS_seqK ?_; intro K hK) | (refine hK _ ?_; clear hK K) | refine stZ ?_ | refine sqZ ?_ | refine LS_callX iI rfl (take_f w0 l v g X 1 1 rfl hk) iI ?_ | refine thenS_p ?_)
  exact ⟨rfl, rfl, finE⟩
set_option maxRecDepth 100000 in
include hX in
theorem four_t (hk : 4 ≤ l.length) : Spec Tryz.prog w0 73 [ptr g 0] (cel g 176 [v] * X) (fun _ : Unit => u32 (numAt l 0)) (fun _ => cel g 176 [sTail 1 v 4] * X) := by
  refine Spec.enter Tryz.func73 rfl Tryz.ntmps73 rfl fun G => ?_
  simp only [argE]
  have hn := wnumber_spec w0 (l.take 4) (by simp; omega) (sHead v 4) X
  have e : numAt (l.take 4) 0 = numAt l 0 := by simp [numAt, byteAt, List.getElem?_take]
  rw [e] at hn
  repeat' (first | (refine WS_seqK ?_; intro K hK) | (refine hK _ ?_; clear hK K) | refine stZ ?_ | refine sqZ ?_ | (refine LS_h (H_callX iI rfl (take_t w0 l v g X 4 4 rfl hk) iI) rfl ?_; intro u) | (refine LS_h (H_callX iI rfl hn iI) rfl ?_; intro u))
  exact ret_tmp (.inl rfl) rfl rfl ⟨(), rfl, finE⟩
set_option maxRecDepth 100000 in
include hX in
theorem four_f (hk : l.length < 4) : SpecX Tryz.prog w0 73 [ptr g 0] (cel g 176 [v] * X) brk (cel g 176 [v] * X) := by
  refine SpecX.enter Tryz.func73 rfl Tryz.ntmps73 rfl fun G => ?_
  simp only [argE]
  repeat' (first | (refine WS_seqK ?_; intro K hK) | (refine hK _ ?_; clear hK K) | refine stZ ?_ | refine sqZ ?_ | refine LS_callX iI rfl (take_f w0 l v g X 4 4 rfl hk) iI ?_ | refine thenS_p ?_)
  exact ⟨rfl, rfl, finE⟩
end reader
end

section
open Go.RowKit
theorem fall_eq (c : UInt32) : fall c = if c &&& 1 = 1 then (c >>> 1) ^^^ 3988292384 else c >>> 1 := by
 have e1 : UInt32.ofNat (c.toNat / 2) = c >>> 1 := by
  rw [← UInt32.toNat_inj, half_toNat, UInt32.toNat_shiftRight]
  show c.toNat / 2 = c.toNat >>> (1 % 32)
  rw [Nat.mod_eq_of_lt (by decide), Nat.shiftRight_eq_div_pow]
 have e2 : (c.toNat % 2 = 1) ↔ (c &&& 1 = 1) := by
  rw [← UInt32.toNat_inj, UInt32.toNat_and]
  show _ ↔ c.toNat &&& 1 = 1
  rw [Nat.and_one_is_mod]
 unfold fall
 simp only [e1, e2]
theorem ofNat_byte (b : UInt8) : UInt32.ofNat b.toNat = b.toUInt32 := by
 rw [← UInt32.toNat_inj, byte_toNat]; simp
attribute [local irreducible] WS LS OpQ OpT OpH OpTQ Spec SpecQ cel
variable (w0 : World)
instance : AsU32 (.int .u32 3988292384) 3988292384 := ⟨rfl⟩
instance complU32 {P : Program} {x : UInt32} : UnV P .xor (u32 x) (u32 (4294967295 ^^^ x)) := ⟨fun w => by
 show (Op.intBits .xor .u32 IntKind.u32.max (x.toNat : Int)).run P w = _
 have e : IntKind.u32.max = ((4294967295 : UInt32).toNat : Int) := rfl
 rw [intBits_xor, e, u32_xor_nat _ _ (u32_lt _) (u32_lt x), ← UInt32.toNat_xor]; rfl⟩
set_option maxRecDepth 100000 in
theorem turned_spec (c : UInt32) : Spec Tryz.prog w0 108 [u32 c] emp (fun _ : Unit => u32 (falls 8 c)) (fun _ => emp) := by
  refine Spec.enter Tryz.func108 rfl Tryz.ntmps108 rfl fun G => ?_
  simp only [argE]
  repeat' (first | (refine WS_seqK ?_; intro K hK) | (refine hK _ ?_; clear hK K) | refine stZ ?_ | refine sqZ ?_)
  refine WS_loop (fun m τ => ∃ j : Nat, j + m = 8 ∧ τ = ⟨[(4, .int .i64 (j : Int)), (0, u32 (falls j c))], [], emp * G⟩) ?_ ?_
  · exact ⟨8, _, ⟨0, rfl, rfl⟩, ⟨rfl, rfl, trivial⟩, rfl, Ent.refl _⟩
  · rintro m τ ⟨j, hj, rfl⟩
    rcases Nat.lt_or_ge j 8 with hlt | hge
    · repeat' (first | (refine WS_seqK ?_; intro K hK) | (refine hK _ ?_; clear hK K) | refine stZ ?_ | (refine s2Z ?_ ?_ <;> intro hc <;> (try simp only [cS] at hc) <;> (try (exfalso; first | contradiction | omega))) | refine sbZ ?_ | refine sqZ ?_ | ((first | refine LS_binS rfl rfl iI rfl ?_ ?_ | refine LS_binN rfl rfl iI rfl ?_ ?_) <;> intro hc) | ((refine' LQ ?zh rfl ?_); case zh => intro F'; exact Q_bin rfl rfl iI))
      · have e : falls (j + 1) c = (falls j c >>> 1) ^^^ 3988292384 := by show fall _ = _; rw [fall_eq, if_pos hc]
        exact ⟨m - 1, _, by omega, ⟨j + 1, by omega, rfl⟩, ⟨rfl, by rw [e]; rfl, trivial⟩, rfl, Ent.refl _⟩
      · have e : falls (j + 1) c = falls j c >>> 1 := by show fall _ = _; rw [fall_eq, if_neg hc]
        exact ⟨m - 1, _, by omega, ⟨j + 1, by omega, rfl⟩, ⟨rfl, by rw [e]; rfl, trivial⟩, rfl, Ent.refl _⟩
    · obtain rfl : j = 8 := by omega
      repeat' (first | (refine WS_seqK ?_; intro K hK) | (refine hK _ ?_; clear hK K) | refine stZ ?_ | (refine s2Z ?_ ?_ <;> intro hc <;> (try simp only [cS] at hc) <;> (try (exfalso; first | contradiction | omega))) | refine sbZ ?_ | refine sqZ ?_)
      exact ret_tmp (.inl rfl) rfl rfl ⟨(), rfl, finE⟩
set_option maxRecDepth 100000 in
theorem wsum_spec (l : List UInt8) (hl : l.length ≤ 1000000) (v : Value) (X : HProp) [hX : Rdr w0 X v UInt8 1 byteC l] : Spec Tryz.prog w0 55 [v] X (fun _ : Unit => u32 (sumOf l)) (fun _ => X) := by
  refine Spec.enter Tryz.func55 rfl Tryz.ntmps55 rfl fun G => ?_
  simp only [argE]
  repeat' (first | (refine WS_seqK ?_; intro K hK) | (refine hK _ ?_; clear hK K) | refine stZ ?_ | refine sqZ ?_)
  refine WS_loop (fun m τ => ∃ j : Nat, j + m = l.length ∧ τ = ⟨[(8, .int .i64 (j : Int)), (7, .int .i64 (l.length : Int)), (6, v), (3, u32 (sumOn 4294967295 (l.take j)))], [], X * G⟩) ?_ ?_
  · exact ⟨l.length, _, ⟨0, by omega, rfl⟩, ⟨rfl, rfl, rfl, rfl, trivial⟩, rfl, finE⟩
  · rintro m τ ⟨j, hj, rfl⟩
    rcases Nat.lt_or_ge j l.length with hlt | hge
    · obtain ⟨z, hz⟩ : ∃ z, l[j]? = some z := ⟨_, List.getElem?_eq_getElem hlt⟩
      repeat' (first | (refine WS_seqK ?_; intro K hK) | (refine hK _ ?_; clear hK K) | refine stZ ?_ | (refine s2Z ?_ ?_ <;> intro hc <;> (try simp only [cS] at hc) <;> (try (exfalso; first | contradiction | omega))) | refine sbZ ?_ | refine sqZ ?_ | ((refine' LQ ?zh rfl ?_); case zh => intro F'; exact Q_conv328 rfl iI iI) | ((refine' LQ ?zh rfl ?_); case zh => intro F'; exact Q_bin rfl rfl iI) | (refine LS_h (H_callX iI rfl (turned_spec w0 _) iI) rfl ?_; intro u))
      refine ⟨m - 1, _, by omega, ⟨j + 1, by omega, rfl⟩, ⟨rfl, rfl, rfl, ?_, trivial⟩, rfl, finE⟩
      rw [List.take_add_one, hz]
      show some _ = some _
      rw [Option.toList_some, sumOn_snoc, ofNat_byte]
    · obtain rfl : j = l.length := by omega
      rw [List.take_length]
      repeat' (first | (refine WS_seqK ?_; intro K hK) | (refine hK _ ?_; clear hK K) | refine stZ ?_ | (refine s2Z ?_ ?_ <;> intro hc <;> (try simp only [cS] at hc) <;> (try (exfalso; first | contradiction | omega))) | refine sbZ ?_ | refine sqZ ?_)
      exact ret_tmp (.inl rfl) rfl rfl ⟨(), rfl, finE⟩
set_option maxRecDepth 100000 in
theorem wrecord_spec (r : Rec) : Spec Tryz.prog w0 31 [.agg r.cells.toArray] emp (fun v' : Value => v') (fun v' => rows 5 1 byteC v' r.bytes) := by
  obtain ⟨own, addr, seq⟩ := r
  cases own
  all_goals
    refine Spec.enter Tryz.func31 rfl Tryz.ntmps31 rfl fun G => ?_
    simp only [argE, Rec.cells]
  · have e : ([2] ++ be addr ++ be seq) ++ be (sumOf ([2] ++ be addr ++ be seq)) = Rec.bytes ⟨false, addr, seq⟩ := by simp [Rec.bytes, Rec.head]
    repeat' (first | (refine WS_seqK ?_; intro K hK) | (refine hK _ ?_; clear hK K) | refine stZ ?_ | (refine s2Z ?_ ?_ <;> intro hc <;> (try simp only [cS] at hc) <;> (try (exfalso; first | contradiction | omega))) | refine sqZ ?_ | (refine shZ ?_; intro g) | ((refine' LS_h ?zh rfl ?_); (case zh => exact H_buildB iI iI iI rfl rfl rfl rfl rfl iI rfl rfl); intro g) | (refine LS_h (H_callX iI rfl (four_spec w0 _ ([2]) addr (by simp)) iI) rfl ?_; intro v3) | (refine LS_h (H_callX iI rfl (four_spec w0 v3 ([2] ++ be addr) seq (by simp [be_length])) iI) rfl ?_; intro v4) | (refine LS_h (H_callX iI rfl (wsum_spec w0 ([2] ++ be addr ++ be seq) (by simp [be_length]) v4 (rows 5 1 byteC v4 ([2] ++ be addr ++ be seq))) iI) rfl ?_; intro u) | (refine LS_h (H_callX iI rfl (four_spec w0 v4 ([2] ++ be addr ++ be seq) (sumOf ([2] ++ be addr ++ be seq)) (by simp [be_length])) iI) rfl ?_; intro v5))
    rw [e]
    exact ret_tmp (.inl rfl) rfl rfl ⟨v5, rfl, finE⟩
  · have e : ([2].set 0 1 ++ be 0 ++ be seq) ++ be (sumOf ([2].set 0 1 ++ be 0 ++ be seq)) = Rec.bytes ⟨true, addr, seq⟩ := by simp [Rec.bytes, Rec.head]
    repeat' (first | (refine WS_seqK ?_; intro K hK) | (refine hK _ ?_; clear hK K) | refine stZ ?_ | (refine s2Z ?_ ?_ <;> intro hc <;> (try simp only [cS] at hc) <;> (try (exfalso; first | contradiction | omega))) | refine sqZ ?_ | (refine shZ ?_; intro g) | ((refine' LS_h ?zh rfl ?_); (case zh => exact H_buildB iI iI iI rfl rfl rfl rfl rfl iI rfl rfl); intro g) | (refine s0Z ?_; intro g) | ((refine' LS_h0 ?zh ?_); (case zh => exact H_store8 rfl rfl iI iI rfl iI (by first | assumption | omega | (simp [be_length] <;> omega))); intro g) | (refine LS_h (H_callX iI rfl (four_spec w0 _ ([2].set 0 1) 0 (by simp)) iI) rfl ?_; intro v3) | (refine LS_h (H_callX iI rfl (four_spec w0 v3 ([2].set 0 1 ++ be 0) seq (by simp [be_length])) iI) rfl ?_; intro v4) | (refine LS_h (H_callX iI rfl (wsum_spec w0 ([2].set 0 1 ++ be 0 ++ be seq) (by simp [be_length]) v4 (rows 5 1 byteC v4 ([2].set 0 1 ++ be 0 ++ be seq))) iI) rfl ?_; intro u) | (refine LS_h (H_callX iI rfl (four_spec w0 v4 ([2].set 0 1 ++ be 0 ++ be seq) (sumOf ([2].set 0 1 ++ be 0 ++ be seq)) (by simp [be_length])) iI) rfl ?_; intro v5))
    rw [e]
    exact ret_tmp (.inl rfl) rfl rfl ⟨v5, rfl, finE⟩
end

section
open Go.RowKit
instance : FixLen Rec.cells 3 := ⟨fun _ => rfl⟩
theorem recC_one : ∀ z, ∀ c ∈ Rec.cells z, c.oneCell' = true := by intro z c hc; simp [Rec.cells] at hc; rcases hc with rfl | rfl | rfl <;> rfl
instance litTT2 : Lit (true == true) true := ⟨rfl⟩
instance litFF2 : Lit (false == false) true := ⟨rfl⟩
attribute [local irreducible] WS LS OpQ OpT OpH OpTQ Spec SpecQ cel
variable (w0 : World)
end

end Go.Proofs.YtapoehkdnglahabGreat

