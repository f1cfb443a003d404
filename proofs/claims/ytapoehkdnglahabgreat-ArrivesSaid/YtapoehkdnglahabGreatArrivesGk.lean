/- A part of what Arrives needs. -/
import Derived.Test.YtapoehkdnglahabGreatArrivesGj
set_option maxHeartbeats 16000000
set_option linter.unusedVariables false
set_option linter.unusedSimpArgs false
set_option linter.unusedSectionVars false
namespace Go.Proofs.YtapoehkdnglahabGreat
section
open Go.RowKit
variable (w0 : World)
theorem clock_add (b r : Nat) (last : Int) (L : List Tm) (t : UInt64) (x : Int) (hl : L.length ≤ 900000) (h0 : 0 ≤ last ∧ last ≤ 1000000000000000) : Spec Tryz.prog w0 227 [ptr b 0, u64 t, .int .i64 x] (clockQ b r last L) (fun _ : Unit => .int .i64 (last + 1)) (fun _ => clockQ b r (last + 1) (L ++ [⟨t, last + 1, x⟩])) := fun G w hs => by
 unfold clockQ at hs
 obtain ⟨l, hs1⟩ := hs.ex
 obtain ⟨tr, hs2⟩ := (hs1.cast (star_assoc _ _ _)).pure
 have hp := tr.perm.length_eq
 refine (hadd_spec w0 b r last l t x (fun u hu => by have := tr.bound u (tr.perm.mem_iff.1 hu); omega) tr.idn (by omega) h0 G w hs2).mono ?_
 rintro e w' ⟨y, he, hx⟩
 exact ⟨y, he, (Ent.hexI (p := fun l => pure' (TR l (L ++ [⟨t, last + 1, x⟩]) (last + 1)) * heapQ b r (last + 1) l) _ ((Ent.pureI (tr.add h0.1 ⟨t, last + 1, x⟩ rfl) (Ent.refl _)).trans (Ent.of_eq (star_assoc _ _ _).symm))).sat hx⟩
theorem clock_none (b r : Nat) (last : Int) (L : List Tm) (now : UInt64) (hb : bestN L now L.length = none) : Spec Tryz.prog w0 143 [ptr b 0, u64 now] (clockQ b r last L) (fun _ : Unit => .tuple #[.int .i64 0, .bool false]) (fun _ => clockQ b r last L) := fun G w hs => by
 unfold clockQ at hs
 obtain ⟨l, hs1⟩ := hs.ex
 obtain ⟨tr, hs2⟩ := (hs1.cast (star_assoc _ _ _)).pure
 have h1 : 0 < l.length → now < (at' l 0).at_ := fun h => by
  by_cases hc : now < (at' l 0).at_
  ·exact hc
  ·obtain ⟨k, hk, _⟩ := tr.due h hc; rw [hb] at hk; cases hk
 refine (hnext_none w0 b r last l now h1 G w hs2).mono ?_
 rintro e w' ⟨y, he, hx⟩
 exact ⟨y, he, (Ent.hexI (p := fun l => pure' (TR l L last) * heapQ b r last l) l ((Ent.pureI tr (Ent.refl _)).trans (Ent.of_eq (star_assoc _ _ _).symm))).sat hx⟩
theorem clock_some (b r : Nat) (last : Int) (L : List Tm) (now : UInt64) {i : Nat} (hb : bestN L now L.length = some i) (hl : L.length ≤ 900000) : Spec Tryz.prog w0 143 [ptr b 0, u64 now] (clockQ b r last L) (fun _ : Unit => .tuple #[.int .i64 (at' L i).what, .bool true]) (fun _ => clockQ b r last (L.eraseIdx i)) := fun G w hs => by
 unfold clockQ at hs
 obtain ⟨l, hs1⟩ := hs.ex
 obtain ⟨tr, hs2⟩ := (hs1.cast (star_assoc _ _ _)).pure
 have hp := tr.perm.length_eq
 have h0 : 0 < l.length := by have := (bestN_some hb).1; omega
 have h1 : ¬ now < (at' l 0).at_ := fun hc => by rw [tr.idle (fun _ => hc)] at hb; cases hb
 obtain ⟨k, hk, hk1, hk2, tr2⟩ := tr.due h0 h1
 rw [hb] at hk; cases hk
 refine (hnext_some w0 b r last l now h0 h1 tr.idn (by omega) G w hs2).mono ?_
 rintro e w' ⟨y, he, hx⟩
 rw [hk2] at he
 exact ⟨y, he, (Ent.hexI (p := fun l => pure' (TR l (L.eraseIdx i) last) * heapQ b r last l) _ ((Ent.pureI tr2 (Ent.refl _)).trans (Ent.of_eq (star_assoc _ _ _).symm))).sat hx⟩
theorem shl64 {P : Program} {t : TypeId} {x : UInt64} {r : Int} (h : 0 ≤ r ∧ r < 64) : BinV P .shl t (u64 x) (.int .i64 r) (u64 (x <<< UInt64.ofNat r.toNat)) := by
 obtain ⟨k, rfl⟩ : ∃ k : Nat, r = (k : Int) := ⟨r.toNat, by omega⟩
 refine ⟨fun w => ?_, fun w _ _ => guard_int _ _ _ _ _ _ _ _ _⟩
 show (Op.shift .shl .u64 (x.toNat : Int) .i64 (k : Int)).run P w = _
 have hk : k < 64 := by omega
 unfold Op.shift
 rw [if_neg (by omega)]
 simp only [Int.toNat_natCast, IntKind.bits]
 rw [show min k 64 = k by omega]
 have e : u64 (x <<< UInt64.ofNat k) = .int .u64 (IntKind.u64.wrap ((x.toNat : Int) * 2 ^ k)) := by
  refine (ofNat_u64 ?_).symm
  rw [wrap_u64, UInt64.toNat_shiftLeft, UInt64.toNat_ofNat']
  rw [Nat.mod_eq_of_lt (show k < 2 ^ 64 by omega), Nat.mod_eq_of_lt hk, Nat.shiftLeft_eq]
  simp
 rw [e]; rfl
theorem Q_convU {P : Program} {n : Frm} {w0 : World} {E : Env} {H : HProp} {d : Option Tmp} {ty : TypeId} {pos : String} {after : Array Edge} {gu : Option (Tmp × Bool)} {x : Operand} {src t : TypeId} {q : IntKind} {m : Int} {ds : TypeDesc} (hx : E.ev x = some (.int q m)) (hs : Und P src ds) (hd : Und P t (.int .u64)) (hm : 0 ≤ m ∧ m < 1000000) : OpQ P n w0 ⟨d, .convert src t x, ty, pos, after, gu⟩ E H (u64 (UInt64.ofNat m.toNat)) :=
 Q_convI hx hs hd (by rw [wrap_u64, UInt64.toNat_ofNat']; omega)
theorem askWait_eq (x : Sr) (h : 0 ≤ x.ttl ∧ x.ttl ≤ 8 ∧ 0 ≤ x.retries ∧ x.retries ≤ 2) : askWait x = (80 * UInt64.ofNat (x.ttl + 2).toNat) <<< UInt64.ofNat x.retries.toNat := by
 obtain ⟨d, ttl, ret, o, nm⟩ := x
 simp only at h
 unfold askWait
 simp only
 obtain ⟨h1, h2, h3, h4⟩ := h
 have a : ttl = 0 ∨ ttl = 1 ∨ ttl = 2 ∨ ttl = 3 ∨ ttl = 4 ∨ ttl = 5 ∨ ttl = 6 ∨ ttl = 7 ∨ ttl = 8 := by omega
 have b : ret = 0 ∨ ret = 1 ∨ ret = 2 := by omega
 rcases a with rfl | rfl | rfl | rfl | rfl | rfl | rfl | rfl | rfl <;> rcases b with rfl | rfl | rfl <;> decide
theorem modify_set {α : Type} {l : List α} {k : Nat} {x : α} (h : l[k]? = some x) (f : α → α) : l.modify k f = l.set k (f x) := by
 apply List.ext_getElem?
 intro j
 rw [List.getElem?_modify, List.getElem?_set]
 by_cases e : k = j
 ·subst e
  obtain ⟨h1, h2⟩ := List.getElem?_eq_some_iff.1 h
  simp [h1, h2]
 ·simp [e]
theorem srs_open (g : Nat) {bs : List Nat} {ss : List Sr} {k b : Nat} {x : Sr} (hl : bs.length = ss.length) (hb : bs[k]? = some b) (hx : ss[k]? = some x) : ∃ F, srsQ g bs ss = cel b 247 (srC g b x) * F ∧ ∀ y, srsQ g bs (ss.set k y) = cel b 247 (srC g b y) * F := by
 obtain ⟨F, e1, e2, _⟩ := zrow_hole (srP g) hb hx
 refine ⟨F, by rw [srsQ_eq hl, srsP_z, e1]; rfl, fun y => ?_⟩
 have := e2 b y
 rw [show bs.set k b = bs from by
  apply List.ext_getElem?
  intro j
  rw [List.getElem?_set]
  split
  ·rename_i e; subst e; obtain ⟨h1, h2⟩ := List.getElem?_eq_some_iff.1 hb; simp [h1, h2]
  ·rfl] at this
 rw [srsQ_eq (by simpa using hl), srsP_z, this]; rfl
def nodO (g : Nat) (s : Nd) (h : NH) (b : Nat) (x : Sr) (F1 : HProp) : HProp :=
 cel g 159 (nodC 1 s h s.out) * (rows 28 3 Rec.cells h.vr s.recs * (mp u32 u32 h.rh s.held * (tabQ h.tb s.self s.ls * (outH h s.out * (mp rqV u64 h.rs s.seen * (rows 269 2 rqC h.vo s.order * (waitQ h.rw h.wv s.wait * (mp u32 ptrV h.rq (qmap h.sb s.srs) * (mp i64 ptrV h.ri (imap h.sb s.srs) * (cel b 247 (srC g b x) * (F1 * (clockQ h.cb h.cr s.last s.clk * rows 24 1 wrd64C h.vs s.sent))))))))))))
theorem Nd.Fit.note {s : Nd} {k : Nat} (h : s.Fit (k + 1)) (ok : TabOk s.ls) : s.note.Fit k := by
 obtain ⟨a, b, c, d, e⟩ := h
 have h1 := Nd.Same.note s
 have h2 := Nd.note_recs s ok
 have h3 := Nd.note_jour s ok
 exact ⟨by rw [h1.frames]; omega, by rw [h1.came]; omega, by rw [h1.dropped]; omega, by omega, by omega⟩
attribute [local irreducible] WS LS OpQ OpT OpH OpTQ Spec SpecQ cel
set_option maxRecDepth 100000 in
theorem ask_spec (gn : Nat) (s : Nd) (h : NH) {k b : Nat} {x : Sr} (hx : s.srs[k]? = some x) (hb : h.sb[k]? = some b) (hxr : 0 ≤ x.ttl ∧ x.ttl ≤ 8 ∧ 0 ≤ x.retries ∧ x.retries ≤ 2) (ok : TabOk s.ls) (hod : s.order.length ≤ 16) (hsn : s.sent.length ≤ 100) (hck : s.clk.length ≤ 900000) (hla : 0 ≤ s.last ∧ s.last ≤ 1000000000000) (hf : s.Fit 3) : Spec Tryz.prog w0 198 [ptr b 0] (nodP gn s h) (fun _ : Unit => .tuple #[]) (fun _ => nodA gn (s.ask k x)) := by
  refine Spec.enter Tryz.func198 rfl Tryz.ntmps198 rfl fun G => ?_
  refine WS_lens fun hsb hwv => ?_
  obtain ⟨F1, e1, e2⟩ := srs_open gn hsb hb hx
  have hmd := fun f => modify_set hx f
  have hqm : ∀ y : Sr, y.dest = x.dest → qmap h.sb (s.srs.set k y) = qmap h.sb s.srs := fun y hy => zmap_set (key := fun x : Sr => x.dest) hx hy
  have him : ∀ y : Sr, y.name = x.name → imap h.sb (s.srs.set k y) = imap h.sb s.srs := fun y hy => zmap_set (key := fun x : Sr => x.name) hx hy
  obtain ⟨xd, xt, xr, xo, xn⟩ := x
  simp only at hxr hqm him
  have hqm1 := fun o => hqm ⟨xd, xt, xr, o, xn⟩ rfl
  have him1 := fun o => him ⟨xd, xt, xr, o, xn⟩ rfl
  simp only [argE]
  by_cases hc : s.now < s.silent
  · have es : s.ask k ⟨xd, xt, xr, xo, xn⟩ = ((s.setOut k false).drop 8).arm xn 1000 := by unfold Nd.ask; rw [if_pos hc]
    have p1 := ndrop_spec w0 gn (s.setOut k false) h 8 (by have := hf.dropped; exact (by omega : s.out.dropped.length ≤ 900000))
    have p2 := clock_add w0 h.cb h.cr s.last s.clk (s.now + 1000) xn hck (by omega)
    simp only [nodP, nodPm, nodC, outH, restP, restC, Nd.setOut, Nd.drop, hmd, e1, e2, hqm1, him1, srC] at p1 ⊢
    repeat' (first | (show WS _ _ _ (.region 14 _ true) _ _; refine WS_drawA (.range 10) (by decide +kernel) rfl ?_) | (show WS _ _ _ (.region 18 _ true) _ _; refine WS_drawK (.range 15) 14 [3, 7, 13] (by decide +kernel) rfl ?_) | (refine WS_seqK ?_; intro K hK) | (refine hK _ ?_; clear hK K) | refine stZ ?_ | (refine s2Z ?_ ?_ <;> intro hc <;> (try simp only [cS] at hc) <;> (try (exfalso; first | contradiction | omega))) | refine sbZ ?_ | refine sqZ ?_ | ((first | refine' LQ ?zh rfl ?_ | refine' DL_q rfl rfl ?zh ?_); case zh => intro F'; exact Q_bin rfl rfl iI) | (refine s0Z ?_; intro g) | (refine LS_h (H_callX iI rfl p1 iI) rfl ?_; intro vd) | (refine DL_h (H_callX iI rfl p2 iI) rfl rfl rfl ?_; intro x2))
    refine ret_none (.inr rfl) rfl ⟨(), rfl, ?_⟩
    rw [es]
    refine Ent.nod { h with vd := vd } ?_
    simp only [nodP, nodPm, nodC, outH, restP, restC, Nd.setOut, Nd.drop, Nd.arm, hmd, e1, e2, hqm1, him1, srC]
    exact finE
  have pb := busy_spec w0 gn (s.setOut k false) h (by show s.sent.length ≤ 1000; omega)
  have hbs : ∀ o, busyN (s.setOut k o).now (s.setOut k o).sent = busyN s.now s.sent := fun _ => rfl
  rw [hbs] at pb
  by_cases hc2 : 5 ≤ busyN s.now s.sent
  · have es : s.ask k ⟨xd, xt, xr, xo, xn⟩ = ((s.setOut k false).drop 9).arm xn 1000 := by unfold Nd.ask; rw [if_neg hc, if_pos hc2]
    have p1 := ndrop_spec w0 gn (s.setOut k false) h 9 (by have := hf.dropped; exact (by omega : s.out.dropped.length ≤ 900000))
    have p2 := clock_add w0 h.cb h.cr s.last s.clk (s.now + 1000) xn hck (by omega)
    rw [decide_eq_true hc2] at pb
    simp only [nodP, nodPm, nodC, outH, restP, restC, Nd.setOut, Nd.drop, hmd, e1, e2, hqm1, him1, srC] at p1 pb ⊢
    repeat' (first | (show WS _ _ _ (.region 14 _ true) _ _; refine WS_drawA (.range 10) (by decide +kernel) rfl ?_) | (show WS _ _ _ (.region 18 _ true) _ _; refine WS_drawK (.range 15) 14 [3, 7, 13] (by decide +kernel) rfl ?_) | (refine WS_seqK ?_; intro K hK) | (refine hK _ ?_; clear hK K) | refine stZ ?_ | (refine s2Z ?_ ?_ <;> intro hc <;> (try simp only [cS] at hc) <;> (try (exfalso; first | contradiction | omega))) | refine sbZ ?_ | refine sqZ ?_ | ((first | refine' LQ ?zh rfl ?_ | refine' DL_q rfl rfl ?zh ?_); case zh => intro F'; exact Q_bin rfl rfl iI) | (refine s0Z ?_; intro g) | (refine LS_h (H_callX iI rfl pb iI) rfl ?_; intro x0) | (refine LS_h (H_callX iI rfl p1 iI) rfl ?_; intro vd) | (refine DL_h (H_callX iI rfl p2 iI) rfl rfl rfl ?_; intro x2))
    refine ret_none (.inr rfl) rfl ⟨(), rfl, ?_⟩
    rw [es]
    refine Ent.nod { h with vd := vd } ?_
    simp only [nodP, nodPm, nodC, outH, restP, restC, Nd.setOut, Nd.drop, Nd.arm, hmd, e1, e2, hqm1, him1, srC]
    exact finE
  rw [decide_eq_false hc2] at pb
  obtain ⟨s0, hs0⟩ : ∃ s0 : Nd, s0 = { s.setOut k true with seq := growS s.seq } := ⟨_, rfl⟩
  obtain ⟨sB, hsB⟩ : ∃ sB : Nd, sB = s0.note := ⟨_, rfl⟩
  have hfB : sB.Fit 2 := by rw [hsB]; exact Nd.Fit.note (s := s0) (by rw [hs0]; exact ⟨hf.frames, hf.came, hf.dropped, hf.recs, hf.journal⟩) (by rw [hs0]; exact ok)
  have hSm := Nd.Same.note s0
  have okB : TabOk sB.ls := by rw [hsB, hSm.ls, hs0]; exact ok
  have hBs : sB.srs = s.srs.set k ⟨xd, xt, xr, true, xn⟩ := by rw [hsB, hSm.srs, hs0]; exact hmd _
  have hBsent : sB.sent = s.sent := by rw [hsB, hSm.sent, hs0]; rfl
  have hBord : sB.order = s.order := by rw [hsB, hSm.order, hs0]; rfl
  have hBclk : sB.clk = s.clk := by rw [hsB, hSm.clk, hs0]; rfl
  have hBlast : sB.last = s.last := by rw [hsB, hSm.last, hs0]; rfl
  have hSB : srsQ gn h.sb sB.srs = cel b 247 (srC gn b ⟨xd, xt, xr, true, xn⟩) * F1 := by rw [hBs]; exact e2 _
  obtain ⟨s2, hs2⟩ : ∃ s2 : Nd, s2 = { sB with ids := sB.ids + 1, sent := trimS (sB.sent ++ [sB.now]) } := ⟨_, rfl⟩
  have es : s.ask k ⟨xd, xt, xr, xo, xn⟩ = ((s2.send 0 ⟨xt, 1, 0, (lget s2.ls xd).isNone, s2.ids, xd, numT s2.ls xd, s2.self, s2.seq, 0, [], []⟩).remember ⟨s2.self, s2.ids⟩).arm xn (askWait ⟨xd, xt, xr, xo, xn⟩) := by
    unfold Nd.ask
    rw [if_neg hc, if_neg hc2]
    unfold Nd.ask1
    rw [hs2, hsB, hs0]
    rfl
  have hS2 : srsQ gn h.sb s2.srs = cel b 247 (srC gn b ⟨xd, xt, xr, true, xn⟩) * F1 := by rw [hs2]; exact hSB
  have hf2 : s2.Fit 2 := by rw [hs2]; exact ⟨hfB.frames, hfB.came, hfB.dropped, hfB.recs, hfB.journal⟩
  have ok2 : TabOk s2.ls := by rw [hs2]; exact okB
  have ho2 : s2.order.length ≤ 16 := by rw [hs2]; show sB.order.length ≤ 16; rw [hBord]; exact hod
  have hc2' : s2.clk = s.clk := by rw [hs2]; exact hBclk
  have hl2' : s2.last = s.last := by rw [hs2]; exact hBlast
  have pg := grow_spec w0 s.seq
  have pn := note_spec w0 1 gn s0 h ⟨by rw [hs0]; have := hf.recs; exact (by omega : s.recs.length + 10 ≤ 500000), by rw [hs0]; have := hf.journal; exact (by omega : s.out.journal.length + 13 * 10 ≤ 900000)⟩ (by rw [hs0]; exact ok)
  rw [← hsB] at pn
  rw [hs0] at pn
  have hsl : (sB.sent ++ [sB.now]).length = s.sent.length + 1 := by rw [hBsent]; simp
  have hsl0 : sB.sent.length ≤ 100 := by rw [hBsent]; exact hsn
  simp only [nodP, nodPm, nodC, outH, restP, restC, Nd.setOut, hmd, e1, e2, hqm1, him1, srC, hSB, growS] at pb pn ⊢
  have hr2 : ∀ (vr vs : Value), ∃ h2 : NH, h2 = { h with vr := vr, vs := vs } := fun _ _ => ⟨_, rfl⟩
  by_cases hlen : 5 < (sB.sent ++ [sB.now]).length
  all_goals
    first
    | (have htr : s2.sent = (sB.sent ++ [sB.now]).drop 1 := by rw [hs2]; unfold trimS; rw [if_pos hlen])
    | (have htr : s2.sent = sB.sent ++ [sB.now] := by rw [hs2]; unfold trimS; rw [if_neg hlen])
    have hlen' : (5 : Int) < ((sB.sent ++ [sB.now]).length : Int) ∨ ¬ (5 : Int) < ((sB.sent ++ [sB.now]).length : Int) := by omega
    repeat' (first | (show WS _ _ _ (.region 14 _ true) _ _; refine WS_drawA (.range 10) (by decide +kernel) rfl ?_) | (show WS _ _ _ (.region 7 _ true) _ _; first | refine WS_drawK (.range 14) 10 [4, 8] (by decide +kernel) rfl ?_ | refine WS_drawM 2 (.range 14) 13 [4, 8] (by decide +kernel) rfl rfl iI ?_) | (refine WS_seqK ?_; intro K hK) | (refine hK _ ?_; clear hK K) | refine stZ ?_ | (refine s2Z ?_ ?_ <;> intro hc <;> (try simp only [cS] at hc) <;> (try (exfalso; first | contradiction | omega))) | refine sbZ ?_ | refine sqZ ?_ | ((first | refine' LQ ?zh rfl ?_ | refine' DL_qp rfl rfl rfl ?zh ?_ | refine' DL_q rfl rfl ?zh ?_); case zh => intro F'; exact Q_sliceR_l rfl rfl iI iI iI iI (by first | assumption | omega | (simp [be_length] <;> omega))) | ((refine' LQ ?zh rfl ?_); case zh => intro F'; exact Q_bin rfl rfl iI) | (refine s0Z ?_; intro g) | (refine LS_h (H_callX iI rfl pb iI) rfl ?_; intro x0) | (refine LS_h (H_call0 iI rfl pg) rfl ?_; intro ug) | (refine LS_h (H_callX iI rfl pn iI) rfl ?_; intro vr) | (refine DL_h (H_buildSliceR wrd64C [sB.now] iI iI iI rfl rfl rfl rfl rfl iI rfl rfl rfl) rfl rfl rfl ?_; intro vx) | (refine DL_h (H_appendR rfl rfl iI iI rfl iI iI wrd64C_one (by first | omega | (simp [be_length] <;> omega)) rfl) rfl rfl rfl ?_; intro va))
    first
    | (have hpos : 5 < (sB.sent ++ [sB.now]).length := hlen
       refine WS_ent (H' := nodO gn s2 { h with vr := vr, vs := sTail 1 va 1 } b ⟨xd, xt, xr, true, xn⟩ F1 * G) (by
         rw [hs2]
         simp only [nodO, nodC, outH, trimS, if_pos hlen, srC]
         refine (Ent.tailR (v := va) 1 (by omega)).trans ?_
         exact finE) ?_
       obtain ⟨h2, hh⟩ : ∃ h2 : NH, h2 = { h with vr := vr, vs := sTail 1 va 1 } := ⟨_, rfl⟩
       rw [← hh]
       have hh2 : h2.tb = h.tb ∧ h2.sb = h.sb ∧ h2.cb = h.cb ∧ h2.cr = h.cr := by rw [hh]; exact ⟨rfl, rfl, rfl, rfl⟩
       clear hh)
    | (refine WS_ent (H' := nodO gn s2 { h with vr := vr, vs := va } b ⟨xd, xt, xr, true, xn⟩ F1 * G) (by
         rw [hs2]
         simp only [nodO, nodC, outH, trimS, if_neg hlen, srC]
         exact finE) ?_
       obtain ⟨h2, hh⟩ : ∃ h2 : NH, h2 = { h with vr := vr, vs := va } := ⟨_, rfl⟩
       rw [← hh]
       have hh2 : h2.tb = h.tb ∧ h2.sb = h.sb ∧ h2.cb = h.cb ∧ h2.cr = h.cr := by rw [hh]; exact ⟨rfl, rfl, rfl, rfl⟩
       clear hh)
    obtain ⟨i1, i2, i3, i4⟩ := hh2
    clear pb pn
    rw [← i2] at hS2
    have p4 := number_spec w0 h2.tb s2.self s2.ls xd
    obtain ⟨pk, hpk⟩ : ∃ pk : Pk, pk = ⟨xt, 1, 0, (lget s2.ls xd).isNone, s2.ids, xd, numT s2.ls xd, s2.self, s2.seq, 0, [], []⟩ := ⟨_, rfl⟩
    have p5 := send_E0 w0 gn s2 h2 0 pk (by rw [hpk]; exact ⟨by simp only [i64R]; omega, by simp [i64R], by simp [i64R], by simp, by simp⟩) (by rw [hpk]) (hf2.le (by omega))
    obtain ⟨s3, hs3⟩ : ∃ s3 : Nd, s3 = s2.send 0 pk := ⟨_, rfl⟩
    have e3 : s3.self = s2.self ∧ s3.ids = s2.ids ∧ s3.srs = s2.srs ∧ s3.order = s2.order ∧ s3.now = s2.now ∧ s3.clk = s2.clk ∧ s3.last = s2.last := by rw [hs3]; exact ⟨rfl, rfl, rfl, rfl, rfl, rfl, rfl⟩
    rw [← hs3] at p5
    have p6 := fun vf => remember_spec w0 gn s3 { h2 with vf := vf } ⟨s3.self, s3.ids⟩ (by rw [e3.2.2.2.1]; exact ho2)
    obtain ⟨s4, hs4⟩ : ∃ s4 : Nd, s4 = s3.remember ⟨s3.self, s3.ids⟩ := ⟨_, rfl⟩
    have e4 : s4.srs = s3.srs ∧ s4.now = s3.now ∧ s4.clk = s3.clk ∧ s4.last = s3.last := by rw [hs4]; unfold Nd.remember; dsimp only; split <;> exact ⟨rfl, rfl, rfl, rfl⟩
    rw [← hs4] at p6
    have hS3 : srsQ gn h2.sb s3.srs = cel b 247 (srC gn b ⟨xd, xt, xr, true, xn⟩) * F1 := by rw [e3.2.2.1]; exact hS2
    have hS4 : srsQ gn h2.sb s4.srs = cel b 247 (srC gn b ⟨xd, xt, xr, true, xn⟩) * F1 := by rw [e4.1]; exact hS3
    have p7 := clock_add w0 h2.cb h2.cr s4.last s4.clk (s4.now + ((80 * UInt64.ofNat (xt + 2).toNat) <<< UInt64.ofNat xr.toNat)) xn (by rw [e4.2.2.1, e3.2.2.2.2.2.1, hc2']; exact hck) (by rw [e4.2.2.2, e3.2.2.2.2.2.2, hl2']; omega)
    have es2 : s.ask k ⟨xd, xt, xr, xo, xn⟩ = s4.arm xn ((80 * UInt64.ofNat (xt + 2).toNat) <<< UInt64.ofNat xr.toNat) := by
      rw [es, askWait_eq _ hxr, ← hpk, ← hs3, hs4, e3.1, e3.2.1]
    rw [hpk] at p5
    have hsh : 0 ≤ xr ∧ xr < 64 := by omega
    simp only [nodP, nodPm, nodC, outH, restP, restC, hS2, hS3, hS4, Pk.val, Pk.cells, rqV, rqC, srC] at p5 p6
    simp only [nodO, nodC, outH, srC]
    cases hg : lget s2.ls xd
    all_goals
      simp only [numT, hg, Option.isSome_none, Option.isSome_some, Option.isNone_none, Option.isNone_some] at p4 p5
      repeat' (first | (show WS _ _ _ (.region 10 _ true) _ _; refine WS_drawK (.range 14) 8 [3, 7] (by decide +kernel) rfl ?_) | (show WS _ _ _ (.region 11 _ true) _ _; refine WS_drawK (.range 26) 25 [4, 10, 14, 19, 23] (by decide +kernel) rfl ?_) | (show WS _ _ _ (.region 12 _ true) _ _; refine WS_drawK (.range 11) 10 [4, 8] (by decide +kernel) rfl ?_) | (show WS _ _ _ (.region 13 _ true) _ _; refine WS_drawA (.range 13) (by decide +kernel) rfl ?_) | (show WS _ _ _ (.region 18 _ true) _ _; refine WS_drawK (.range 15) 14 [3, 7, 13] (by decide +kernel) rfl ?_) | (refine WS_seqK ?_; intro K hK) | (refine hK _ ?_; clear hK K) | refine stZ ?_ | refine sqZ ?_ | ((refine' DL_q rfl rfl ?zh ?_); case zh => intro F'; exact Q_bin rfl rfl iI) | (refine DL_h (H_callX iI rfl p4 iI) rfl rfl rfl ?_; intro x4) | (refine DL_h (H_callX iI rfl p5 iI) rfl rfl rfl ?_; intro vf; replace p6 := p6 vf) | (refine DL_h (H_callX iI rfl p6 iI) rfl rfl rfl ?_; intro vo) | ((first | refine' DL_qp rfl rfl rfl ?zh ?_ | refine' DL_q rfl rfl ?zh ?_); (case zh => intro F'; exact Q_convU rfl iI iI (by omega))) | ((first | refine' DL_qp rfl rfl rfl ?zh ?_ | refine' DL_q rfl rfl ?zh ?_); (case zh => intro F'; exact Q_bin rfl rfl (shl64 hsh))) | (refine DL_h (H_callX iI rfl p7 iI) rfl rfl rfl ?_; intro x7))
      refine ret_none (.inr rfl) rfl ⟨(), rfl, ?_⟩
      rw [es2]
      refine Ent.nod { h2 with vf := vf, vo := vo } ?_
      simp only [nodP, nodPm, nodC, outH, restP, restC, Nd.arm, hS4, srC]
      exact finE
end

section
open Go.RowKit
theorem restP_hand (gn : Nat) (s : Nd) (d : UInt32) (t : Str) (h : NH) : restP gn (s.hand d t) h = restP gn s h := by
 unfold Nd.hand
 split <;> rfl
theorem Nd.handAll_snoc (s : Nd) (d : UInt32) (l : List Str) (t : Str) : s.handAll d (l ++ [t]) = (s.handAll d l).hand d t := by simp [Nd.handAll]
theorem restP_handAll (gn : Nat) (s : Nd) (d : UInt32) (l : List Str) (h : NH) : restP gn (s.handAll d l) h = restP gn s h := by
 induction l using snocInd with
 | nil => rfl
 | snoc l t ih => rw [Nd.handAll_snoc, restP_hand, ih]
theorem Nd.hand_ls (s : Nd) (d : UInt32) (t : Str) (ok : TabOk s.ls) : TabOk (s.hand d t).ls := by
 unfold Nd.hand
 split
 ·exact ok
 ·exact ok.use _ _
theorem Nd.handAll_ls (s : Nd) (d : UInt32) (l : List Str) (ok : TabOk s.ls) : TabOk (s.handAll d l).ls := by
 induction l using snocInd with
 | nil => exact ok
 | snoc l t ih => rw [Nd.handAll_snoc]; exact Nd.hand_ls _ _ _ ih
theorem Nd.Fit.hand {s : Nd} {k : Nat} (h : s.Fit (k + 1)) (d : UInt32) (t : Str) : (s.hand d t).Fit k := by
 unfold Nd.hand
 split
 ·exact h.le (by omega)
 ·obtain ⟨a, b, c, e, f⟩ := h
  constructor <;> simp only [Nd.send, List.length_append, List.length_cons, List.length_nil] <;> omega
theorem Nd.Fit.handAll {k : Nat} (d : UInt32) (l : List Str) : ∀ {s : Nd}, s.Fit (l.length + k) → (s.handAll d l).Fit k := by
 induction l with
 | nil => intro s h; exact h.le (by simp)
 | cons t l ih => intro s h; exact ih (Nd.Fit.hand (h.le (by simp only [List.length_cons]; omega)) d t)
theorem Nd.handAll_srs (s : Nd) (d : UInt32) (l : List Str) : (s.handAll d l).srs = s.srs ∧ (s.handAll d l).wait = s.wait ∧ (s.handAll d l).names = s.names ∧ (s.handAll d l).self = s.self ∧ (s.handAll d l).now = s.now := by
 induction l using snocInd with
 | nil => exact ⟨rfl, rfl, rfl, rfl, rfl⟩
 | snoc l t ih =>
  rw [Nd.handAll_snoc]
  unfold Nd.hand
  split <;> exact ih
theorem mdel_k (ws : List (UInt32 × List Str)) (d : UInt32) : mdel ws d = match kfind (·.1) ws d with | some k => ws.eraseIdx k | none => ws := by
 have : ∀ ws : List (UInt32 × List Str), mfind ws d = kfind (·.1) ws d := fun ws => by
  induction ws with
  | nil => rfl
  | cons x r ih => simp only [mfind, kfind]; rw [ih]
 unfold mdel
 rw [this]
 cases kfind (·.1) ws d <;> rfl
theorem Ent.two {H A B C F F' K : HProp} (h1 : Own H A F) (h2 : Own F B F') (e : ∀ Z, Ent (A * (B * Z)) (C * Z)) (r : Ent (C * F') K) : Ent H K := ((Ent.of_eq (by rw [h1.eq, h2.eq])).trans (e F')).trans r
theorem WS_texts {P : Program} {n : Frm} {w0 : World} {E : Env} {D : List Deferred} {F : HProp} {c : Code} {Q : Exit → St → Prop} {mu : Int} {g : Nat} {s : Nd} {h : NH} (d : UInt32) (hwv : h.wv.length = s.wait.length)
  (hw : ∀ A cap R1, optV slV' (.slice none 0 0) (mget (wmap h.wv s.wait) d) = .slice A (s.texts d).length cap → (∀ Z, Ent (restP g s h * Z) (rows 9 1 strCc (.slice A (s.texts d).length cap) (s.texts d) * (R1 * Z))) → (∀ Z, Ent (rows 9 1 strCc (.slice A (s.texts d).length cap) (s.texts d) * (R1 * Z)) (restP g s h * Z)) → WS P n w0 c Q ⟨E, D, nodPm mu g s h * F⟩) : WS P n w0 c Q ⟨E, D, nodPm mu g s h * F⟩ := fun a w gd => by
 cases hk : kfind (·.1) s.wait d with
 | none =>
  have hte : s.texts d = [] := by unfold Nd.texts; rw [mget_k, hk]; rfl
  have hm : mget (wmap h.wv s.wait) d = none := mget_zmap_none (key := fun x : UInt32 × List Str => x.1) hwv hk
  rw [hte, hm] at hw
  exact hw none 0 (restP g s h) rfl (fun Z => Ent.nil _ _ _ _ _) (fun Z => Ent.drop _ _) a w gd
 | some k =>
  obtain ⟨x, hx, hxd⟩ := kfind_some hk
  obtain ⟨v, hv⟩ : ∃ v, h.wv[k]? = some v := ⟨_, List.getElem?_eq_getElem (by rw [hwv]; exact (List.getElem?_eq_some_iff.1 hx).1)⟩
  have hte : s.texts d = x.2 := by unfold Nd.texts; rw [mget_k, hk]; simp [hx]
  have hm : mget (wmap h.wv s.wait) d = some v := mget_zmap_some (key := fun x : UInt32 × List Str => x.1) hwv hk hv
  obtain ⟨F1, e1, _, _⟩ := zrow_hole txP hv hx
  obtain ⟨R1, e⟩ : ∃ R1, restP g s h = rows 9 1 strCc (slV' v) x.2 * R1 := ⟨mp rqV u64 h.rs s.seen * (rows 269 2 rqC h.vo s.order * (mp u32 slV' h.rw (wmap h.wv s.wait) * (F1 * (mp u32 ptrV h.rq (qmap h.sb s.srs) * (mp i64 ptrV h.ri (imap h.sb s.srs) * (srsQ g h.sb s.srs * (clockQ h.cb h.cr s.last s.clk * rows 24 1 wrd64C h.vs s.sent))))))), by
   unfold restP restC
   rw [waitQ_eq hwv, textsP_z, e1]
   unfold txP
   ac_rfl⟩
  have hs := gd.sat
  have e3 : nodPm mu g s h * F = rows 9 1 strCc (slV' v) x.2 * (cel g 159 (nodC mu s h s.out) * (rows 28 3 Rec.cells h.vr s.recs * (mp u32 u32 h.rh s.held * (tabQ h.tb s.self s.ls * (outH h s.out * (R1 * F)))))) := by
   unfold nodPm
   rw [e]
   ac_rfl
  obtain ⟨A, cap, hA⟩ := rows_form (hs.cast e3)
  rw [hte, hm] at hw
  refine hw A cap R1 hA ?_ ?_ a w gd
  ·intro Z; rw [e, hA, star_assoc]; exact Ent.refl _
  ·intro Z; rw [e, hA, star_assoc]; exact Ent.refl _
theorem wait_del (r : Nat) {vs : List (Option Addr × Nat × Nat)} {ws : List (UInt32 × List Str)} (hl : vs.length = ws.length) (d : UInt32) : ∃ vs', ∀ Z, Ent (mp u32 slV' r (mdel (wmap vs ws) d) * (textsP vs ws * Z)) (waitQ r vs' (mdel ws d) * Z) := by
 cases hk : kfind (·.1) ws d with
 | none =>
  have hdl : mdel (wmap vs ws) d = wmap vs ws := mdel_zmap_none (key := fun x : UInt32 × List Str => x.1) hl hk
  have hd2 : mdel ws d = ws := by rw [mdel_k, hk]
  refine ⟨vs, fun Z => ?_⟩
  rw [hdl, hd2, waitQ_eq hl, star_assoc]
  exact Ent.refl _
 | some k =>
  obtain ⟨x, hx, hxd⟩ := kfind_some hk
  obtain ⟨v, hv⟩ : ∃ v, vs[k]? = some v := ⟨_, List.getElem?_eq_getElem (by rw [hl]; exact (List.getElem?_eq_some_iff.1 hx).1)⟩
  have hdl : mdel (wmap vs ws) d = wmap (vs.eraseIdx k) (ws.eraseIdx k) := mdel_zmap (key := fun x : UInt32 × List Str => x.1) hl hk
  have hd2 : mdel ws d = ws.eraseIdx k := by rw [mdel_k, hk]
  obtain ⟨F1, e1, _, e3⟩ := zrow_hole txP hv hx
  refine ⟨vs.eraseIdx k, fun Z => ?_⟩
  rw [hdl, hd2, waitQ_eq (by rw [List.length_eraseIdx, List.length_eraseIdx, hl]), textsP_z, textsP_z, e1, e3, star_assoc, star_assoc]
  exact Ent.tail _ (Ent.drop _ _)
theorem Spec.conv {P : Program} {w0 : World} {f : FuncId} {args : List Value} {X X' : HProp} {α : Type} {res : α → Value} {Y Y' : α → HProp} (h : Spec P w0 f args X res Y) (e1 : ∀ Z, Ent (X' * Z) (X * Z)) (e2 : ∀ x Z, Ent (Y x * Z) (Y' x * Z)) : Spec P w0 f args X' res Y' := fun G w hs => (h G w ((e1 G).sat hs)).mono fun e w' ⟨x, he, hx⟩ => ⟨x, he, (e2 x G).sat hx⟩
def coreP (g : Nat) (s : Nd) (h : NH) : HProp := cel g 159 (nodC 1 s h s.out) * (rows 28 3 Rec.cells h.vr s.recs * (mp u32 u32 h.rh s.held * (tabQ h.tb s.self s.ls * outH h s.out)))
theorem nodP_core (g : Nat) (s : Nd) (h : NH) (Z : HProp) : nodP g s h * Z = coreP g s h * (restP g s h * Z) := by unfold nodP nodPm coreP; ac_rfl
attribute [local irreducible] WS LS OpQ OpT OpH OpTQ Spec SpecQ cel
variable (w0 : World)
set_option maxRecDepth 100000 in
theorem flush_spec (gn : Nat) (s : Nd) (h : NH) (d : UInt32) (ok : TabOk s.ls) (so : SrOk s) (hl : (s.texts d).length ≤ 100) (ht : ∀ t ∈ s.texts d, t.length ≤ 100) (hf : s.Fit ((s.texts d).length + 1)) : Spec Tryz.prog w0 177 [ptr gn 0, u32 d] (nodP gn s h) (fun _ : Unit => .tuple #[]) (fun _ => nodA gn (s.flush d)) := by
  refine Spec.enter Tryz.func177 rfl Tryz.ntmps177 rfl fun G => ?_
  refine WS_lens fun hsb hwv => ?_
  refine WS_texts d hwv fun A cap R1 hm ho hc => ?_
  obtain ⟨tv, htv⟩ : ∃ tv, tv = s.texts d := ⟨_, rfl⟩
  rw [← htv] at hl ht hf hm ho hc
  simp only [nodP, nodPm, nodC, outH, restP, restC, waitQ_eq hwv]
  simp only [argE]
  repeat' (first | (refine WS_seqK ?_; intro K hK) | (refine hK _ ?_; clear hK K) | refine stZ ?_ | refine sqZ ?_ | ((refine' LQ ?zh rfl ?_); case zh => intro F'; exact Q_lookupE rfl rfl iI iI iI iI iI (by assumption)))
  refine WS_ent (H' := coreP gn s h * (rows 9 1 strCc (.slice A tv.length cap) tv * (R1 * G))) (by
    refine Ent.trans ?_ (Ent.tail _ (ho G))
    simp only [coreP, nodC, outH, restP, restC, waitQ_eq hwv]
    exact finE) ?_
  refine WS_loop (fun k τ => ∃ (j : Nat) (vf : Value), j + k = tv.length ∧ τ = ⟨[(14, .int .i64 (j : Int)), (13, .int .i64 (tv.length : Int)), (12, .slice A tv.length cap), (0, ptr gn 0), (1, u32 d)], [], coreP gn (s.handAll d (tv.take j)) { h with vf := vf } * (rows 9 1 strCc (.slice A tv.length cap) tv * (R1 * G))⟩) ?_ ?_
  · exact ⟨tv.length, _, ⟨0, h.vf, by omega, rfl⟩, ⟨rfl, rfl, rfl, rfl, rfl, trivial⟩, rfl, Ent.refl _⟩
  · rintro k τ ⟨j, vf, hjk, rfl⟩
    have okj := Nd.handAll_ls s d (tv.take j) ok
    have hfj : (s.handAll d (tv.take j)).Fit 1 := Nd.Fit.handAll (k := 1) d (tv.take j) (hf.le (by rw [List.length_take]; omega))
    have erj : restP gn (s.handAll d (tv.take j)) { h with vf := vf } = restP gn s h := restP_handAll gn s d _ _
    rcases Nat.lt_or_ge j tv.length with hlt | hge
    · obtain ⟨z, hz⟩ : ∃ z, tv[j]? = some z := ⟨_, List.getElem?_eq_getElem hlt⟩
      have hzl := ht z (List.mem_of_getElem? hz)
      have htk : s.handAll d (tv.take (j + 1)) = (s.handAll d (tv.take j)).hand d z := by rw [List.take_add_one, hz, Option.toList_some, Nd.handAll_snoc]
      generalize s.handAll d (tv.take j) = sj at *
      have er1 : ∀ vf', restP gn (sj.hand d z) { h with vf := vf' } = restP gn s h := fun vf' => by rw [restP_hand]; exact erj
      have p1 := (hand_spec w0 gn sj { h with vf := vf } d z hzl okj hfj).conv (X' := coreP gn sj { h with vf := vf } * (rows 9 1 strCc (.slice A tv.length cap) tv * R1)) (Y' := fun vf => coreP gn (sj.hand d z) { h with vf := vf } * (rows 9 1 strCc (.slice A tv.length cap) tv * R1))
        (fun Z => by rw [nodP_core, erj, star_assoc, star_assoc]; exact Ent.tail _ (hc Z))
        (fun x Z => by
          have e := nodP_core gn (sj.hand d z) { h with vf := x } Z
          rw [er1] at e
          refine Ent.trans (Ent.of_eq e) ?_
          rw [star_assoc, star_assoc]; exact Ent.tail _ (ho Z))
      generalize sj.hand d z = sk at *
      simp only [coreP, nodC, outH] at p1 ⊢
      have hj1 : (j : Int) < (tv.length : Int) := by omega
      repeat' (first | (refine WS_seqK ?_; intro K hK) | (refine hK _ ?_; clear hK K) | refine stZ ?_ | (refine s2Z ?_ ?_ <;> intro hc <;> (try simp only [cS] at hc) <;> (try (exfalso; first | contradiction | omega))) | refine sbZ ?_ | refine sqZ ?_ | (refine LS_h (H_callX iI rfl p1 iI) rfl ?_; intro vf2))
      exact ⟨k - 1, _, by omega, ⟨j + 1, vf2, by omega, rfl⟩, ⟨rfl, rfl, rfl, rfl, rfl, trivial⟩, rfl, by rw [htk]; simp only [coreP, nodC, outH]; exact finE⟩
    · obtain rfl : j = tv.length := by omega
      rw [List.take_of_length_le (Nat.le_refl _)] at erj okj hfj ⊢
      obtain ⟨q1, q2, q3, q4, q5⟩ := Nd.handAll_srs s d tv
      have es : s.flush d = match srFind (s.handAll d tv).srs d with | some k => Nd.stop ((s.handAll d tv).unwait d) k | none => (s.handAll d tv).unwait d := by unfold Nd.flush; rw [htv]; rfl
      generalize s.handAll d tv = s1 at *
      have hsb1 : h.sb.length = s1.srs.length := by rw [q1]; exact hsb
      have hwv1 : h.wv.length = s1.wait.length := by rw [q2]; exact hwv
      obtain ⟨wv', hwd⟩ := wait_del h.rw hwv1 d
      refine WS_ent (H' := nodP gn s1 { h with vf := vf } * G) (by rw [nodP_core, erj]; exact Ent.tail _ (hc G)) ?_
      rw [srFind_k] at es
      have hj1 : ¬ (tv.length : Int) < (tv.length : Int) := by omega
      have so1 : SrOk (s1.unwait d) := ⟨by show (s1.srs.map _).Nodup; rw [q1]; exact so.dests, by show (s1.srs.map _).Nodup; rw [q1]; exact so.names, by show ∀ x ∈ s1.srs, _ ∧ _ ∧ _ ∧ _ ∧ x.name ≤ s1.names; rw [q1, q3]; exact so.each⟩
      cases hq : kfind (·.dest) s1.srs d with
      | none =>
        have hmq : mget (qmap h.sb s1.srs) d = none := mget_zmap_none (key := fun x : Sr => x.dest) hsb1 hq
        simp only [hq] at es
        simp only [nodP, nodPm, nodC, outH, restP, restC, waitQ_eq hwv1]
        repeat' (first | (refine WS_seqK ?_; intro K hK) | (refine hK _ ?_; clear hK K) | refine stZ ?_ | (refine s2Z ?_ ?_ <;> intro hc <;> (try simp only [cS] at hc) <;> (try (exfalso; first | contradiction | omega))) | refine sbZ ?_ | refine sqZ ?_ | ((refine' LQ ?zh rfl ?_); case zh => intro F'; exact Q_lookup_n rfl rfl iI iI iI iI iI (by assumption)) | ((refine' LQ ?zh rfl ?_); case zh => intro F'; exact Q_bin rfl rfl iI) | ((refine' LS_h0 ?zh ?_); (case zh => exact H_delete rfl rfl iI iI iI iI); intro g))
        refine ret_none (.inr rfl) rfl ⟨(), rfl, ?_⟩
        rw [es]
        refine Ent.two iI iI hwd ?_
        refine Ent.nod { h with vf := vf, wv := wv' } ?_
        simp only [nodP, nodPm, nodC, outH, restP, restC, Nd.unwait]
        exact finE
      | some k =>
        obtain ⟨x, hx, hxd⟩ := kfind_some hq
        obtain ⟨b, hb⟩ : ∃ b, h.sb[k]? = some b := ⟨_, List.getElem?_eq_getElem (by rw [hsb1]; exact (List.getElem?_eq_some_iff.1 hx).1)⟩
        have hmq : mget (qmap h.sb s1.srs) d = some b := mget_zmap_some (key := fun x : Sr => x.dest) hsb1 hq hb
        simp only [hq] at es
        have p1 := stop_spec w0 gn (s1.unwait d) { h with vf := vf, wv := wv' } so1 hx hb
        simp only [nodP, nodPm, nodC, outH, restP, restC, waitQ_eq hwv1, Nd.unwait] at p1 ⊢
        repeat' (first | (refine WS_seqK ?_; intro K hK) | (refine hK _ ?_; clear hK K) | refine stZ ?_ | (refine s2Z ?_ ?_ <;> intro hc <;> (try simp only [cS] at hc) <;> (try (exfalso; first | contradiction | omega))) | refine sbZ ?_ | refine sqZ ?_ | ((refine' LQ ?zh rfl ?_); case zh => intro F'; exact Q_lookup_s rfl rfl iI iI iI iI iI (by assumption)) | ((refine' LQ ?zh rfl ?_); case zh => intro F'; exact Q_bin rfl rfl iI) | ((refine' LS_h0 ?zh ?_); (case zh => exact H_delete rfl rfl iI iI iI iI); intro g) | (refine LS_ent (Ent.two iI iI hwd (Ent.refl _)) ?_; refine LS_h (H_callX iI rfl p1 iI) rfl ?_; intro x1))
        refine ret_none (.inr rfl) rfl ⟨(), rfl, ?_⟩
        rw [es]
        refine Ent.nod { h with vf := vf, wv := wv', sb := h.sb.eraseIdx k } ?_
        simp only [nodP, nodPm, nodC, outH, restP, restC, Nd.unwait]
        exact finE
end

section
open Go.RowKit
theorem Nd.Fit.unwait {s : Nd} {k : Nat} (h : s.Fit k) (d : UInt32) : (s.unwait d).Fit k := ⟨h.frames, h.came, h.dropped, h.recs, h.journal⟩
theorem Nd.Fit.stop {s : Nd} {k : Nat} (h : s.Fit k) (i : Nat) : (s.stop i).Fit k := ⟨h.frames, h.came, h.dropped, h.recs, h.journal⟩
theorem Nd.Fit.flush {s : Nd} {k : Nat} (d : UInt32) (h : s.Fit ((s.texts d).length + k)) : (s.flush d).Fit k := by
 have h1 := Nd.Fit.handAll (k := k) d (s.texts d) h
 unfold Nd.flush
 simp only
 split
 ·exact (h1.unwait d).stop _
 ·exact h1.unwait d
attribute [local irreducible] WS LS OpQ OpT OpH OpTQ Spec SpecQ cel
variable (w0 : World)
set_option maxRecDepth 100000 in
theorem reply_spec (gn : Nat) (s : Nd) (h : NH) (src : UInt32) (p : Pk) (hp : p.Read) (v : Value) (ok : TabOk s.ls) (so : SrOk s) (hl : (s.texts p.dest).length ≤ 100) (ht : ∀ t ∈ s.texts p.dest, t.length ≤ 100) (hf : s.Fit ((s.texts p.dest).length + 1)) : Spec Tryz.prog w0 119 [ptr gn 0, u32 src, p.val v] (nodP gn s h * rows 180 2 lostC v p.lost) (fun _ : Unit => .tuple #[]) (fun _ => nodA gn (s.rep src p)) := by
  have hf1 : s.Fit 1 := hf.le (by omega)
  refine Spec.enter Tryz.func119 rfl Tryz.ntmps119 rfl fun G => ?_
  refine WS_form v iI fun A c hv => ?_
  subst hv
  obtain ⟨hp1, hp2, hp3, hp4, hp5⟩ := hp
  obtain ⟨ttl, kind, hops, unknown, id, dest, destSeq, from_, fromSeq, life, lost, payload⟩ := p
  simp only [Pk.val, Pk.cells, argE] at *
  by_cases h1 : dest = s.self
  · have es : s.rep src ⟨ttl, kind, hops, unknown, id, dest, destSeq, from_, fromSeq, life, lost, payload⟩ = s.drop 1 := by unfold Nd.rep; rw [if_pos h1]
    have p1 := drop_A w0 gn s h 1 hf1
    simp only [nodP, nodPm, nodC, outH, restP] at p1 ⊢
    repeat' (first | (show WS _ _ _ (.region 1 _ true) _ _; refine WS_drawA (.range 7) (by decide +kernel) rfl ?_) | (refine WS_seqK ?_; intro K hK) | (refine hK _ ?_; clear hK K) | refine stZ ?_ | (refine s2Z ?_ ?_ <;> intro hc <;> (try simp only [cS] at hc) <;> (try (exfalso; first | contradiction | omega))) | refine sbZ ?_ | refine sqZ ?_ | (refine shZ ?_; intro g) | (refine LS_h (H_callX iI rfl p1 iI) rfl ?_; intro x1))
    exact ret_none (.inl rfl) rfl ⟨(), rfl, by rw [es]; exact finE⟩
  have p4 := update_spec w0 h.tb s.self s.ls ok (Ln.learned dest destSeq (min (hops + 1) 255) src (s.now + life.toUInt64)) rfl rfl (by simp only [Ln.learned]; omega)
  have hcd := updT_code s.self s.ls (Ln.learned dest destSeq (min (hops + 1) 255) src (s.now + life.toUInt64))
  have okU := ok.upd s.self (Ln.learned dest destSeq (min (hops + 1) 255) src (s.now + life.toUInt64)) (by simp only [Ln.learned]; omega)
  obtain ⟨u, hu⟩ : ∃ u, u = updT s.self s.ls (Ln.learned dest destSeq (min (hops + 1) 255) src (s.now + life.toUInt64)) := ⟨_, rfl⟩
  have es : s.rep src ⟨ttl, kind, hops, unknown, id, dest, destSeq, from_, fromSeq, life, lost, payload⟩ = if u.1 = 4 then Nd.drop { s with ls := u.2 } 2 else if from_ = s.self then (if u.1 = 3 then Nd.drop (if (lookT u.2 dest s.now).isSome then Nd.flush { s with ls := u.2 } dest else { s with ls := u.2 }) 7 else (if (lookT u.2 dest s.now).isSome then Nd.flush { s with ls := u.2 } dest else { s with ls := u.2 })) else match lookT u.2 from_ s.now with
    | none => if ttl = 1 then Nd.drop { s with ls := u.2 } 4 else Nd.drop { s with ls := u.2 } 3
    | some b => if ttl = 1 then Nd.drop { s with ls := u.2 } 4 else { Nd.send { s with ls := u.2 } b.next ⟨ttl - 1, kind, min (hops + 1) 255, unknown, id, dest, destSeq, from_, fromSeq, life, lost, payload⟩ with ls := useT (befT (befT u.2 dest b.next) from_ src) from_ s.soon } := by
    unfold Nd.rep
    simp only
    rw [if_neg h1, hu]
    rfl
  rw [← hu] at p4 hcd okU
  clear hu
  obtain ⟨e, ls1⟩ := u
  simp only at p4 hcd okU es
  simp only [Ln.learned, routeC] at p4
  have hf2 : Nd.Fit { s with ls := ls1 } 1 := hf1.ls ls1
  by_cases he4 : e = 4
  · subst he4
    rw [if_pos rfl] at es
    have p5 := drop_A w0 gn { s with ls := ls1 } h 2 hf2
    simp only [nodP, nodPm, nodC, outH, restP] at p5 ⊢
    repeat' (first | (show WS _ _ _ (.region 1 _ true) _ _; refine WS_drawA (.range 7) (by decide +kernel) rfl ?_) | (show WS _ _ _ (.region 4 _ true) _ _; refine WS_drawK (.range 21) 19 [3, 5, 7, 13, 15, 16] (by decide +kernel) rfl ?_) | (refine WS_seqK ?_; intro K hK) | (refine hK _ ?_; clear hK K) | refine stZ ?_ | (refine s2Z ?_ ?_ <;> intro hc <;> (try simp only [cS] at hc) <;> (try (exfalso; first | contradiction | omega))) | refine sbZ ?_ | refine sqZ ?_ | ((first | refine' LQ ?zh rfl ?_ | refine' DL_qp rfl rfl rfl ?zh ?_ | refine' DL_q rfl rfl ?zh ?_); case zh => intro F'; exact Q_conv64 rfl iI iI iI) | ((first | refine' LQ ?zh rfl ?_ | refine' DL_q rfl rfl ?zh ?_); case zh => intro F'; exact Q_bin rfl rfl iI) | (refine shZ ?_; intro g) | (refine DL_h (H_callX iI rfl p4 iI) rfl rfl rfl ?_; intro x4) | (refine LS_h (H_callX iI rfl p5 iI) rfl ?_; intro x1))
    exact ret_none (.inl rfl) rfl ⟨(), rfl, by rw [es]; exact finE⟩
  rw [if_neg he4] at es
  by_cases h2 : from_ = s.self
  · rw [if_pos h2] at es
    have p6 := find_spec w0 h.tb s.self ls1 okU dest s.now
    cases hx : lookT ls1 dest s.now with
    | none =>
      simp only [hx, findV, findH, routeC] at p6
      simp only [hx, Option.isSome_none, Bool.false_eq_true, if_false] at es
      by_cases he3 : e = 3
      · subst he3
        rw [if_pos rfl] at es
        have p5 := drop_A w0 gn { s with ls := ls1 } h 7 hf2
        simp only [nodP, nodPm, nodC, outH, restP] at p5 ⊢
        repeat' (first | (show WS _ _ _ (.region 1 _ true) _ _; refine WS_drawA (.range 7) (by decide +kernel) rfl ?_) | (show WS _ _ _ (.region 4 _ true) _ _; refine WS_drawK (.range 21) 19 [3, 5, 7, 13, 15, 16] (by decide +kernel) rfl ?_) | (show WS _ _ _ (.region 7 _ true) _ _; refine WS_drawA (.range 7) (by decide +kernel) rfl ?_) | (show WS _ _ _ (.region 8 _ true) _ _; first | refine WS_drawR2 0 5 (.range 17) (by decide +kernel) rfl rfl rfl iI iI ?_ | refine WS_drawK (.range 17) 10 [3, 5, 9] (by decide +kernel) rfl ?_) | (refine WS_seqK ?_; intro K hK) | (refine hK _ ?_; clear hK K) | refine stZ ?_ | (refine s2Z ?_ ?_ <;> intro hc <;> (try simp only [cS] at hc) <;> (try (exfalso; first | contradiction | omega))) | (refine DL_alloc iI rfl ?_; intro g) | refine sbZ ?_ | refine sqZ ?_ | ((first | refine' LQ ?zh rfl ?_ | refine' DL_qp rfl rfl rfl ?zh ?_ | refine' DL_q rfl rfl ?zh ?_); case zh => intro F'; exact Q_conv64 rfl iI iI iI) | ((first | refine' LQ ?zh rfl ?_ | refine' DL_q rfl rfl ?zh ?_); case zh => intro F'; exact Q_bin rfl rfl iI) | (refine shZ ?_; intro g) | (refine s0Z ?_; intro g) | (refine DL_h (H_callX iI rfl p4 iI) rfl rfl rfl ?_; intro x4) | (refine DL_h (H_callX iI rfl p6 iI) rfl rfl rfl ?_; intro x6) | (refine LS_h (H_callX iI rfl p5 iI) rfl ?_; intro x1))
        exact ret_none (.inl rfl) rfl ⟨(), rfl, by rw [es]; exact finE⟩
      · rw [if_neg he3] at es
        simp only [nodP, nodPm, nodC, outH, restP]
        repeat' (first | (show WS _ _ _ (.region 1 _ true) _ _; refine WS_drawA (.range 7) (by decide +kernel) rfl ?_) | (show WS _ _ _ (.region 4 _ true) _ _; refine WS_drawK (.range 21) 19 [3, 5, 7, 13, 15, 16] (by decide +kernel) rfl ?_) | (show WS _ _ _ (.region 7 _ true) _ _; refine WS_drawA (.range 7) (by decide +kernel) rfl ?_) | (show WS _ _ _ (.region 8 _ true) _ _; first | refine WS_drawR2 0 5 (.range 17) (by decide +kernel) rfl rfl rfl iI iI ?_ | refine WS_drawK (.range 17) 10 [3, 5, 9] (by decide +kernel) rfl ?_) | (refine WS_seqK ?_; intro K hK) | (refine hK _ ?_; clear hK K) | refine stZ ?_ | (refine s2Z ?_ ?_ <;> intro hc <;> (try simp only [cS] at hc) <;> (try (exfalso; first | contradiction | omega))) | (refine DL_alloc iI rfl ?_; intro g) | refine sbZ ?_ | refine sqZ ?_ | ((first | refine' LQ ?zh rfl ?_ | refine' DL_qp rfl rfl rfl ?zh ?_ | refine' DL_q rfl rfl ?zh ?_); case zh => intro F'; exact Q_conv64 rfl iI iI iI) | ((first | refine' LQ ?zh rfl ?_ | refine' DL_q rfl rfl ?zh ?_); case zh => intro F'; exact Q_bin rfl rfl iI) | (refine shZ ?_; intro g) | (refine s0Z ?_; intro g) | (refine DL_h (H_callX iI rfl p4 iI) rfl rfl rfl ?_; intro x4) | (refine DL_h (H_callX iI rfl p6 iI) rfl rfl rfl ?_; intro x6))
        refine ret_none (.inl rfl) rfl ⟨(), rfl, ?_⟩
        rw [es]
        refine Ent.nod h ?_
        simp only [nodP, nodPm, nodC, outH, restP]
        exact finE
    | some x =>
      simp only [hx, findV, findH, routeC] at p6
      simp only [hx, Option.isSome_some, if_true] at es
      have so1 : SrOk { s with ls := ls1 } := ⟨so.dests, so.names, so.each⟩
      have p7 := flush_spec w0 gn { s with ls := ls1 } h dest okU so1 hl ht (hf.ls ls1)
      have hf3 : (Nd.flush { s with ls := ls1 } dest).Fit 1 := Nd.Fit.flush (s := { s with ls := ls1 }) dest (hf.ls ls1)
      generalize Nd.flush { s with ls := ls1 } dest = s2 at p7 hf3 es
      by_cases he3 : e = 3
      · subst he3
        rw [if_pos rfl] at es
        have p5 := fun h2 => drop_A w0 gn s2 h2 7 hf3
        simp only [nodP, nodPm, nodC, outH, restP] at p5 p7 ⊢
        repeat' (first | (show WS _ _ _ (.region 1 _ true) _ _; refine WS_drawA (.range 7) (by decide +kernel) rfl ?_) | (show WS _ _ _ (.region 4 _ true) _ _; refine WS_drawK (.range 21) 19 [3, 5, 7, 13, 15, 16] (by decide +kernel) rfl ?_) | (show WS _ _ _ (.region 7 _ true) _ _; refine WS_drawA (.range 7) (by decide +kernel) rfl ?_) | (show WS _ _ _ (.region 8 _ true) _ _; first | refine WS_drawR2 0 5 (.range 17) (by decide +kernel) rfl rfl rfl iI iI ?_ | refine WS_drawK (.range 17) 10 [3, 5, 9] (by decide +kernel) rfl ?_) | (refine WS_seqK ?_; intro K hK) | (refine hK _ ?_; clear hK K) | refine stZ ?_ | (refine s2Z ?_ ?_ <;> intro hc <;> (try simp only [cS] at hc) <;> (try (exfalso; first | contradiction | omega))) | (refine DL_alloc iI rfl ?_; intro g) | refine sbZ ?_ | refine sqZ ?_ | ((first | refine' LQ ?zh rfl ?_ | refine' DL_qp rfl rfl rfl ?zh ?_ | refine' DL_q rfl rfl ?zh ?_); case zh => intro F'; exact Q_conv64 rfl iI iI iI) | ((first | refine' LQ ?zh rfl ?_ | refine' DL_q rfl rfl ?zh ?_); case zh => intro F'; exact Q_bin rfl rfl iI) | (refine shZ ?_; intro g) | (refine s0Z ?_; intro g) | (refine DL_h (H_callX iI rfl p4 iI) rfl rfl rfl ?_; intro x4) | (refine DL_h (H_callX iI rfl p6 iI) rfl rfl rfl ?_; intro x6) | (refine LS_h (H_callX iI rfl p7 iI) rfl ?_; intro x7) | (refine LS_h (H_callX iI rfl p5 iI) rfl ?_; intro x1) | (refine LS_nod fun h9 => ?_; replace p5 := p5 h9; simp only [nodP, nodPm, nodC, outH, restP]))
        exact ret_none (.inl rfl) rfl ⟨(), rfl, by rw [es]; exact finE⟩
      · rw [if_neg he3] at es
        simp only [nodP, nodPm, nodC, outH, restP] at p7 ⊢
        repeat' (first | (show WS _ _ _ (.region 1 _ true) _ _; refine WS_drawA (.range 7) (by decide +kernel) rfl ?_) | (show WS _ _ _ (.region 4 _ true) _ _; refine WS_drawK (.range 21) 19 [3, 5, 7, 13, 15, 16] (by decide +kernel) rfl ?_) | (show WS _ _ _ (.region 7 _ true) _ _; refine WS_drawA (.range 7) (by decide +kernel) rfl ?_) | (show WS _ _ _ (.region 8 _ true) _ _; first | refine WS_drawR2 0 5 (.range 17) (by decide +kernel) rfl rfl rfl iI iI ?_ | refine WS_drawK (.range 17) 10 [3, 5, 9] (by decide +kernel) rfl ?_) | (refine WS_seqK ?_; intro K hK) | (refine hK _ ?_; clear hK K) | refine stZ ?_ | (refine s2Z ?_ ?_ <;> intro hc <;> (try simp only [cS] at hc) <;> (try (exfalso; first | contradiction | omega))) | (refine DL_alloc iI rfl ?_; intro g) | refine sbZ ?_ | refine sqZ ?_ | ((first | refine' LQ ?zh rfl ?_ | refine' DL_qp rfl rfl rfl ?zh ?_ | refine' DL_q rfl rfl ?zh ?_); case zh => intro F'; exact Q_conv64 rfl iI iI iI) | ((first | refine' LQ ?zh rfl ?_ | refine' DL_q rfl rfl ?zh ?_); case zh => intro F'; exact Q_bin rfl rfl iI) | (refine shZ ?_; intro g) | (refine s0Z ?_; intro g) | (refine DL_h (H_callX iI rfl p4 iI) rfl rfl rfl ?_; intro x4) | (refine DL_h (H_callX iI rfl p6 iI) rfl rfl rfl ?_; intro x6) | (refine LS_h (H_callX iI rfl p7 iI) rfl ?_; intro x7))
        exact ret_none (.inl rfl) rfl ⟨(), rfl, by rw [es]; exact finE⟩
  rw [if_neg h2] at es
  have p6 := find_spec w0 h.tb s.self ls1 okU from_ s.now
  by_cases ht1 : ttl = 1
  · have p5 := drop_A w0 gn { s with ls := ls1 } h 4 hf2
    simp only [nodP, nodPm, nodC, outH, restP] at p5 ⊢
    cases hx : lookT ls1 from_ s.now
    all_goals
      simp only [hx, findV, findH, routeC] at p6
      simp only [hx, if_pos ht1] at es
      repeat' (first | (show WS _ _ _ (.region 1 _ true) _ _; refine WS_drawA (.range 7) (by decide +kernel) rfl ?_) | (show WS _ _ _ (.region 4 _ true) _ _; refine WS_drawK (.range 21) 19 [3, 5, 7, 13, 15, 16] (by decide +kernel) rfl ?_) | (show WS _ _ _ (.region 7 _ true) _ _; refine WS_drawA (.range 7) (by decide +kernel) rfl ?_) | (show WS _ _ _ (.region 13 _ true) _ _; first | refine WS_drawR2 0 5 (.range 17) (by decide +kernel) rfl rfl rfl iI iI ?_ | refine WS_drawK (.range 17) 10 [3, 5, 9] (by decide +kernel) rfl ?_) | (refine WS_seqK ?_; intro K hK) | (refine hK _ ?_; clear hK K) | refine stZ ?_ | (refine s2Z ?_ ?_ <;> intro hc <;> (try simp only [cS] at hc) <;> (try (exfalso; first | contradiction | omega))) | (refine DL_alloc iI rfl ?_; intro g) | refine sbZ ?_ | refine sqZ ?_ | ((first | refine' LQ ?zh rfl ?_ | refine' DL_qp rfl rfl rfl ?zh ?_ | refine' DL_q rfl rfl ?zh ?_); case zh => intro F'; exact Q_conv64 rfl iI iI iI) | ((first | refine' LQ ?zh rfl ?_ | refine' DL_q rfl rfl ?zh ?_); case zh => intro F'; exact Q_bin rfl rfl iI) | (refine shZ ?_; intro g) | (refine s0Z ?_; intro g) | (refine DL_h (H_callX iI rfl p4 iI) rfl rfl rfl ?_; intro x4) | (refine DL_h (H_callX iI rfl p6 iI) rfl rfl rfl ?_; intro x6) | (refine LS_h (H_callX iI rfl p5 iI) rfl ?_; intro x1))
      exact ret_none (.inr rfl) rfl ⟨(), rfl, by rw [es]; exact finE⟩
  cases hx : lookT ls1 from_ s.now with
  | none =>
    have p5 := drop_A w0 gn { s with ls := ls1 } h 3 hf2
    simp only [nodP, nodPm, nodC, outH, restP] at p5 ⊢
    simp only [hx, findV, findH, routeC] at p6
    simp only [hx, if_neg ht1] at es
    repeat' (first | (show WS _ _ _ (.region 1 _ true) _ _; refine WS_drawA (.range 7) (by decide +kernel) rfl ?_) | (show WS _ _ _ (.region 4 _ true) _ _; refine WS_drawK (.range 21) 19 [3, 5, 7, 13, 15, 16] (by decide +kernel) rfl ?_) | (show WS _ _ _ (.region 7 _ true) _ _; refine WS_drawA (.range 7) (by decide +kernel) rfl ?_) | (show WS _ _ _ (.region 13 _ true) _ _; first | refine WS_drawR2 0 5 (.range 17) (by decide +kernel) rfl rfl rfl iI iI ?_ | refine WS_drawK (.range 17) 10 [3, 5, 9] (by decide +kernel) rfl ?_) | (refine WS_seqK ?_; intro K hK) | (refine hK _ ?_; clear hK K) | refine stZ ?_ | (refine s2Z ?_ ?_ <;> intro hc <;> (try simp only [cS] at hc) <;> (try (exfalso; first | contradiction | omega))) | (refine DL_alloc iI rfl ?_; intro g) | refine sbZ ?_ | refine sqZ ?_ | ((first | refine' LQ ?zh rfl ?_ | refine' DL_qp rfl rfl rfl ?zh ?_ | refine' DL_q rfl rfl ?zh ?_); case zh => intro F'; exact Q_conv64 rfl iI iI iI) | ((first | refine' LQ ?zh rfl ?_ | refine' DL_q rfl rfl ?zh ?_); case zh => intro F'; exact Q_bin rfl rfl iI) | (refine shZ ?_; intro g) | (refine s0Z ?_; intro g) | (refine DL_h (H_callX iI rfl p4 iI) rfl rfl rfl ?_; intro x4) | (refine DL_h (H_callX iI rfl p6 iI) rfl rfl rfl ?_; intro x6) | (refine LS_h (H_callX iI rfl p5 iI) rfl ?_; intro x1))
    exact ret_none (.inr rfl) rfl ⟨(), rfl, by rw [es]; exact finE⟩
  | some b =>
    simp only [hx, findV, findH, routeC] at p6
    simp only [hx, if_neg ht1] at es
    obtain ⟨s2, hs2⟩ : ∃ s2 : Nd, s2 = Nd.send { s with ls := ls1 } b.next ⟨ttl - 1, kind, min (hops + 1) 255, unknown, id, dest, destSeq, from_, fromSeq, life, lost, payload⟩ := ⟨_, rfl⟩
    have p7 := nsend_spec w0 gn { s with ls := ls1 } h b.next ⟨ttl - 1, kind, min (hops + 1) 255, unknown, id, dest, destSeq, from_, fromSeq, life, lost, payload⟩ ⟨by simp only [i64R] at *; omega, by simpa only [i64R] using hp2, by simp only [i64R] at *; omega, by simp only; omega, by simp only; omega⟩ (.slice A lost.length c) rfl (rows 180 2 lostC (.slice A lost.length c) lost) (hX := rdr_bare _ _ _ _ _) (by have := hf2.frames; omega)
    have e1 : s2.ls = ls1 := by rw [hs2]; rfl
    have e2 : s2.soon = s.soon := by rw [hs2]; rfl
    have p8 := before_spec w0 h.tb s2.self s2.ls dest b.next
    have p9 := before_spec w0 h.tb s2.self (befT s2.ls dest b.next) from_ src
    have p10 := fun vf => soon_spec w0 gn s2 { h with vf := vf }
    have p11 := use_spec w0 h.tb s2.self (befT (befT s2.ls dest b.next) from_ src) from_ s2.soon
    rw [← hs2] at p7 es
    rw [← e1, ← e2] at es
    simp only [nodP, nodPm, nodC, outH, restP, Pk.val, Pk.cells] at p7 p10 ⊢
    repeat' (first | (show WS _ _ _ (.region 1 _ true) _ _; refine WS_drawA (.range 7) (by decide +kernel) rfl ?_) | (show WS _ _ _ (.region 4 _ true) _ _; refine WS_drawK (.range 21) 19 [3, 5, 7, 13, 15, 16] (by decide +kernel) rfl ?_) | (show WS _ _ _ (.region 7 _ true) _ _; refine WS_drawA (.range 7) (by decide +kernel) rfl ?_) | (show WS _ _ _ (.region 13 _ true) _ _; first | refine WS_drawR2 0 5 (.range 17) (by decide +kernel) rfl rfl rfl iI iI ?_ | refine WS_drawK (.range 17) 10 [3, 5, 9] (by decide +kernel) rfl ?_) | (show WS _ _ _ (.region 17 _ true) _ _; refine WS_drawK (.range 9) 8 [3, 5, 7] (by decide +kernel) rfl ?_) | (show WS _ _ _ (.region 18 _ true) _ _; refine WS_drawK (.range 8) 7 [3, 5] (by decide +kernel) rfl ?_) | (show WS _ _ _ (.region 19 _ true) _ _; refine WS_drawK (.range 9) 8 [3, 5] (by decide +kernel) rfl ?_) | (refine WS_seqK ?_; intro K hK) | (refine hK _ ?_; clear hK K) | refine stZ ?_ | (refine s2Z ?_ ?_ <;> intro hc <;> (try simp only [cS] at hc) <;> (try (exfalso; first | contradiction | omega))) | (refine DL_alloc iI rfl ?_; intro g) | refine sbZ ?_ | refine sqZ ?_ | ((first | refine' LQ ?zh rfl ?_ | refine' DL_qp rfl rfl rfl ?zh ?_ | refine' DL_q rfl rfl ?zh ?_); case zh => intro F'; exact Q_conv64 rfl iI iI iI) | ((first | refine' LQ ?zh rfl ?_ | refine' DL_q rfl rfl ?zh ?_); case zh => intro F'; exact Q_bin rfl rfl iI) | (refine shZ ?_; intro g) | (refine s0Z ?_; intro g) | (refine DL_h (H_callX iI rfl p4 iI) rfl rfl rfl ?_; intro x4) | (refine DL_h (H_callX iI rfl p6 iI) rfl rfl rfl ?_; intro x6) | (refine LS_h (H_callX iI rfl p7 iI) rfl ?_; intro vf; replace p10 := p10 vf) | (refine DL_h (H_callX iI rfl p8 iI) rfl rfl rfl ?_; intro x8) | (refine DL_h (H_callX iI rfl p9 iI) rfl rfl rfl ?_; intro x9) | (refine DL_callS iI rfl p10 iI rfl ?_) | (refine DL_h (H_callX iI rfl p11 iI) rfl rfl rfl ?_; intro x11))
    refine ret_none (.inr rfl) rfl ⟨(), rfl, ?_⟩
    rw [es]
    refine Ent.nod { h with vf := vf } ?_
    simp only [nodP, nodPm, nodC, outH, restP]
    exact finE
end

section
open Go.RowKit
theorem Nd.drops_succ (s : Nd) (n : Nat) (k : Int) : s.drops (n + 1) k = (s.drops n k).drop k := by
 unfold Nd.drops Nd.drop
 simp only [List.replicate_succ', List.append_assoc]
theorem Nd.drops_zero (s : Nd) (k : Int) : s.drops 0 k = s := by
 unfold Nd.drops
 simp
attribute [local irreducible] WS LS OpQ OpT OpH OpTQ Spec SpecQ cel
variable (w0 : World)
set_option maxRecDepth 100000 in
theorem again_spec (gn : Nat) (s : Nd) (h : NH) {k b : Nat} {x : Sr} (hx : s.srs[k]? = some x) (hb : h.sb[k]? = some b) (so : SrOk s) (ok : TabOk s.ls) (hod : s.order.length ≤ 16) (hsn : s.sent.length ≤ 100) (hck : s.clk.length ≤ 900000) (hla : 0 ≤ s.last ∧ s.last ≤ 1000000000000) (hl : (s.texts x.dest).length ≤ 100) (ht : ∀ t ∈ s.texts x.dest, t.length ≤ 100) (hf : s.Fit ((s.texts x.dest).length + 3)) : Spec Tryz.prog w0 197 [ptr b 0] (nodP gn s h) (fun _ : Unit => .tuple #[]) (fun _ => nodA gn (s.again k x)) := by
  have hxr := so.each x (List.mem_of_getElem? hx)
  refine Spec.enter Tryz.func197 rfl Tryz.ntmps197 rfl fun G => ?_
  refine WS_lens fun hsb hwv => ?_
  refine WS_texts x.dest hwv fun A cap R1 hm _ _ => ?_
  obtain ⟨F1, e1, e2⟩ := srs_open gn hsb hb hx
  have p1 := find_spec w0 h.tb s.self s.ls ok x.dest s.now
  have hkl : k < s.srs.length := (List.getElem?_eq_some_iff.1 hx).1
  cases hfd : lookT s.ls x.dest s.now with
  | some y =>
    have es : s.again k x = s.flush x.dest := by unfold Nd.again; rw [hfd]
    have p2 := flush_spec w0 gn s h x.dest ok so hl ht (hf.le (by omega))
    simp only [hfd, findV, findH, routeC] at p1
    simp only [nodP, nodPm, nodC, outH, restP, restC, e1, srC] at p2 ⊢
    simp only [argE]
    repeat' (first | (show WS _ _ _ (.region 1 _ true) _ _; first | refine WS_drawR2 0 2 (.range 19) (by decide +kernel) rfl rfl rfl iI iI ?_ | refine WS_drawK (.range 19) 12 [3, 7, 11] (by decide +kernel) rfl ?_) | (refine WS_seqK ?_; intro K hK) | (refine hK _ ?_; clear hK K) | refine stZ ?_ | (refine s2Z ?_ ?_ <;> intro hc <;> (try simp only [cS] at hc) <;> (try (exfalso; first | contradiction | omega))) | (refine DL_alloc iI rfl ?_; intro g) | refine sqZ ?_ | (refine s0Z ?_; intro g) | (refine DL_h (H_callX iI rfl p1 iI) rfl rfl rfl ?_; intro x1) | (refine LS_h (H_callX iI rfl p2 iI) rfl ?_; intro x2))
    exact ret_none (.inl rfl) rfl ⟨(), rfl, by rw [es]; exact finE⟩
  | none =>
    simp only [hfd, findV, findH, routeC] at p1
    cases hxo : x.out with
    | false =>
      have es : s.again k x = s.ask k x := by unfold Nd.again; rw [hfd]; simp only; rw [if_neg (by rw [hxo]; exact Bool.false_ne_true)]
      have p2 := ask_spec w0 gn s h hx hb ⟨hxr.1, hxr.2.1, hxr.2.2.1, hxr.2.2.2.1⟩ ok hod hsn hck hla (hf.le (by omega))
      simp only [nodP, nodPm, nodC, outH, restP, restC, e1, srC, hxo] at p2 ⊢
      simp only [argE]
      repeat' (first | (show WS _ _ _ (.region 1 _ true) _ _; first | refine WS_drawR2 0 2 (.range 19) (by decide +kernel) rfl rfl rfl iI iI ?_ | refine WS_drawK (.range 19) 12 [3, 7, 11] (by decide +kernel) rfl ?_) | (refine WS_seqK ?_; intro K hK) | (refine hK _ ?_; clear hK K) | refine stZ ?_ | (refine s2Z ?_ ?_ <;> intro hc <;> (try simp only [cS] at hc) <;> (try (exfalso; first | contradiction | omega))) | (refine DL_alloc iI rfl ?_; intro g) | refine sqZ ?_ | (refine s0Z ?_; intro g) | (refine DL_h (H_callX iI rfl p1 iI) rfl rfl rfl ?_; intro x1) | (refine LS_h (H_callX iI rfl p2 iI) rfl ?_; intro x2))
      exact ret_none (.inr rfl) rfl ⟨(), rfl, by rw [es]; exact finE⟩
    | true =>
      have pfu := further_spec w0 gn b x ⟨hxr.1, hxr.2.1, hxr.2.2.1, hxr.2.2.2.1⟩
      cases hfu : x.further with
      | some y =>
        have hyd : y.dest = x.dest ∧ y.name = x.name ∧ y.out = x.out ∧ 0 ≤ y.ttl ∧ y.ttl ≤ 8 ∧ 0 ≤ y.retries ∧ y.retries ≤ 2 := by
          unfold Sr.further at hfu
          split at hfu
          · cases hfu; simp only; exact ⟨trivial, trivial, trivial, by omega, by omega, by omega, by omega⟩
          · split at hfu
            · cases hfu; simp only; exact ⟨trivial, trivial, trivial, by omega, by omega, by omega, by omega⟩
            · split at hfu
              · cases hfu; simp only; exact ⟨trivial, trivial, trivial, by omega, by omega, by omega, by omega⟩
              · cases hfu
        have es : s.again k x = Nd.ask { s with srs := s.srs.set k y } k y := by unfold Nd.again; rw [hfd]; simp only; rw [if_pos hxo, hfu]
        have p2 := ask_spec w0 gn { s with srs := s.srs.set k y } h (show (s.srs.set k y)[k]? = some y by rw [List.getElem?_set]; simp [hkl]) hb ⟨hyd.2.2.2.1, hyd.2.2.2.2.1, hyd.2.2.2.2.2.1, hyd.2.2.2.2.2.2⟩ ok hod hsn hck hla ⟨by have := hf.frames; show s.out.frames.length + 3 ≤ _; omega, by have := hf.came; show s.out.came.length + 3 ≤ _; omega, by have := hf.dropped; show s.out.dropped.length + 3 ≤ _; omega, by have := hf.recs; show s.recs.length + 9 * 3 ≤ _; omega, by have := hf.journal; show s.out.journal.length + 120 * 3 ≤ _; omega⟩
        have hqm : qmap h.sb (s.srs.set k y) = qmap h.sb s.srs := zmap_set (key := fun x : Sr => x.dest) hx hyd.1
        have him : imap h.sb (s.srs.set k y) = imap h.sb s.srs := zmap_set (key := fun x : Sr => x.name) hx hyd.2.1
        simp only [hfu, Option.isSome_some, Option.getD_some] at pfu
        simp only [nodP, nodPm, nodC, outH, restP, restC, e1, e2, hqm, him, srC, hxo] at p2 pfu ⊢
        simp only [argE]
        repeat' (first | (show WS _ _ _ (.region 1 _ true) _ _; first | refine WS_drawR2 0 2 (.range 19) (by decide +kernel) rfl rfl rfl iI iI ?_ | refine WS_drawK (.range 19) 12 [3, 7, 11] (by decide +kernel) rfl ?_) | (refine WS_seqK ?_; intro K hK) | (refine hK _ ?_; clear hK K) | refine stZ ?_ | (refine s2Z ?_ ?_ <;> intro hc <;> (try simp only [cS] at hc) <;> (try (exfalso; first | contradiction | omega))) | (refine DL_alloc iI rfl ?_; intro g) | refine sqZ ?_ | (refine s0Z ?_; intro g) | (refine DL_h (H_callX iI rfl p1 iI) rfl rfl rfl ?_; intro x1) | (refine LS_h (H_callX iI rfl pfu iI) rfl ?_; intro x3) | (refine LS_h (H_callX iI rfl p2 iI) rfl ?_; intro x2))
        exact ret_none (.inr rfl) rfl ⟨(), rfl, by rw [es]; exact finE⟩
      | none =>
        obtain ⟨N, hN⟩ : ∃ N, N = (s.texts x.dest).length := ⟨_, rfl⟩
        have es : s.again k x = ((s.drops N 5).unwait x.dest).stop k := by unfold Nd.again; rw [hfd]; simp only; rw [if_pos hxo, hfu, hN]
        rw [← hN] at hm hl hf
        obtain ⟨wv', hwd⟩ := wait_del h.rw hwv x.dest
        simp only [hfu, Option.isSome_none, Option.getD_none] at pfu
        simp only [nodP, nodPm, nodC, outH, restP, restC, e1, srC, hxo, waitQ_eq hwv] at pfu ⊢
        simp only [argE]
        repeat' (first | (show WS _ _ _ (.region 1 _ true) _ _; first | refine WS_drawR2 0 2 (.range 19) (by decide +kernel) rfl rfl rfl iI iI ?_ | refine WS_drawK (.range 19) 12 [3, 7, 11] (by decide +kernel) rfl ?_) | (show WS _ _ _ (.region 5 _ true) _ _; refine WS_drawA (.range 11) (by decide +kernel) rfl ?_) | (refine WS_seqK ?_; intro K hK) | (refine hK _ ?_; clear hK K) | refine stZ ?_ | (refine s2Z ?_ ?_ <;> intro hc <;> (try simp only [cS] at hc) <;> (try (exfalso; first | contradiction | omega))) | (refine DL_alloc iI rfl ?_; intro g) | refine sqZ ?_ | ((first | refine' LQ ?zh rfl ?_ | refine' DL_q rfl rfl ?zh ?_); case zh => intro F'; exact Q_lookupE rfl rfl iI iI iI iI iI (by assumption)) | (refine s0Z ?_; intro g) | (refine DL_h (H_callX iI rfl p1 iI) rfl rfl rfl ?_; intro x1) | (refine LS_h (H_callX iI rfl pfu iI) rfl ?_; intro x3))
        refine WS_loop (fun m τ => ∃ (j : Nat) (vd : Value), j + m = N ∧ τ = ⟨[(51, .int .i64 (j : Int)), (50, .int .i64 (N : Int)), (2, ptr gn 0), (0, ptr b 0)], [], nodO gn (s.drops j 5) { h with vd := vd } b x F1 * G⟩) ?_ ?_
        · exact ⟨N, _, ⟨0, h.vd, by omega, rfl⟩, ⟨rfl, rfl, rfl, rfl, trivial⟩, rfl, by simp only [nodO, Nd.drops_zero, nodC, outH, srC, hxo, waitQ_eq hwv]; exact finE⟩
        · rintro m τ ⟨j, vd, hjm, rfl⟩
          have hsj : (s.drops j 5).out.dropped.length = s.out.dropped.length + j := by unfold Nd.drops; simp
          have hsc := Nd.drops_succ s j 5
          have eqj : (s.drops j 5).srs = s.srs ∧ (s.drops j 5).wait = s.wait ∧ (s.drops j 5).names = s.names := ⟨rfl, rfl, rfl⟩
          have hdl := hf.dropped
          rcases Nat.lt_or_ge j N with hlt | hge
          · have p3 := ndrop_spec w0 gn (s.drops j 5) { h with vd := vd } 5 (by omega)
            rw [← hsc] at p3
            have hS1 : srsQ gn h.sb (s.drops (j + 1) 5).srs = cel b 247 (srC gn b x) * F1 := e1
            have hS0 : srsQ gn h.sb (s.drops j 5).srs = cel b 247 (srC gn b x) * F1 := e1
            have hj1 : (j : Int) < (N : Int) := by omega
            obtain ⟨sk, hsk⟩ : ∃ sk : Nd, sk = s.drops (j + 1) 5 := ⟨_, rfl⟩
            rw [← hsk] at p3 hS1
            clear hsc
            generalize s.drops j 5 = sj at *
            simp only [nodP, nodPm, nodC, outH, restP, restC, hS0, hS1] at p3
            simp only [nodO, nodC, outH]
            repeat' (first | (refine WS_seqK ?_; intro K hK) | (refine hK _ ?_; clear hK K) | refine stZ ?_ | (refine s2Z ?_ ?_ <;> intro hc <;> (try simp only [cS] at hc) <;> (try (exfalso; first | contradiction | omega))) | refine sbZ ?_ | refine sqZ ?_ | (refine LS_h (H_callX iI rfl p3 iI) rfl ?_; intro vd2))
            exact ⟨m - 1, _, by omega, ⟨j + 1, vd2, by omega, rfl⟩, ⟨rfl, rfl, rfl, rfl, trivial⟩, rfl, by rw [← hsk]; simp only [nodO, nodC, outH]; exact finE⟩
          · obtain rfl : j = N := by omega
            have hj1 : ¬ (j : Int) < (j : Int) := by omega
            have so1 : SrOk ((s.drops j 5).unwait x.dest) := ⟨so.dests, so.names, so.each⟩
            have p4 := stop_spec w0 gn ((s.drops j 5).unwait x.dest) { h with vd := vd, wv := wv' } so1 hx hb
            have hS0 : srsQ gn h.sb (s.drops j 5).srs = cel b 247 (srC gn b x) * F1 := e1
            have hw0 : (s.drops j 5).wait = s.wait := rfl
            generalize s.drops j 5 = sj at *
            simp only [nodP, nodPm, nodC, outH, restP, restC, Nd.unwait, hS0, hw0, srC] at p4
            simp only [nodO, nodC, outH, hw0, waitQ_eq hwv, srC]
            repeat' (first | (show WS _ _ _ (.region 9 _ true) _ _; refine WS_drawK (.range 9) 8 [3, 7] (by decide +kernel) rfl ?_) | (refine WS_seqK ?_; intro K hK) | (refine hK _ ?_; clear hK K) | refine stZ ?_ | (refine s2Z ?_ ?_ <;> intro hc <;> (try simp only [cS] at hc) <;> (try (exfalso; first | contradiction | omega))) | refine sbZ ?_ | refine sqZ ?_ | ((refine' DL_h0 ?zh rfl rfl ?_); (case zh => exact H_delete rfl rfl iI iI iI iI); intro g) | (refine LS_ent (Ent.two iI iI hwd (Ent.refl _)) ?_; refine LS_h (H_callX iI rfl p4 iI) rfl ?_; intro x4))
            refine ret_none (.inl rfl) rfl ⟨(), rfl, ?_⟩
            rw [es]
            refine Ent.nod { h with vd := vd, wv := wv', sb := h.sb.eraseIdx k } ?_
            simp only [nodP, nodPm, nodC, outH, restP, restC, Nd.unwait, hw0]
            exact finE
set_option maxRecDepth 100000 in
theorem begin_spec (gn : Nat) (s : Nd) (h : NH) (d : UInt32) (hd : srFind s.srs d = none) (so : SrOk s) (ok : TabOk s.ls) (hnm : 0 ≤ s.names ∧ s.names ≤ 1000000000000) (hod : s.order.length ≤ 16) (hsn : s.sent.length ≤ 100) (hck : s.clk.length ≤ 900000) (hla : 0 ≤ s.last ∧ s.last ≤ 1000000000000) (hf : s.Fit 3) : Spec Tryz.prog w0 146 [ptr gn 0, u32 d] (nodP gn s h) (fun _ : Unit => .tuple #[]) (fun _ => nodA gn ((s.newSr d).ask s.srs.length ⟨d, 1, 0, false, s.names + 1⟩)) := by
  refine Spec.enter Tryz.func146 rfl Tryz.ntmps146 rfl fun G => ?_
  refine WS_lens fun hsb hwv => ?_
  rw [srFind_k] at hd
  have hn : kfind (·.name) s.srs (s.names + 1) = none := kfind_none.2 fun x hx => by have := (so.each x hx).2.2.2.2; omega
  have hq := fun gb : Nat => mset_zmap_none (key := fun x : Sr => x.dest) gb ⟨d, 1, 0, false, s.names + 1⟩ rfl hsb hd
  have hi := fun gb : Nat => mset_zmap_none (key := fun x : Sr => x.name) gb ⟨d, 1, 0, false, s.names + 1⟩ rfl hsb hn
  have hS : ∀ gb : Nat, srsQ gn (h.sb ++ [gb]) (s.srs ++ [⟨d, 1, 0, false, s.names + 1⟩]) = cel gb 247 (srC gn gb ⟨d, 1, 0, false, s.names + 1⟩) * srsP gn h.sb s.srs := fun gb => by
    rw [srsQ_eq (by simp [hsb]), srsP_z, srsP_z, zrow_snoc gb _ hsb]; rfl
  have p1 := fun gb : Nat => ask_spec w0 gn (s.newSr d) { h with sb := h.sb ++ [gb] } (k := s.srs.length) (b := gb) (x := ⟨d, 1, 0, false, s.names + 1⟩) (by show (s.srs ++ [_])[s.srs.length]? = _; simp) (by show (h.sb ++ [gb])[s.srs.length]? = _; rw [← hsb]; simp) (by simp) ok hod hsn hck hla ⟨hf.frames, hf.came, hf.dropped, hf.recs, hf.journal⟩
  simp only [nodP, nodPm, nodC, outH, restP, restC, Nd.newSr, hS, qmap_z, imap_z, srC] at p1 ⊢
  simp only [← hq, ← hi] at p1
  rw [srsQ_eq hsb]
  simp only [argE]
  repeat' (first | (show WS _ _ _ (.region 4 _ true) _ _; refine WS_drawK (.range 10) 9 [3, 7] (by decide +kernel) rfl ?_) | (refine WS_seqK ?_; intro K hK) | (refine hK _ ?_; clear hK K) | refine stZ ?_ | refine sqZ ?_ | (refine s0Z ?_; intro g) | ((first | refine' LS_h0 ?zh ?_ | refine' DL_h0 ?zh rfl rfl ?_); (case zh => exact H_mapUpdate rfl rfl rfl iI iI iI iI iI); intro g) | (refine LS_h (H_box rfl) rfl ?_; intro gb; replace p1 := p1 gb) | (refine LS_h (H_callX iI rfl p1 iI) rfl ?_; intro x2))
  exact ret_none (.inr rfl) rfl ⟨(), rfl, finE⟩
end

section
open Go.RowKit
section
variable {P : Program} {n : Frm} {w0 : World} {E : Env} {D : List Deferred} {H F F1 F2 : HProp} {Q : Exit → St → Prop} {l l' : List Oper}
theorem WS_drawG {id : Nat} (g1 g2 gL : Nat) (idx : List Nat) (cp : Nat) (bs : List Nat) {bt bt2 bt3 : TypeId} {cs cs2 cs3 : List Value} (hs : statD P l idx (inB bs) cp = true) (hl : permL l idx = some l') (hR : LimbB H g1 bt cs F1) (hR2 : LimbB F1 g2 bt2 cs2 F2) (hL : LimbB F2 gL bt3 cs3 F) (h : DL P n w0 l.toArray Q D (cel g1 bt cs * cel g2 bt2 cs2) (cel gL bt3 cs3) (inB bs) cp 0 false l' E F) : WS P n w0 (.region id l.toArray true) Q ⟨E, D, H⟩ :=
 WS_draw idx l' (cel g1 bt cs * cel g2 bt2 cs2) (cel gL bt3 cs3) F _ cp hs (by rw [hR.eq, hR2.eq, hL.eq, star_assoc]) (permL_eq hl) h
end
theorem loseAll_snoc (src : UInt32) (ls : List Ln) (l : List (UInt32 × UInt32)) (x : UInt32 × UInt32) : loseAll src ls (l ++ [x]) = loseStep src (loseAll src ls l) x := by simp [loseAll]
theorem loseAll_length (src : UInt32) (ls : List Ln) (l : List (UInt32 × UInt32)) : (loseAll src ls l).2.1.length ≤ l.length := by
 induction l using snocInd with
 | nil => simp [loseAll]
 | snoc l x ih =>
  rw [loseAll_snoc]
  unfold loseStep
  simp only
  split <;> simp <;> omega
attribute [local irreducible] WS LS OpQ OpT OpH OpTQ Spec SpecQ cel
variable (w0 : World)
set_option maxRecDepth 100000 in
theorem data_spec (gn : Nat) (s : Nd) (h : NH) (src : UInt32) (p : Pk) (hp : p.Read) (v : Value) (ok : TabOk s.ls) (hf : s.Fit 2) : Spec Tryz.prog w0 121 [ptr gn 0, u32 src, p.val v] (nodP gn s h * rows 180 2 lostC v p.lost) (fun _ : Unit => .tuple #[]) (fun _ => nodA gn (s.dat src p)) := by
  have hf1 : s.Fit 1 := hf.le (by omega)
  refine Spec.enter Tryz.func121 rfl Tryz.ntmps121 rfl fun G => ?_
  refine WS_form v iI fun A c hv => ?_
  subst hv
  obtain ⟨hp1, hp2, hp3, hp4, hp5⟩ := hp
  obtain ⟨ttl, kind, hops, unknown, id, dest, destSeq, from_, fromSeq, life, lost, payload⟩ := p
  simp only [Pk.val, Pk.cells, argE] at *
  by_cases h1 : dest = s.self
  · have es : s.dat src ⟨ttl, kind, hops, unknown, id, dest, destSeq, from_, fromSeq, life, lost, payload⟩ = s.came (from_, payload) := by unfold Nd.dat; rw [if_pos h1]
    have hcl := hf.came
    simp only [nodP, nodPm, nodC, outH, restP]
    repeat' (first | (show WS _ _ _ (.region 1 _ true) _ _; refine WS_drawA (.range 7) (by decide +kernel) rfl ?_) | (show WS _ _ _ (.region 2 _ true) _ _; first | refine WS_drawK (.range 17) 12 [5, 7, 9] (by decide +kernel) rfl ?_ | refine WS_drawN 0 5 (.range 17) 16 [5] (by decide +kernel) rfl rfl rfl iI iI ?_) | (refine WS_seqK ?_; intro K hK) | (refine hK _ ?_; clear hK K) | refine stZ ?_ | (refine s2Z ?_ ?_ <;> intro hc <;> (try simp only [cS] at hc) <;> (try (exfalso; first | contradiction | omega))) | refine sbZ ?_ | refine sqZ ?_ | (refine shZ ?_; intro g) | (refine s0Z ?_; intro g) | (refine DL_h (H_buildSliceR txtC [(from_, payload)] iI iI iI rfl rfl rfl rfl rfl iI rfl rfl rfl) rfl rfl rfl ?_; intro vx) | (refine DL_h (H_appendR rfl rfl iI iI rfl iI iI txtC_one (by first | omega | (simp [be_length] <;> omega)) rfl) rfl rfl rfl ?_; intro va))
    refine ret_none (.inl rfl) rfl ⟨(), rfl, ?_⟩
    rw [es]
    refine Ent.nod { h with vc := va } ?_
    simp only [nodP, nodPm, nodC, outH, restP, Nd.came]
    exact finE
  by_cases ht1 : ttl = 1
  · have es : s.dat src ⟨ttl, kind, hops, unknown, id, dest, destSeq, from_, fromSeq, life, lost, payload⟩ = s.drop 4 := by unfold Nd.dat; rw [if_neg h1, if_pos ht1]
    have p1 := drop_A w0 gn s h 4 hf1
    simp only [nodP, nodPm, nodC, outH, restP] at p1 ⊢
    repeat' (first | (show WS _ _ _ (.region 1 _ true) _ _; refine WS_drawA (.range 7) (by decide +kernel) rfl ?_) | (refine WS_seqK ?_; intro K hK) | (refine hK _ ?_; clear hK K) | refine stZ ?_ | (refine s2Z ?_ ?_ <;> intro hc <;> (try simp only [cS] at hc) <;> (try (exfalso; first | contradiction | omega))) | refine sbZ ?_ | refine sqZ ?_ | (refine shZ ?_; intro g) | (refine LS_h (H_callX iI rfl p1 iI) rfl ?_; intro x1))
    exact ret_none (.inl rfl) rfl ⟨(), rfl, by rw [es]; exact finE⟩
  have p6 := find_spec w0 h.tb s.self s.ls ok dest s.now
  cases hx : lookT s.ls dest s.now with
  | none =>
    obtain ⟨s1, hs1⟩ : ∃ s1 : Nd, s1 = s.drop 3 := ⟨_, rfl⟩
    have e1 : s1.ls = s.ls := by rw [hs1]; rfl
    have es : s.dat src ⟨ttl, kind, hops, unknown, id, dest, destSeq, from_, fromSeq, life, lost, payload⟩ = Nd.tell { s1 with ls := bumpT s1.ls dest } src dest (numT (bumpT s1.ls dest) dest) := by unfold Nd.dat; rw [if_neg h1, if_neg ht1]; simp only [hx]; rw [hs1]; rfl
    have p1 := ndrop_spec w0 gn s h 3 (by have := hf.dropped; omega)
    have p2 := bump_spec w0 h.tb s1.self s1.ls dest
    have p3 := fun vd => tell_A w0 gn { s1 with ls := bumpT s1.ls dest } { h with vd := vd } src dest (numT (bumpT s1.ls dest) dest) (by rw [hs1]; exact (hf.drop 3).ls _)
    rw [← hs1] at p1
    simp only [nodP, nodPm, nodC, outH, restP] at p1 p3 ⊢
    simp only [hx, findV, findH, routeC] at p6
    repeat' (first | (show WS _ _ _ (.region 1 _ true) _ _; refine WS_drawA (.range 7) (by decide +kernel) rfl ?_) | (show WS _ _ _ (.region 5 _ true) _ _; first | refine WS_drawR2 0 5 (.range 17) (by decide +kernel) rfl rfl rfl iI iI ?_ | refine WS_drawK (.range 17) 10 [3, 5, 9] (by decide +kernel) rfl ?_) | (refine WS_seqK ?_; intro K hK) | (refine hK _ ?_; clear hK K) | refine stZ ?_ | (refine s2Z ?_ ?_ <;> intro hc <;> (try simp only [cS] at hc) <;> (try (exfalso; first | contradiction | omega))) | (refine DL_alloc iI rfl ?_; intro g) | refine sbZ ?_ | refine sqZ ?_ | (refine shZ ?_; intro g) | (refine s0Z ?_; intro g) | (show WS _ _ _ (.region 8 _ true) _ _; refine WS_drawN 0 5 (.range 12) 11 [7] (by decide +kernel) rfl rfl rfl iI iI ?_) | (refine DL_h (H_callX iI rfl p6 iI) rfl rfl rfl ?_; intro x6) | (refine LS_h (H_callX iI rfl p1 iI) rfl ?_; intro vd; replace p3 := p3 vd) | (refine DL_h (H_callX iI rfl p2 iI) rfl rfl rfl ?_; intro x2) | (refine DL_h (H_callX iI rfl p3 iI) rfl rfl rfl ?_; intro x3))
    exact ret_none (.inl rfl) rfl ⟨(), rfl, by rw [es]; exact finE⟩
  | some x =>
    obtain ⟨s2, hs2⟩ : ∃ s2 : Nd, s2 = Nd.send s x.next ⟨ttl - 1, kind, hops, unknown, id, dest, destSeq, from_, fromSeq, life, lost, payload⟩ := ⟨_, rfl⟩
    have e1 : s2.ls = s.ls := by rw [hs2]; rfl
    have e2 : s2.soon = s.soon := by rw [hs2]; rfl
    have es : s.dat src ⟨ttl, kind, hops, unknown, id, dest, destSeq, from_, fromSeq, life, lost, payload⟩ = { s2 with ls := useT (useT s2.ls dest s2.soon) from_ s2.soon } := by unfold Nd.dat; rw [if_neg h1, if_neg ht1]; simp only [hx]; rw [e1, e2, hs2]
    have p7 := nsend_spec w0 gn s h x.next ⟨ttl - 1, kind, hops, unknown, id, dest, destSeq, from_, fromSeq, life, lost, payload⟩ ⟨by simp only [i64R] at *; omega, by simpa only [i64R] using hp2, by simp only [i64R] at *; omega, by simp only; omega, by simp only; omega⟩ (.slice A lost.length c) rfl (rows 180 2 lostC (.slice A lost.length c) lost) (hX := rdr_bare _ _ _ _ _) (by have := hf.frames; omega)
    have p8 := use_spec w0 h.tb s2.self s2.ls dest s2.soon
    have p9 := use_spec w0 h.tb s2.self (useT s2.ls dest s2.soon) from_ s2.soon
    have p10 := fun vf => soon_spec w0 gn s2 { h with vf := vf }
    rw [← hs2] at p7
    simp only [nodP, nodPm, nodC, outH, restP, Pk.val, Pk.cells] at p7 p10 ⊢
    simp only [hx, findV, findH, routeC] at p6
    repeat' (first | (show WS _ _ _ (.region 1 _ true) _ _; refine WS_drawA (.range 7) (by decide +kernel) rfl ?_) | (show WS _ _ _ (.region 5 _ true) _ _; first | refine WS_drawR2 0 5 (.range 17) (by decide +kernel) rfl rfl rfl iI iI ?_ | refine WS_drawK (.range 17) 10 [3, 5, 9] (by decide +kernel) rfl ?_) | (show WS _ _ _ (.region 11 _ true) _ _; refine WS_drawK (.range 9) 8 [3, 5] (by decide +kernel) rfl ?_) | (show WS _ _ _ (.region 12 _ true) _ _; refine WS_drawK (.range 9) 8 [3, 5] (by decide +kernel) rfl ?_) | (refine WS_seqK ?_; intro K hK) | (refine hK _ ?_; clear hK K) | refine stZ ?_ | (refine s2Z ?_ ?_ <;> intro hc <;> (try simp only [cS] at hc) <;> (try (exfalso; first | contradiction | omega))) | (refine DL_alloc iI rfl ?_; intro g) | refine sbZ ?_ | refine sqZ ?_ | (refine shZ ?_; intro g) | (refine s0Z ?_; intro g) | (refine DL_h (H_callX iI rfl p6 iI) rfl rfl rfl ?_; intro x6) | (refine LS_h (H_callX iI rfl p7 iI) rfl ?_; intro vf; replace p10 := p10 vf) | (refine DL_callS iI rfl p10 iI rfl ?_) | (refine DL_h (H_callX iI rfl p8 iI) rfl rfl rfl ?_; intro x8) | (refine DL_h (H_callX iI rfl p9 iI) rfl rfl rfl ?_; intro x9))
    refine ret_none (.inr rfl) rfl ⟨(), rfl, ?_⟩
    rw [es]
    refine Ent.nod { h with vf := vf } ?_
    simp only [nodP, nodPm, nodC, outH, restP]
    exact finE
set_option maxRecDepth 100000 in
theorem lose_spec' (gn : Nat) (s : Nd) (h : NH) (src : UInt32) (p : Pk) (hp : p.Read) (v : Value) (hf : s.Fit 2) : Spec Tryz.prog w0 120 [ptr gn 0, u32 src, p.val v] (nodP gn s h * rows 180 2 lostC v p.lost) (fun _ : Unit => .tuple #[]) (fun _ => nodA gn (s.los src p)) := by
  have hf1 : s.Fit 1 := hf.le (by omega)
  refine Spec.enter Tryz.func120 rfl Tryz.ntmps120 rfl fun G => ?_
  refine WS_form v iI fun A c hv => ?_
  subst hv
  obtain ⟨hp1, hp2, hp3, hp4, hp5⟩ := hp
  obtain ⟨ttl, kind, hops, unknown, id, dest, destSeq, from_, fromSeq, life, lost, payload⟩ := p
  simp only [Pk.val, Pk.cells, argE] at *
  simp only [nodP, nodPm, nodC, outH, restP]
  repeat' (first | (refine WS_seqK ?_; intro K hK) | (refine hK _ ?_; clear hK K) | refine stZ ?_ | refine sqZ ?_ | (refine LS_h (H_box rfl) rfl ?_; intro gp))
  refine WS_ent (Ent.nil _ 180 2 lostC none) ?_
  obtain ⟨PC, hPC⟩ : ∃ PC : List Value, PC = [.int .i64 ttl, .int .i64 kind, .int .i64 hops, .bool unknown, u32 id, u32 dest, u32 destSeq, u32 from_, u32 fromSeq, u32 life, .slice A lost.length c, strV payload] := ⟨_, rfl⟩
  refine WS_loop (fun k τ => ∃ (j : Nat) (vt : Value), j + k = lost.length ∧ τ = ⟨[(16, .int .i64 (j : Int)), (15, .int .i64 (lost.length : Int)), (14, .slice A lost.length c), (7, .bool (loseAll src s.ls (lost.take j)).2.2), (6, vt), (0, ptr gn 0), (1, u32 src)], [], nodP gn { s with ls := (loseAll src s.ls (lost.take j)).1 } h * (rows 180 2 lostC vt (loseAll src s.ls (lost.take j)).2.1 * (rows 180 2 lostC (.slice A lost.length c) lost * G))⟩) ?_ ?_
  · exact ⟨lost.length, _, ⟨0, _, by omega, rfl⟩, ⟨rfl, rfl, rfl, rfl, rfl, rfl, rfl, trivial⟩, rfl, by simp only [List.take_zero, loseAll, List.foldl_nil, nodP, nodPm, nodC, outH, restP]; exact finE⟩
  · rintro k τ ⟨j, vt, hjk, rfl⟩
    rcases Nat.lt_or_ge j lost.length with hlt | hge
    · obtain ⟨⟨ld, lq⟩, hz⟩ : ∃ z, lost[j]? = some z := ⟨_, List.getElem?_eq_getElem hlt⟩
      have htk : loseAll src s.ls (lost.take (j + 1)) = loseStep src (loseAll src s.ls (lost.take j)) (ld, lq) := by rw [List.take_add_one, hz, Option.toList_some, loseAll_snoc]
      have hal := loseAll_length src s.ls (lost.take j)
      rw [List.length_take] at hal
      generalize loseAll src s.ls (lost.take j) = a at *
      obtain ⟨ls1, tl, sm⟩ := a
      simp only [loseStep] at htk hal
      have p1 := lose_spec w0 h.tb s.self ls1 src ld lq
      have hj1 : (j : Int) < (lost.length : Int) := by omega
      cases hd : losesT ls1 src ld
      all_goals cases hb : decide (0 < ((lget ls1 ld).getD Ln.zero).before.length)
      all_goals cases sm
      all_goals
        simp only [hd, hb, Bool.false_and, Bool.true_and, Bool.and_false, Bool.and_true, Bool.or_false, Bool.or_true, Bool.false_eq_true, if_false, if_true] at htk p1
        simp only [nodP, nodPm, nodC, outH, restP, lostC]
        repeat' (first | (show WS _ _ _ (.region 6 _ true) _ _; refine WS_drawK (.range 14) 6 [3, 5] (by decide +kernel) rfl ?_) | (refine WS_seqK ?_; intro K hK) | (refine hK _ ?_; clear hK K) | refine stZ ?_ | (refine s2Z ?_ ?_ <;> intro hc <;> (try simp only [cS] at hc) <;> (try (exfalso; first | contradiction | omega))) | refine sbZ ?_ | refine sqZ ?_ | (refine shZ ?_; intro g) | ((refine' LS_h0 ?zh ?_); (case zh => exact H_storeA rfl rfl iI iI (by first | rfl | (simp only [List.all_cons, List.all_nil, *]; rfl)) rfl); intro g) | (refine LS_h (H_buildSliceR lostC [(ld, numT (loseT ls1 src ld lq) ld)] iI iI iI rfl rfl rfl rfl rfl iI rfl rfl rfl) rfl ?_; intro vx) | (refine LS_h (H_appendR rfl rfl iI iI rfl iI iI lostC_one (by first | omega | (simp [be_length] <;> omega)) rfl) rfl ?_; intro va) | (refine DL_h (H_callX iI rfl p1 iI) rfl rfl rfl ?_; intro x1))
        exact ⟨k - 1, _, by omega, ⟨j + 1, _, by omega, rfl⟩, ⟨rfl, rfl, rfl, by rw [htk]; rfl, rfl, rfl, rfl, trivial⟩, rfl, by rw [htk]; simp only [nodP, nodPm, nodC, outH, restP]; exact finE⟩
    · obtain rfl : j = lost.length := by omega
      rw [List.take_of_length_le (Nat.le_refl _)]
      have hal := loseAll_length src s.ls lost
      have es : s.los src ⟨ttl, kind, hops, unknown, id, dest, destSeq, from_, fromSeq, life, lost, payload⟩ = if (loseAll src s.ls lost).2.2 = true then Nd.lost { s with ls := (loseAll src s.ls lost).1 } (loseAll src s.ls lost).2.1 else Nd.drop (Nd.lost { s with ls := (loseAll src s.ls lost).1 } (loseAll src s.ls lost).2.1) 7 := rfl
      generalize loseAll src s.ls lost = a at *
      obtain ⟨ls1, tl, sm⟩ := a
      simp only at hal es
      have p1 := lost_spec w0 gn { s with ls := ls1 } h tl (by omega) vt (hf1.ls _)
      have hf3 : (Nd.lost { s with ls := ls1 } tl).Fit 1 := by unfold Nd.lost; split; exact (hf.ls ls1).send _ _; exact hf1.ls ls1
      generalize Nd.lost { s with ls := ls1 } tl = s2 at *
      have p5 := fun h2 => drop_A w0 gn s2 h2 7 hf3
      have hj1 : ¬ (lost.length : Int) < (lost.length : Int) := by omega
      cases sm
      · simp only [nodP, nodPm, nodC, outH, restP] at p1 p5 ⊢
        repeat' (first | (refine WS_seqK ?_; intro K hK) | (refine hK _ ?_; clear hK K) | refine stZ ?_ | (refine s2Z ?_ ?_ <;> intro hc <;> (try simp only [cS] at hc) <;> (try (exfalso; first | contradiction | omega))) | refine sbZ ?_ | refine sqZ ?_ | (refine LS_h (H_callX iI rfl p1 iI) rfl ?_; intro x1) | (refine LS_h (H_callX iI rfl p5 iI) rfl ?_; intro x2) | (refine LS_nod fun h9 => ?_; replace p5 := p5 h9; simp only [nodP, nodPm, nodC, outH, restP]))
        exact ret_none (.inr rfl) rfl ⟨(), rfl, by rw [es]; simp only [Bool.false_eq_true, if_false]; exact finE⟩
      · simp only [nodP, nodPm, nodC, outH, restP] at p1 ⊢
        repeat' (first | (refine WS_seqK ?_; intro K hK) | (refine hK _ ?_; clear hK K) | refine stZ ?_ | (refine s2Z ?_ ?_ <;> intro hc <;> (try simp only [cS] at hc) <;> (try (exfalso; first | contradiction | omega))) | refine sbZ ?_ | refine sqZ ?_ | (refine LS_h (H_callX iI rfl p1 iI) rfl ?_; intro x1))
        exact ret_none (.inr rfl) rfl ⟨(), rfl, by rw [es]; simp only [if_true]; exact finE⟩
theorem outB_length (nb : UInt32) (ds : List UInt32) (ls : List Ln) : (outB nb ds ls).length ≤ ds.length := List.length_filterMap_le _ _
set_option maxRecDepth 100000 in
theorem brkC_spec (gn : Nat) (s : Nd) (nb : UInt32) (ok : TabOk s.ls) (hf : s.Fit 1) (bn bx : Nat) (tn tx : TypeId) : Spec Tryz.prog w0 193 [ptr bn 0, ptr bx 0] (nodA gn s * (cel bn tn [ptr gn 0] * cel bx tx [u32 nb])) (fun _ : Unit => .tuple #[]) (fun _ => nodA gn (s.brk nb) * emp) := by
  refine Spec.enter Tryz.func193 rfl Tryz.ntmps193 rfl fun G => ?_
  rw [star_assoc (nodA gn s)]
  refine WS_nod fun h => ?_
  have p1 := broken_spec w0 h.tb s.self s.ls ok nb
  have hol := outB_length nb (sortU (dests s.ls)) s.ls
  have h8 : (sortU (dests s.ls)).length ≤ 8 := by rw [sortU_length]; simpa [dests] using ok.short
  have p2 := fun v => lost_spec w0 gn { s with ls := brkT nb s.ls } h (outB nb (sortU (dests s.ls)) s.ls) (by omega) v (hf.ls _)
  simp only [nodP, nodPm, nodC, outH, restP] at p2 ⊢
  simp only [argE]
  repeat' (first | refine stZ ?_ | refine sqZ ?_ | (show WS _ _ _ (.region 0 _ true) _ _; refine WS_drawG bn bx gn [0, 1, 2, 3, 4, 5, 6, 7] 7 [4] (by decide +kernel) rfl iI iI iI ?_) | (refine DL_h (H_callX iI rfl p1 iI) rfl rfl rfl ?_; intro v1) | (refine DL_h (H_callX iI rfl (p2 _) iI) rfl rfl rfl ?_; intro x2))
  exact ret_none (.inr rfl) rfl ⟨(), rfl, by unfold Nd.brk; exact finE⟩
end

end Go.Proofs.YtapoehkdnglahabGreat

