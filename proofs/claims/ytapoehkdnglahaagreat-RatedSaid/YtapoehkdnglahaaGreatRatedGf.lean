/- NodJ NodF NodE NodK NodG NodV NodU TikP NodT NodZ SndP RatP NodSd NodSe NodO NodSf MesN, joined. -/
import Derived.Test.YtapoehkdnglahaaGreatRatedGe
/- A request of a search goes out, if it may: the walk of ask. -/
namespace Go.Proofs.YtapoehkdnglahaaGreat
open Go.RowKit
set_option linter.unusedVariables false
set_option linter.unusedSectionVars false
set_option linter.unusedSimpArgs false
variable (w0 : World)
/-- A timer more. -/
theorem clock_add (b r : Nat) (last : Int) (L : List Tm) (t : UInt64) (x : Int) (hl : L.length ≤ 900000) (h0 : 0 ≤ last ∧ last ≤ 1000000000000000) : Spec Tryz.prog w0 101 [ptr b 0, u64 t, .int .i64 x] (clockQ b r last L) (fun _ : Unit => .int .i64 (last + 1)) (fun _ => clockQ b r (last + 1) (L ++ [⟨t, last + 1, x⟩])) := fun G w hs => by
  unfold clockQ at hs
  obtain ⟨l, hs1⟩ := hs.ex
  obtain ⟨tr, hs2⟩ := (hs1.cast (star_assoc _ _ _)).pure
  have hp := tr.perm.length_eq
  refine (hadd_spec w0 b r last l t x (fun u hu => by have := tr.bound u (tr.perm.mem_iff.1 hu); omega) tr.idn (by omega) h0 G w hs2).mono ?_
  rintro e w' ⟨y, he, hx⟩
  exact ⟨y, he, (Ent.hexI (p := fun l => pure' (TR l (L ++ [⟨t, last + 1, x⟩]) (last + 1)) * heapQ b r (last + 1) l) _ ((Ent.pureI (tr.add h0.1 ⟨t, last + 1, x⟩ rfl) (Ent.refl _)).trans (Ent.of_eq (star_assoc _ _ _).symm))).sat hx⟩
theorem clock_none (b r : Nat) (last : Int) (L : List Tm) (now : UInt64) (hb : bestN L now L.length = none) : Spec Tryz.prog w0 104 [ptr b 0, u64 now] (clockQ b r last L) (fun _ : Unit => .tuple #[.int .i64 0, .bool false]) (fun _ => clockQ b r last L) := fun G w hs => by
  unfold clockQ at hs
  obtain ⟨l, hs1⟩ := hs.ex
  obtain ⟨tr, hs2⟩ := (hs1.cast (star_assoc _ _ _)).pure
  have h1 : 0 < l.length → now < (at' l 0).at_ := fun h => by
    by_cases hc : now < (at' l 0).at_
    · exact hc
    · obtain ⟨k, hk, _⟩ := tr.due h hc; rw [hb] at hk; cases hk
  refine (hnext_none w0 b r last l now h1 G w hs2).mono ?_
  rintro e w' ⟨y, he, hx⟩
  exact ⟨y, he, (Ent.hexI (p := fun l => pure' (TR l L last) * heapQ b r last l) l ((Ent.pureI tr (Ent.refl _)).trans (Ent.of_eq (star_assoc _ _ _).symm))).sat hx⟩
theorem clock_some (b r : Nat) (last : Int) (L : List Tm) (now : UInt64) {i : Nat} (hb : bestN L now L.length = some i) (hl : L.length ≤ 900000) : Spec Tryz.prog w0 104 [ptr b 0, u64 now] (clockQ b r last L) (fun _ : Unit => .tuple #[.int .i64 (at' L i).what, .bool true]) (fun _ => clockQ b r last (L.eraseIdx i)) := fun G w hs => by
  unfold clockQ at hs
  obtain ⟨l, hs1⟩ := hs.ex
  obtain ⟨tr, hs2⟩ := (hs1.cast (star_assoc _ _ _)).pure
  have hp := tr.perm.length_eq
  have h0 : 0 < l.length := by have := (bestN_some hb).1; omega
  have h1 : ¬ now < (at' l 0).at_ := fun hc => by rw [tr.idle (fun _ => hc)] at hb; cases hb
  obtain ⟨k, hk, hk1, hk2, tr2⟩ := tr.due h0 h1
  rw [hb] at hk; cases hk
  refine (hnext_some w0 b r last l now h0 h1 tr.idn (by omega) G w hs2).mono ?_
  rintro e w' ⟨y, he, hx⟩
  rw [hk2] at he
  exact ⟨y, he, (Ent.hexI (p := fun l => pure' (TR l (L.eraseIdx i) last) * heapQ b r last l) _ ((Ent.pureI tr2 (Ent.refl _)).trans (Ent.of_eq (star_assoc _ _ _).symm))).sat hx⟩
theorem shl64 {P : Program} {t : TypeId} {x : UInt64} {r : Int} (h : 0 ≤ r ∧ r < 64) : BinV P .shl t (u64 x) (.int .i64 r) (u64 (x <<< UInt64.ofNat r.toNat)) := by
  obtain ⟨k, rfl⟩ : ∃ k : Nat, r = (k : Int) := ⟨r.toNat, by omega⟩
  refine ⟨fun w => ?_, fun w _ _ => guard_int _ _ _ _ _ _ _ _ _⟩
  show (Op.shift .shl .u64 (x.toNat : Int) .i64 (k : Int)).run P w = _
  have hk : k < 64 := by omega
  unfold Op.shift
  rw [if_neg (by omega)]
  simp only [Int.toNat_natCast, IntKind.bits]
  rw [show min k 64 = k by omega]
  have e : u64 (x <<< UInt64.ofNat k) = .int .u64 (IntKind.u64.wrap ((x.toNat : Int) * 2 ^ k)) := by
    refine (ofNat_u64 ?_).symm
    rw [wrap_u64, UInt64.toNat_shiftLeft, UInt64.toNat_ofNat']
    rw [Nat.mod_eq_of_lt (show k < 2 ^ 64 by omega), Nat.mod_eq_of_lt hk, Nat.shiftLeft_eq]
    simp
  rw [e]; rfl
theorem Q_convU {P : Program} {n : Frm} {w0 : World} {E : Env} {H : HProp} {d : Option Tmp} {ty : TypeId} {pos : String} {after : Array Edge} {gu : Option (Tmp × Bool)} {x : Operand} {src t : TypeId} {q : IntKind} {m : Int} {ds : TypeDesc} (hx : E.ev x = some (.int q m)) (hs : Und P src ds) (hd : Und P t (.int .u64)) (hm : 0 ≤ m ∧ m < 1000000) : OpQ P n w0 ⟨d, .convert src t x, ty, pos, after, gu⟩ E H (u64 (UInt64.ofNat m.toNat)) :=
  Q_convI hx hs hd (by rw [wrap_u64, UInt64.toNat_ofNat']; omega)
theorem askWait_eq (x : Sr) (h : 0 ≤ x.ttl ∧ x.ttl ≤ 8 ∧ 0 ≤ x.retries ∧ x.retries ≤ 2) : askWait x = (80 * UInt64.ofNat (x.ttl + 2).toNat) <<< UInt64.ofNat x.retries.toNat := by
  obtain ⟨d, ttl, ret, o, nm⟩ := x
  simp only at h
  unfold askWait
  simp only
  obtain ⟨h1, h2, h3, h4⟩ := h
  have a : ttl = 0 ∨ ttl = 1 ∨ ttl = 2 ∨ ttl = 3 ∨ ttl = 4 ∨ ttl = 5 ∨ ttl = 6 ∨ ttl = 7 ∨ ttl = 8 := by omega
  have b : ret = 0 ∨ ret = 1 ∨ ret = 2 := by omega
  rcases a with rfl | rfl | rfl | rfl | rfl | rfl | rfl | rfl | rfl <;> rcases b with rfl | rfl | rfl <;> decide
theorem modify_set {α : Type} {l : List α} {k : Nat} {x : α} (h : l[k]? = some x) (f : α → α) : l.modify k f = l.set k (f x) := by
  apply List.ext_getElem?
  intro j
  rw [List.getElem?_modify, List.getElem?_set]
  by_cases e : k = j
  · subst e
    obtain ⟨h1, h2⟩ := List.getElem?_eq_some_iff.1 h
    simp [h1, h2]
  · simp [e]
/-- A search in sight. -/
theorem srs_open (g : Nat) {bs : List Nat} {ss : List Sr} {k b : Nat} {x : Sr} (hl : bs.length = ss.length) (hb : bs[k]? = some b) (hx : ss[k]? = some x) : ∃ F, srsQ g bs ss = cel b 234 (srC g b x) * F ∧ ∀ y, srsQ g bs (ss.set k y) = cel b 234 (srC g b y) * F := by
  obtain ⟨F, e1, e2, _⟩ := zrow_hole (srP g) hb hx
  refine ⟨F, by rw [srsQ_eq hl, srsP_z, e1]; rfl, fun y => ?_⟩
  have := e2 b y
  rw [show bs.set k b = bs from by
    apply List.ext_getElem?
    intro j
    rw [List.getElem?_set]
    split
    · rename_i e; subst e; obtain ⟨h1, h2⟩ := List.getElem?_eq_some_iff.1 hb; simp [h1, h2]
    · rfl] at this
  rw [srsQ_eq (by simpa using hl), srsP_z, this]; rfl
/-- A node with a search in sight. -/
def nodO (g : Nat) (s : Nd) (h : NH) (b : Nat) (x : Sr) (F1 : HProp) : HProp :=
  cel g 184 (nodC 1 s h s.out) * (rows 48 3 Rec.cells h.vr s.recs * (mp u32 u32 h.rh s.held * (tabQ h.tb s.self s.ls * (outH h s.out * (mp rqV u64 h.rs s.seen * (rows 336 2 rqC h.vo s.order * (waitQ h.rw h.wv s.wait * (mp u32 ptrV h.rq (qmap h.sb s.srs) * (mp i64 ptrV h.ri (imap h.sb s.srs) * (cel b 234 (srC g b x) * (F1 * (clockQ h.cb h.cr s.last s.clk * rows 35 1 wrd64C h.vs s.sent))))))))))))
theorem Nd.Fit.note {s : Nd} {k : Nat} (h : s.Fit (k + 1)) (ok : TabOk s.ls) : s.note.Fit k := by
  obtain ⟨a, b, c, d, e⟩ := h
  have h1 := Nd.Same.note s
  have h2 := Nd.note_recs s ok
  have h3 := Nd.note_jour s ok
  exact ⟨by rw [h1.frames]; omega, by rw [h1.came]; omega, by rw [h1.dropped]; omega, by omega, by omega⟩
attribute [local irreducible] WS LS OpQ OpT OpH OpTQ Spec SpecQ cel
set_option maxRecDepth 100000 in
set_option maxHeartbeats 16000000 in
theorem ask_spec (gn : Nat) (s : Nd) (h : NH) {k b : Nat} {x : Sr} (hx : s.srs[k]? = some x) (hb : h.sb[k]? = some b) (hxr : 0 ≤ x.ttl ∧ x.ttl ≤ 8 ∧ 0 ≤ x.retries ∧ x.retries ≤ 2) (ok : TabOk s.ls) (hod : s.order.length ≤ 16) (hsn : s.sent.length ≤ 100) (hck : s.clk.length ≤ 900000) (hla : 0 ≤ s.last ∧ s.last ≤ 1000000000000) (hf : s.Fit 3) : Spec Tryz.prog w0 191 [ptr b 0] (nodP gn s h) (fun _ : Unit => .tuple #[]) (fun _ => nodA gn (s.ask k x)) := by
  refine Spec.enter Tryz.func191 rfl Tryz.ntmps191 rfl fun G => ?_
  refine WS_lens fun hsb hwv => ?_
  obtain ⟨F1, e1, e2⟩ := srs_open gn hsb hb hx
  have hmd := fun f => modify_set hx f
  have hqm : ∀ y : Sr, y.dest = x.dest → qmap h.sb (s.srs.set k y) = qmap h.sb s.srs := fun y hy => zmap_set (key := fun x : Sr => x.dest) hx hy
  have him : ∀ y : Sr, y.name = x.name → imap h.sb (s.srs.set k y) = imap h.sb s.srs := fun y hy => zmap_set (key := fun x : Sr => x.name) hx hy
  obtain ⟨xd, xt, xr, xo, xn⟩ := x
  simp only at hxr hqm him
  have hqm1 := fun o => hqm ⟨xd, xt, xr, o, xn⟩ rfl
  have him1 := fun o => him ⟨xd, xt, xr, o, xn⟩ rfl
  simp only [argE]
  by_cases hc : s.now < s.silent
  · have es : s.ask k ⟨xd, xt, xr, xo, xn⟩ = ((s.setOut k false).drop 8).arm xn 1000 := by unfold Nd.ask; rw [if_pos hc]
    have p1 := ndrop_spec w0 gn (s.setOut k false) h 8 (by have := hf.dropped; exact (by omega : s.out.dropped.length ≤ 900000))
    have p2 := clock_add w0 h.cb h.cr s.last s.clk (s.now + 1000) xn hck (by omega)
    simp only [nodP, nodPm, nodC, outH, restP, restC, Nd.setOut, Nd.drop, hmd, e1, e2, hqm1, him1, srC] at p1 ⊢
    repeat' (first | (show WS _ _ _ (.region 14 _ true) _ _; refine WS_drawA [0, 1, 2, 3, 4, 5, 6, 7, 8, 9] (by decide +kernel) rfl ?_) | (show WS _ _ _ (.region 18 _ true) _ _; refine WS_drawK [0, 1, 2, 3, 4, 5, 6, 7, 8, 9, 10, 11, 12, 13, 14] 14 [3, 7, 13] (by decide +kernel) rfl ?_) | (refine WS_seqK ?_; intro K hK) | (refine hK _ ?_; clear hK K) | refine WS_region ?_ | refine LS_nil ?_ | (first | refine DL_nilA ?_ | refine DL_nilS ?_ | refine DL_nilN ?_ | refine DL_nilE ?_ | refine DL_nilR ?_) | (first | refine DL_claimS rfl ?_ | refine DL_claim rfl rfl ?_) | ((first | refine' LQ ?zh rfl ?_ | refine' DL_qp rfl rfl rfl ?zh ?_ | refine' DL_q rfl rfl ?zh ?_); case zh => intro F'; first | exact Q_move rfl | exact Q_assign rfl | exact Q_nilCheck rfl | exact Q_fieldAddr rfl iI rfl | exact Q_load rfl iI iI rfl | exact Q_bin_t rfl rfl iI (by first | assumption | decide)) | ((first | refine' LQ ?zh rfl ?_ | refine' DL_q rfl rfl ?zh ?_); case zh => intro F'; exact Q_bin rfl rfl iI) | ((refine' LS_h0 ?zh ?_); (case zh => exact H_storeO rfl rfl iI iI iI rfl); intro g) | (first | refine WS_block ?_ | refine WS_skip ?_ | refine WS_ret ?_ | refine WS_exit ?_ | refine WS_label ?_) | (show WS _ _ _ (.cond _ _ _) _ _; first | refine WS_condT rfl iI ?_ | refine WS_condF rfl iI ?_ | refine WS_condH_t rfl (by assumption) ?_ | refine WS_condH_f rfl (by assumption) ?_ | (refine WS_cond rfl ?_ ?_ <;> intro hc <;> (try simp only [decide_eq_true_eq, decide_eq_false_iff_not, Bool.not_eq_eq_eq_not, Bool.not_true, Bool.not_false, Bool.and_eq_true, Bool.or_eq_true, bne_iff_ne, beq_iff_eq, ne_eq, Decidable.not_not] at hc) <;> (try (exfalso; first | contradiction | omega; done)))) | (refine LS_h (H_callX iI rfl p1 iI) rfl ?_; intro vd) | (refine DL_h (H_callX iI rfl p2 iI) rfl rfl rfl ?_; intro x2))
    refine ret_none (.inr rfl) rfl ⟨(), rfl, ?_⟩
    rw [es]
    refine Ent.nod { h with vd := vd } ?_
    simp only [nodP, nodPm, nodC, outH, restP, restC, Nd.setOut, Nd.drop, Nd.arm, hmd, e1, e2, hqm1, him1, srC]
    ((try simp only [star_assoc, emp_star, star_emp]); (repeat' (first | exact Ent.last | refine Ent.take ?_ | refine Ent.nilT ?_ | refine Ent.takeR (by first | rfl | assumption | (simp; done)) ?_ | exact Ent.refl _)))
  have pb := busy_spec w0 gn (s.setOut k false) h (by show s.sent.length ≤ 1000; omega)
  have hbs : ∀ o, busyN (s.setOut k o).now (s.setOut k o).sent = busyN s.now s.sent := fun _ => rfl
  rw [hbs] at pb
  by_cases hc2 : 5 ≤ busyN s.now s.sent
  · have es : s.ask k ⟨xd, xt, xr, xo, xn⟩ = ((s.setOut k false).drop 9).arm xn 1000 := by unfold Nd.ask; rw [if_neg hc, if_pos hc2]
    have p1 := ndrop_spec w0 gn (s.setOut k false) h 9 (by have := hf.dropped; exact (by omega : s.out.dropped.length ≤ 900000))
    have p2 := clock_add w0 h.cb h.cr s.last s.clk (s.now + 1000) xn hck (by omega)
    rw [decide_eq_true hc2] at pb
    simp only [nodP, nodPm, nodC, outH, restP, restC, Nd.setOut, Nd.drop, hmd, e1, e2, hqm1, him1, srC] at p1 pb ⊢
    repeat' (first | (show WS _ _ _ (.region 14 _ true) _ _; refine WS_drawA [0, 1, 2, 3, 4, 5, 6, 7, 8, 9] (by decide +kernel) rfl ?_) | (show WS _ _ _ (.region 18 _ true) _ _; refine WS_drawK [0, 1, 2, 3, 4, 5, 6, 7, 8, 9, 10, 11, 12, 13, 14] 14 [3, 7, 13] (by decide +kernel) rfl ?_) | (refine WS_seqK ?_; intro K hK) | (refine hK _ ?_; clear hK K) | refine WS_region ?_ | refine LS_nil ?_ | (first | refine DL_nilA ?_ | refine DL_nilS ?_ | refine DL_nilN ?_ | refine DL_nilE ?_ | refine DL_nilR ?_) | (first | refine DL_claimS rfl ?_ | refine DL_claim rfl rfl ?_) | ((first | refine' LQ ?zh rfl ?_ | refine' DL_qp rfl rfl rfl ?zh ?_ | refine' DL_q rfl rfl ?zh ?_); case zh => intro F'; first | exact Q_move rfl | exact Q_assign rfl | exact Q_nilCheck rfl | exact Q_fieldAddr rfl iI rfl | exact Q_load rfl iI iI rfl | exact Q_bin_f rfl rfl iI (by first | assumption | decide)) | ((first | refine' LQ ?zh rfl ?_ | refine' DL_q rfl rfl ?zh ?_); case zh => intro F'; exact Q_bin rfl rfl iI) | ((refine' LS_h0 ?zh ?_); (case zh => exact H_storeO rfl rfl iI iI iI rfl); intro g) | (first | refine WS_block ?_ | refine WS_skip ?_ | refine WS_ret ?_ | refine WS_exit ?_ | refine WS_label ?_) | (show WS _ _ _ (.cond _ _ _) _ _; first | refine WS_condT rfl iI ?_ | refine WS_condF rfl iI ?_ | refine WS_condH_t rfl (by assumption) ?_ | refine WS_condH_f rfl (by assumption) ?_ | (refine WS_cond rfl ?_ ?_ <;> intro hc <;> (try simp only [decide_eq_true_eq, decide_eq_false_iff_not, Bool.not_eq_eq_eq_not, Bool.not_true, Bool.not_false, Bool.and_eq_true, Bool.or_eq_true, bne_iff_ne, beq_iff_eq, ne_eq, Decidable.not_not] at hc) <;> (try (exfalso; first | contradiction | omega; done)))) | (refine LS_h (H_callX iI rfl pb iI) rfl ?_; intro x0) | (refine LS_h (H_callX iI rfl p1 iI) rfl ?_; intro vd) | (refine DL_h (H_callX iI rfl p2 iI) rfl rfl rfl ?_; intro x2))
    refine ret_none (.inr rfl) rfl ⟨(), rfl, ?_⟩
    rw [es]
    refine Ent.nod { h with vd := vd } ?_
    simp only [nodP, nodPm, nodC, outH, restP, restC, Nd.setOut, Nd.drop, Nd.arm, hmd, e1, e2, hqm1, him1, srC]
    ((try simp only [star_assoc, emp_star, star_emp]); (repeat' (first | exact Ent.last | refine Ent.take ?_ | refine Ent.nilT ?_ | refine Ent.takeR (by first | rfl | assumption | (simp; done)) ?_ | exact Ent.refl _)))
  rw [decide_eq_false hc2] at pb
  obtain ⟨s0, hs0⟩ : ∃ s0 : Nd, s0 = { s.setOut k true with seq := growS s.seq } := ⟨_, rfl⟩
  obtain ⟨sB, hsB⟩ : ∃ sB : Nd, sB = s0.note := ⟨_, rfl⟩
  have hfB : sB.Fit 2 := by rw [hsB]; exact Nd.Fit.note (s := s0) (by rw [hs0]; exact ⟨hf.frames, hf.came, hf.dropped, hf.recs, hf.journal⟩) (by rw [hs0]; exact ok)
  have hSm := Nd.Same.note s0
  have okB : TabOk sB.ls := by rw [hsB, hSm.ls, hs0]; exact ok
  have hBs : sB.srs = s.srs.set k ⟨xd, xt, xr, true, xn⟩ := by rw [hsB, hSm.srs, hs0]; exact hmd _
  have hBsent : sB.sent = s.sent := by rw [hsB, hSm.sent, hs0]; rfl
  have hBord : sB.order = s.order := by rw [hsB, hSm.order, hs0]; rfl
  have hBclk : sB.clk = s.clk := by rw [hsB, hSm.clk, hs0]; rfl
  have hBlast : sB.last = s.last := by rw [hsB, hSm.last, hs0]; rfl
  have hSB : srsQ gn h.sb sB.srs = cel b 234 (srC gn b ⟨xd, xt, xr, true, xn⟩) * F1 := by rw [hBs]; exact e2 _
  obtain ⟨s2, hs2⟩ : ∃ s2 : Nd, s2 = { sB with ids := sB.ids + 1, sent := trimS (sB.sent ++ [sB.now]) } := ⟨_, rfl⟩
  have es : s.ask k ⟨xd, xt, xr, xo, xn⟩ = ((s2.send 0 ⟨xt, 1, 0, (lget s2.ls xd).isNone, s2.ids, xd, numT s2.ls xd, s2.self, s2.seq, 0, [], []⟩).remember ⟨s2.self, s2.ids⟩).arm xn (askWait ⟨xd, xt, xr, xo, xn⟩) := by
    unfold Nd.ask
    rw [if_neg hc, if_neg hc2]
    unfold Nd.ask1
    rw [hs2, hsB, hs0]
    rfl
  have hS2 : srsQ gn h.sb s2.srs = cel b 234 (srC gn b ⟨xd, xt, xr, true, xn⟩) * F1 := by rw [hs2]; exact hSB
  have hf2 : s2.Fit 2 := by rw [hs2]; exact ⟨hfB.frames, hfB.came, hfB.dropped, hfB.recs, hfB.journal⟩
  have ok2 : TabOk s2.ls := by rw [hs2]; exact okB
  have ho2 : s2.order.length ≤ 16 := by rw [hs2]; show sB.order.length ≤ 16; rw [hBord]; exact hod
  have hc2' : s2.clk = s.clk := by rw [hs2]; exact hBclk
  have hl2' : s2.last = s.last := by rw [hs2]; exact hBlast
  have pg := grow_spec w0 s.seq
  have pn := note_spec w0 1 gn s0 h ⟨by rw [hs0]; have := hf.recs; exact (by omega : s.recs.length + 10 ≤ 500000), by rw [hs0]; have := hf.journal; exact (by omega : s.out.journal.length + 13 * 10 ≤ 900000)⟩ (by rw [hs0]; exact ok)
  rw [← hsB] at pn
  rw [hs0] at pn
  have hsl : (sB.sent ++ [sB.now]).length = s.sent.length + 1 := by rw [hBsent]; simp
  have hsl0 : sB.sent.length ≤ 100 := by rw [hBsent]; exact hsn
  simp only [nodP, nodPm, nodC, outH, restP, restC, Nd.setOut, hmd, e1, e2, hqm1, him1, srC, hSB, growS] at pb pn ⊢
  have hr2 : ∀ (vr vs : Value), ∃ h2 : NH, h2 = { h with vr := vr, vs := vs } := fun _ _ => ⟨_, rfl⟩
  by_cases hlen : 5 < (sB.sent ++ [sB.now]).length
  all_goals
    first
    | (have htr : s2.sent = (sB.sent ++ [sB.now]).drop 1 := by rw [hs2]; unfold trimS; rw [if_pos hlen])
    | (have htr : s2.sent = sB.sent ++ [sB.now] := by rw [hs2]; unfold trimS; rw [if_neg hlen])
    have hlen' : (5 : Int) < ((sB.sent ++ [sB.now]).length : Int) ∨ ¬ (5 : Int) < ((sB.sent ++ [sB.now]).length : Int) := by omega
    repeat' (first | (show WS _ _ _ (.region 14 _ true) _ _; refine WS_drawA [0, 1, 2, 3, 4, 5, 6, 7, 8, 9] (by decide +kernel) rfl ?_) | (show WS _ _ _ (.region 7 _ true) _ _; first | refine WS_drawK [0, 1, 2, 3, 4, 5, 6, 7, 8, 9, 10, 11, 12, 13] 10 [4, 8] (by decide +kernel) rfl ?_ | refine WS_drawM 2 [0, 1, 2, 3, 4, 5, 6, 7, 8, 9, 10, 11, 12, 13] 13 [4, 8] (by decide +kernel) rfl rfl iI ?_) | (refine WS_seqK ?_; intro K hK) | (refine hK _ ?_; clear hK K) | refine WS_region ?_ | refine LS_nil ?_ | (first | refine DL_nilA ?_ | refine DL_nilS ?_ | refine DL_nilN ?_ | refine DL_nilE ?_ | refine DL_nilR ?_) | (first | refine DL_claimS rfl ?_ | refine DL_claim rfl rfl ?_) | ((first | refine' LQ ?zh rfl ?_ | refine' DL_qp rfl rfl rfl ?zh ?_ | refine' DL_q rfl rfl ?zh ?_); case zh => intro F'; first | exact Q_move rfl | exact Q_assign rfl | exact Q_nilCheck rfl | exact Q_fieldAddr rfl iI rfl | exact Q_load rfl iI iI rfl | exact Q_bin_t rfl rfl iI (by first | assumption | decide | omega) | exact Q_bin_f rfl rfl iI (by first | assumption | decide | omega) | exact Q_lenR rfl iI iI | exact Q_sliceR_l rfl rfl iI iI iI iI (by first | assumption | omega | (simp [be_length] <;> omega))) | ((refine' LQ ?zh rfl ?_); case zh => intro F'; exact Q_bin rfl rfl iI) | ((first | refine' LS_h0 ?zh ?_ | refine' DL_h0 ?zh rfl rfl ?_); (case zh => exact H_storeO rfl rfl iI iI iI rfl); intro g) | (first | refine WS_block ?_ | refine WS_skip ?_ | refine WS_ret ?_ | refine WS_exit ?_ | refine WS_label ?_) | (show WS _ _ _ (.cond _ _ _) _ _; first | refine WS_condT rfl iI ?_ | refine WS_condF rfl iI ?_ | refine WS_condH_t rfl (by assumption) ?_ | refine WS_condH_f rfl (by assumption) ?_ | (refine WS_cond rfl ?_ ?_ <;> intro hc <;> (try simp only [decide_eq_true_eq, decide_eq_false_iff_not, Bool.not_eq_eq_eq_not, Bool.not_true, Bool.not_false, Bool.and_eq_true, Bool.or_eq_true, bne_iff_ne, beq_iff_eq, ne_eq, Decidable.not_not] at hc) <;> (try (exfalso; first | contradiction | omega; done)))) | (refine LS_h (H_callX iI rfl pb iI) rfl ?_; intro x0) | (refine LS_h (H_call0 iI rfl pg) rfl ?_; intro ug) | (refine LS_h (H_callX iI rfl pn iI) rfl ?_; intro vr) | (refine DL_h (H_buildSliceR wrd64C [sB.now] iI iI iI rfl rfl rfl rfl rfl iI rfl rfl rfl) rfl rfl rfl ?_; intro vx) | (refine DL_h (H_appendR rfl rfl iI iI rfl iI iI wrd64C_one (by first | omega | (simp [be_length] <;> omega)) rfl) rfl rfl rfl ?_; intro va))
    first
    | (have hpos : 5 < (sB.sent ++ [sB.now]).length := hlen
       refine WS_ent (H' := nodO gn s2 { h with vr := vr, vs := sTail 1 va 1 } b ⟨xd, xt, xr, true, xn⟩ F1 * G) (by
         rw [hs2]
         simp only [nodO, nodC, outH, trimS, if_pos hlen, srC]
         refine (Ent.tailR (v := va) 1 (by omega)).trans ?_
         ((try simp only [star_assoc, emp_star, star_emp]); (repeat' (first | exact Ent.last | refine Ent.take ?_ | refine Ent.nilT ?_ | refine Ent.takeR (by first | rfl | assumption | (simp; done)) ?_ | exact Ent.refl _)))) ?_
       obtain ⟨h2, hh⟩ : ∃ h2 : NH, h2 = { h with vr := vr, vs := sTail 1 va 1 } := ⟨_, rfl⟩
       rw [← hh]
       have hh2 : h2.tb = h.tb ∧ h2.sb = h.sb ∧ h2.cb = h.cb ∧ h2.cr = h.cr := by rw [hh]; exact ⟨rfl, rfl, rfl, rfl⟩
       clear hh)
    | (refine WS_ent (H' := nodO gn s2 { h with vr := vr, vs := va } b ⟨xd, xt, xr, true, xn⟩ F1 * G) (by
         rw [hs2]
         simp only [nodO, nodC, outH, trimS, if_neg hlen, srC]
         ((try simp only [star_assoc, emp_star, star_emp]); (repeat' (first | exact Ent.last | refine Ent.take ?_ | refine Ent.nilT ?_ | refine Ent.takeR (by first | rfl | assumption | (simp; done)) ?_ | exact Ent.refl _)))) ?_
       obtain ⟨h2, hh⟩ : ∃ h2 : NH, h2 = { h with vr := vr, vs := va } := ⟨_, rfl⟩
       rw [← hh]
       have hh2 : h2.tb = h.tb ∧ h2.sb = h.sb ∧ h2.cb = h.cb ∧ h2.cr = h.cr := by rw [hh]; exact ⟨rfl, rfl, rfl, rfl⟩
       clear hh)
    obtain ⟨i1, i2, i3, i4⟩ := hh2
    clear pb pn
    rw [← i2] at hS2
    have p4 := number_spec w0 h2.tb s2.self s2.ls xd
    obtain ⟨pk, hpk⟩ : ∃ pk : Pk, pk = ⟨xt, 1, 0, (lget s2.ls xd).isNone, s2.ids, xd, numT s2.ls xd, s2.self, s2.seq, 0, [], []⟩ := ⟨_, rfl⟩
    have p5 := send_E0 w0 gn s2 h2 0 pk (by rw [hpk]; exact ⟨by simp only [i64R]; omega, by simp [i64R], by simp [i64R], by simp, by simp⟩) (by rw [hpk]) (hf2.le (by omega))
    obtain ⟨s3, hs3⟩ : ∃ s3 : Nd, s3 = s2.send 0 pk := ⟨_, rfl⟩
    have e3 : s3.self = s2.self ∧ s3.ids = s2.ids ∧ s3.srs = s2.srs ∧ s3.order = s2.order ∧ s3.now = s2.now ∧ s3.clk = s2.clk ∧ s3.last = s2.last := by rw [hs3]; exact ⟨rfl, rfl, rfl, rfl, rfl, rfl, rfl⟩
    rw [← hs3] at p5
    have p6 := fun vf => remember_spec w0 gn s3 { h2 with vf := vf } ⟨s3.self, s3.ids⟩ (by rw [e3.2.2.2.1]; exact ho2)
    obtain ⟨s4, hs4⟩ : ∃ s4 : Nd, s4 = s3.remember ⟨s3.self, s3.ids⟩ := ⟨_, rfl⟩
    have e4 : s4.srs = s3.srs ∧ s4.now = s3.now ∧ s4.clk = s3.clk ∧ s4.last = s3.last := by rw [hs4]; unfold Nd.remember; dsimp only; split <;> exact ⟨rfl, rfl, rfl, rfl⟩
    rw [← hs4] at p6
    have hS3 : srsQ gn h2.sb s3.srs = cel b 234 (srC gn b ⟨xd, xt, xr, true, xn⟩) * F1 := by rw [e3.2.2.1]; exact hS2
    have hS4 : srsQ gn h2.sb s4.srs = cel b 234 (srC gn b ⟨xd, xt, xr, true, xn⟩) * F1 := by rw [e4.1]; exact hS3
    have p7 := clock_add w0 h2.cb h2.cr s4.last s4.clk (s4.now + ((80 * UInt64.ofNat (xt + 2).toNat) <<< UInt64.ofNat xr.toNat)) xn (by rw [e4.2.2.1, e3.2.2.2.2.2.1, hc2']; exact hck) (by rw [e4.2.2.2, e3.2.2.2.2.2.2, hl2']; omega)
    have es2 : s.ask k ⟨xd, xt, xr, xo, xn⟩ = s4.arm xn ((80 * UInt64.ofNat (xt + 2).toNat) <<< UInt64.ofNat xr.toNat) := by
      rw [es, askWait_eq _ hxr, ← hpk, ← hs3, hs4, e3.1, e3.2.1]
    rw [hpk] at p5
    have hsh : 0 ≤ xr ∧ xr < 64 := by omega
    simp only [nodP, nodPm, nodC, outH, restP, restC, hS2, hS3, hS4, Pk.val, Pk.cells, rqV, rqC, srC] at p5 p6
    simp only [nodO, nodC, outH, srC]
    cases hg : lget s2.ls xd
    all_goals
      simp only [numT, hg, Option.isSome_none, Option.isSome_some, Option.isNone_none, Option.isNone_some] at p4 p5
      repeat' (first | (show WS _ _ _ (.region 10 _ true) _ _; refine WS_drawK [0, 1, 2, 3, 4, 5, 6, 7, 8, 9, 10, 11, 12, 13] 8 [3, 7] (by decide +kernel) rfl ?_) | (show WS _ _ _ (.region 11 _ true) _ _; refine WS_drawK [0, 1, 2, 3, 4, 5, 6, 7, 8, 9, 10, 11, 12, 13, 14, 15, 16, 17, 18, 19, 20, 21, 22, 23, 24, 25] 25 [4, 10, 14, 19, 23] (by decide +kernel) rfl ?_) | (show WS _ _ _ (.region 12 _ true) _ _; refine WS_drawK [0, 1, 2, 3, 4, 5, 6, 7, 8, 9, 10] 10 [4, 8] (by decide +kernel) rfl ?_) | (show WS _ _ _ (.region 13 _ true) _ _; refine WS_drawA [0, 1, 2, 3, 4, 5, 6, 7, 8, 9, 10, 11, 12] (by decide +kernel) rfl ?_) | (show WS _ _ _ (.region 18 _ true) _ _; refine WS_drawK [0, 1, 2, 3, 4, 5, 6, 7, 8, 9, 10, 11, 12, 13, 14] 14 [3, 7, 13] (by decide +kernel) rfl ?_) | (refine WS_seqK ?_; intro K hK) | (refine hK _ ?_; clear hK K) | (first | refine DL_nilA ?_ | refine DL_nilS ?_ | refine DL_nilN ?_ | refine DL_nilE ?_ | refine DL_nilR ?_) | (first | refine DL_claimS rfl ?_ | refine DL_claim rfl rfl ?_) | ((first | refine' DL_qp rfl rfl rfl ?zh ?_ | refine' DL_q rfl rfl ?zh ?_); case zh => intro F'; first | exact Q_move rfl | exact Q_assign rfl | exact Q_nilCheck rfl | exact Q_fieldAddr rfl iI rfl | exact Q_load rfl iI iI rfl | exact Q_addI rfl rfl (by omega) | exact Q_extract rfl rfl | exact Q_un rfl iI | exact Q_build iI iI rfl rfl) | ((refine' DL_q rfl rfl ?zh ?_); case zh => intro F'; exact Q_bin rfl rfl iI) | (refine DL_h (H_callX iI rfl p4 iI) rfl rfl rfl ?_; intro x4) | (refine DL_h (H_callX iI rfl p5 iI) rfl rfl rfl ?_; intro vf; replace p6 := p6 vf) | (refine DL_h (H_callX iI rfl p6 iI) rfl rfl rfl ?_; intro vo) | ((first | refine' DL_qp rfl rfl rfl ?zh ?_ | refine' DL_q rfl rfl ?zh ?_); (case zh => intro F'; exact Q_convU rfl iI iI (by omega))) | ((first | refine' DL_qp rfl rfl rfl ?zh ?_ | refine' DL_q rfl rfl ?zh ?_); (case zh => intro F'; exact Q_bin rfl rfl (shl64 hsh))) | (refine DL_h (H_callX iI rfl p7 iI) rfl rfl rfl ?_; intro x7))
      refine ret_none (.inr rfl) rfl ⟨(), rfl, ?_⟩
      rw [es2]
      refine Ent.nod { h2 with vf := vf, vo := vo } ?_
      simp only [nodP, nodPm, nodC, outH, restP, restC, Nd.arm, hS4, srC]
      ((try simp only [star_assoc, emp_star, star_emp]); (repeat' (first | exact Ent.last | refine Ent.take ?_ | refine Ent.nilT ?_ | refine Ent.takeR (by first | rfl | assumption | (simp; done)) ?_ | exact Ent.refl _)))
end Go.Proofs.YtapoehkdnglahaaGreat

/- All that waits for a destination goes out: the walk of flush. -/
namespace Go.Proofs.YtapoehkdnglahaaGreat
open Go.RowKit
set_option linter.unusedVariables false
set_option linter.unusedSectionVars false
set_option linter.unusedSimpArgs false
theorem restP_hand (gn : Nat) (s : Nd) (d : UInt32) (t : Str) (h : NH) : restP gn (s.hand d t) h = restP gn s h := by
  unfold Nd.hand
  split <;> rfl
theorem Nd.handAll_snoc (s : Nd) (d : UInt32) (l : List Str) (t : Str) : s.handAll d (l ++ [t]) = (s.handAll d l).hand d t := by simp [Nd.handAll]
theorem restP_handAll (gn : Nat) (s : Nd) (d : UInt32) (l : List Str) (h : NH) : restP gn (s.handAll d l) h = restP gn s h := by
  induction l using snocInd with
  | nil => rfl
  | snoc l t ih => rw [Nd.handAll_snoc, restP_hand, ih]
theorem Nd.hand_ls (s : Nd) (d : UInt32) (t : Str) (ok : TabOk s.ls) : TabOk (s.hand d t).ls := by
  unfold Nd.hand
  split
  · exact ok
  · exact ok.use _ _
theorem Nd.handAll_ls (s : Nd) (d : UInt32) (l : List Str) (ok : TabOk s.ls) : TabOk (s.handAll d l).ls := by
  induction l using snocInd with
  | nil => exact ok
  | snoc l t ih => rw [Nd.handAll_snoc]; exact Nd.hand_ls _ _ _ ih
theorem Nd.Fit.hand {s : Nd} {k : Nat} (h : s.Fit (k + 1)) (d : UInt32) (t : Str) : (s.hand d t).Fit k := by
  unfold Nd.hand
  split
  · exact h.le (by omega)
  · obtain ⟨a, b, c, e, f⟩ := h
    constructor <;> simp only [Nd.send, List.length_append, List.length_cons, List.length_nil] <;> omega
theorem Nd.Fit.handAll {k : Nat} (d : UInt32) (l : List Str) : ∀ {s : Nd}, s.Fit (l.length + k) → (s.handAll d l).Fit k := by
  induction l with
  | nil => intro s h; exact h.le (by simp)
  | cons t l ih => intro s h; exact ih (Nd.Fit.hand (h.le (by simp only [List.length_cons]; omega)) d t)
theorem Nd.handAll_srs (s : Nd) (d : UInt32) (l : List Str) : (s.handAll d l).srs = s.srs ∧ (s.handAll d l).wait = s.wait ∧ (s.handAll d l).names = s.names ∧ (s.handAll d l).self = s.self ∧ (s.handAll d l).now = s.now := by
  induction l using snocInd with
  | nil => exact ⟨rfl, rfl, rfl, rfl, rfl⟩
  | snoc l t ih =>
    rw [Nd.handAll_snoc]
    unfold Nd.hand
    split <;> exact ih
theorem mdel_k (ws : List (UInt32 × List Str)) (d : UInt32) : mdel ws d = match kfind (·.1) ws d with | some k => ws.eraseIdx k | none => ws := by
  have : ∀ ws : List (UInt32 × List Str), mfind ws d = kfind (·.1) ws d := fun ws => by
    induction ws with
    | nil => rfl
    | cons x r ih => simp only [mfind, kfind]; rw [ih]
  unfold mdel
  rw [this]
  cases kfind (·.1) ws d <;> rfl
theorem Ent.two {H A B C F F' K : HProp} (h1 : Own H A F) (h2 : Own F B F') (e : ∀ Z, Ent (A * (B * Z)) (C * Z)) (r : Ent (C * F') K) : Ent H K := ((Ent.of_eq (by rw [h1.eq, h2.eq])).trans (e F')).trans r
/-- The texts that wait for d, in sight. -/
theorem WS_texts {P : Program} {n : Frm} {w0 : World} {E : Env} {D : List Deferred} {F : HProp} {c : Code} {Q : Exit → St → Prop} {mu : Int} {g : Nat} {s : Nd} {h : NH} (d : UInt32) (hwv : h.wv.length = s.wait.length)
    (hw : ∀ A cap R1, optV slV' (.slice none 0 0) (mget (wmap h.wv s.wait) d) = .slice A (s.texts d).length cap → (∀ Z, Ent (restP g s h * Z) (rows 9 1 strCc (.slice A (s.texts d).length cap) (s.texts d) * (R1 * Z))) → (∀ Z, Ent (rows 9 1 strCc (.slice A (s.texts d).length cap) (s.texts d) * (R1 * Z)) (restP g s h * Z)) → WS P n w0 c Q ⟨E, D, nodPm mu g s h * F⟩) : WS P n w0 c Q ⟨E, D, nodPm mu g s h * F⟩ := fun a w gd => by
  cases hk : kfind (·.1) s.wait d with
  | none =>
    have hte : s.texts d = [] := by unfold Nd.texts; rw [mget_k, hk]; rfl
    have hm : mget (wmap h.wv s.wait) d = none := mget_zmap_none (key := fun x : UInt32 × List Str => x.1) hwv hk
    rw [hte, hm] at hw
    exact hw none 0 (restP g s h) rfl (fun Z => Ent.nil _ _ _ _ _) (fun Z => Ent.drop _ _) a w gd
  | some k =>
    obtain ⟨x, hx, hxd⟩ := kfind_some hk
    obtain ⟨v, hv⟩ : ∃ v, h.wv[k]? = some v := ⟨_, List.getElem?_eq_getElem (by rw [hwv]; exact (List.getElem?_eq_some_iff.1 hx).1)⟩
    have hte : s.texts d = x.2 := by unfold Nd.texts; rw [mget_k, hk]; simp [hx]
    have hm : mget (wmap h.wv s.wait) d = some v := mget_zmap_some (key := fun x : UInt32 × List Str => x.1) hwv hk hv
    obtain ⟨F1, e1, _, _⟩ := zrow_hole txP hv hx
    obtain ⟨R1, e⟩ : ∃ R1, restP g s h = rows 9 1 strCc (slV' v) x.2 * R1 := ⟨mp rqV u64 h.rs s.seen * (rows 336 2 rqC h.vo s.order * (mp u32 slV' h.rw (wmap h.wv s.wait) * (F1 * (mp u32 ptrV h.rq (qmap h.sb s.srs) * (mp i64 ptrV h.ri (imap h.sb s.srs) * (srsQ g h.sb s.srs * (clockQ h.cb h.cr s.last s.clk * rows 35 1 wrd64C h.vs s.sent))))))), by
      unfold restP restC
      rw [waitQ_eq hwv, textsP_z, e1]
      unfold txP
      ac_rfl⟩
    have hs := gd.sat
    have e3 : nodPm mu g s h * F = rows 9 1 strCc (slV' v) x.2 * (cel g 184 (nodC mu s h s.out) * (rows 48 3 Rec.cells h.vr s.recs * (mp u32 u32 h.rh s.held * (tabQ h.tb s.self s.ls * (outH h s.out * (R1 * F)))))) := by
      unfold nodPm
      rw [e]
      ac_rfl
    obtain ⟨A, cap, hA⟩ := rows_form (hs.cast e3)
    rw [hte, hm] at hw
    refine hw A cap R1 hA ?_ ?_ a w gd
    · intro Z; rw [e, hA, star_assoc]; exact Ent.refl _
    · intro Z; rw [e, hA, star_assoc]; exact Ent.refl _
/-- What waits for d is gone. -/
theorem wait_del (r : Nat) {vs : List (Option Addr × Nat × Nat)} {ws : List (UInt32 × List Str)} (hl : vs.length = ws.length) (d : UInt32) : ∃ vs', ∀ Z, Ent (mp u32 slV' r (mdel (wmap vs ws) d) * (textsP vs ws * Z)) (waitQ r vs' (mdel ws d) * Z) := by
  cases hk : kfind (·.1) ws d with
  | none =>
    have hdl : mdel (wmap vs ws) d = wmap vs ws := mdel_zmap_none (key := fun x : UInt32 × List Str => x.1) hl hk
    have hd2 : mdel ws d = ws := by rw [mdel_k, hk]
    refine ⟨vs, fun Z => ?_⟩
    rw [hdl, hd2, waitQ_eq hl, star_assoc]
    exact Ent.refl _
  | some k =>
    obtain ⟨x, hx, hxd⟩ := kfind_some hk
    obtain ⟨v, hv⟩ : ∃ v, vs[k]? = some v := ⟨_, List.getElem?_eq_getElem (by rw [hl]; exact (List.getElem?_eq_some_iff.1 hx).1)⟩
    have hdl : mdel (wmap vs ws) d = wmap (vs.eraseIdx k) (ws.eraseIdx k) := mdel_zmap (key := fun x : UInt32 × List Str => x.1) hl hk
    have hd2 : mdel ws d = ws.eraseIdx k := by rw [mdel_k, hk]
    obtain ⟨F1, e1, _, e3⟩ := zrow_hole txP hv hx
    refine ⟨vs.eraseIdx k, fun Z => ?_⟩
    rw [hdl, hd2, waitQ_eq (by rw [List.length_eraseIdx, List.length_eraseIdx, hl]), textsP_z, textsP_z, e1, e3, star_assoc, star_assoc]
    exact Ent.tail _ (Ent.drop _ _)
theorem Spec.conv {P : Program} {w0 : World} {f : FuncId} {args : List Value} {X X' : HProp} {α : Type} {res : α → Value} {Y Y' : α → HProp} (h : Spec P w0 f args X res Y) (e1 : ∀ Z, Ent (X' * Z) (X * Z)) (e2 : ∀ x Z, Ent (Y x * Z) (Y' x * Z)) : Spec P w0 f args X' res Y' := fun G w hs => (h G w ((e1 G).sat hs)).mono fun e w' ⟨x, he, hx⟩ => ⟨x, he, (e2 x G).sat hx⟩
/-- A node without what is seldom looked at. -/
def coreP (g : Nat) (s : Nd) (h : NH) : HProp := cel g 184 (nodC 1 s h s.out) * (rows 48 3 Rec.cells h.vr s.recs * (mp u32 u32 h.rh s.held * (tabQ h.tb s.self s.ls * outH h s.out)))
theorem nodP_core (g : Nat) (s : Nd) (h : NH) (Z : HProp) : nodP g s h * Z = coreP g s h * (restP g s h * Z) := by unfold nodP nodPm coreP; ac_rfl
attribute [local irreducible] WS LS OpQ OpT OpH OpTQ Spec SpecQ cel
variable (w0 : World)
set_option maxRecDepth 100000 in
set_option maxHeartbeats 8000000 in
theorem flush_spec (gn : Nat) (s : Nd) (h : NH) (d : UInt32) (ok : TabOk s.ls) (so : SrOk s) (hl : (s.texts d).length ≤ 100) (ht : ∀ t ∈ s.texts d, t.length ≤ 100) (hf : s.Fit ((s.texts d).length + 1)) : Spec Tryz.prog w0 231 [ptr gn 0, u32 d] (nodP gn s h) (fun _ : Unit => .tuple #[]) (fun _ => nodA gn (s.flush d)) := by
  refine Spec.enter Tryz.func231 rfl Tryz.ntmps231 rfl fun G => ?_
  refine WS_lens fun hsb hwv => ?_
  refine WS_texts d hwv fun A cap R1 hm ho hc => ?_
  obtain ⟨tv, htv⟩ : ∃ tv, tv = s.texts d := ⟨_, rfl⟩
  rw [← htv] at hl ht hf hm ho hc
  simp only [nodP, nodPm, nodC, outH, restP, restC, waitQ_eq hwv]
  simp only [argE]
  repeat' (first | (refine WS_seqK ?_; intro K hK) | (refine hK _ ?_; clear hK K) | refine WS_region ?_ | refine LS_nil ?_ | ((refine' LQ ?zh rfl ?_); case zh => intro F'; first | exact Q_move rfl | exact Q_nilCheck rfl | exact Q_fieldAddr rfl iI rfl | exact Q_load rfl iI iI rfl | exact Q_len rfl iI | exact Q_lookupE rfl rfl iI iI iI iI iI (by assumption)) | (first | refine WS_block ?_ | refine WS_skip ?_ | refine WS_ret ?_ | refine WS_exit ?_ | refine WS_label ?_))
  refine WS_ent (H' := coreP gn s h * (rows 9 1 strCc (.slice A tv.length cap) tv * (R1 * G))) (by
    refine Ent.trans ?_ (Ent.tail _ (ho G))
    simp only [coreP, nodC, outH, restP, restC, waitQ_eq hwv]
    ((try simp only [star_assoc, emp_star, star_emp]); (repeat' (first | exact Ent.last | refine Ent.take ?_ | refine Ent.nilT ?_ | refine Ent.takeR (by first | rfl | assumption | (simp; done)) ?_ | exact Ent.refl _)))) ?_
  refine WS_loop (fun k τ => ∃ (j : Nat) (vf : Value), j + k = tv.length ∧ τ = ⟨[(14, .int .i64 (j : Int)), (13, .int .i64 (tv.length : Int)), (12, .slice A tv.length cap), (0, ptr gn 0), (1, u32 d)], [], coreP gn (s.handAll d (tv.take j)) { h with vf := vf } * (rows 9 1 strCc (.slice A tv.length cap) tv * (R1 * G))⟩) ?_ ?_
  · exact ⟨tv.length, _, ⟨0, h.vf, by omega, rfl⟩, ⟨rfl, rfl, rfl, rfl, rfl, trivial⟩, rfl, Ent.refl _⟩
  · rintro k τ ⟨j, vf, hjk, rfl⟩
    have okj := Nd.handAll_ls s d (tv.take j) ok
    have hfj : (s.handAll d (tv.take j)).Fit 1 := Nd.Fit.handAll (k := 1) d (tv.take j) (hf.le (by rw [List.length_take]; omega))
    have erj : restP gn (s.handAll d (tv.take j)) { h with vf := vf } = restP gn s h := restP_handAll gn s d _ _
    rcases Nat.lt_or_ge j tv.length with hlt | hge
    · obtain ⟨z, hz⟩ : ∃ z, tv[j]? = some z := ⟨_, List.getElem?_eq_getElem hlt⟩
      have hzl := ht z (List.mem_of_getElem? hz)
      have htk : s.handAll d (tv.take (j + 1)) = (s.handAll d (tv.take j)).hand d z := by rw [List.take_add_one, hz, Option.toList_some, Nd.handAll_snoc]
      generalize s.handAll d (tv.take j) = sj at *
      have er1 : ∀ vf', restP gn (sj.hand d z) { h with vf := vf' } = restP gn s h := fun vf' => by rw [restP_hand]; exact erj
      have p1 := (hand_spec w0 gn sj { h with vf := vf } d z hzl okj hfj).conv (X' := coreP gn sj { h with vf := vf } * (rows 9 1 strCc (.slice A tv.length cap) tv * R1)) (Y' := fun vf => coreP gn (sj.hand d z) { h with vf := vf } * (rows 9 1 strCc (.slice A tv.length cap) tv * R1))
        (fun Z => by rw [nodP_core, erj, star_assoc, star_assoc]; exact Ent.tail _ (hc Z))
        (fun x Z => by
          have e := nodP_core gn (sj.hand d z) { h with vf := x } Z
          rw [er1] at e
          refine Ent.trans (Ent.of_eq e) ?_
          rw [star_assoc, star_assoc]; exact Ent.tail _ (ho Z))
      generalize sj.hand d z = sk at *
      simp only [coreP, nodC, outH] at p1 ⊢
      have hj1 : (j : Int) < (tv.length : Int) := by omega
      repeat' (first | (refine WS_seqK ?_; intro K hK) | (refine hK _ ?_; clear hK K) | (with_reducible (first | refine thenS_n ?_ | refine thenS_e ?_ | refine blockS_n ?_ | refine blockS_e ?_ | refine blockS_o rfl ?_ | refine thenS_r ?_ | refine blockS_r ?_ | refine use_K (by assumption) ?_)) | refine WS_region ?_ | refine LS_nil ?_ | ((refine' LQ ?zh rfl ?_); case zh => intro F'; first | exact Q_move rfl | exact Q_assign rfl | exact Q_bin_t rfl rfl iI (by first | assumption | omega) | exact Q_addI rfl rfl (by omega) | exact Q_index rfl rfl iI iI iI iI (by first | assumption | omega | (simp [be_length] <;> omega)) | exact Q_loadR rfl iI iI iI (by assumption) rfl) | (first | refine WS_block ?_ | refine WS_skip ?_ | refine WS_ret ?_ | refine WS_exit ?_ | refine WS_label ?_) | (show WS _ _ _ (.cond _ _ _) _ _; first | refine WS_condT rfl iI ?_ | refine WS_condF rfl iI ?_ | refine WS_condH_t rfl (by assumption) ?_ | refine WS_condH_f rfl (by assumption) ?_ | (refine WS_cond rfl ?_ ?_ <;> intro hc <;> (try simp only [decide_eq_true_eq, decide_eq_false_iff_not, Bool.not_eq_eq_eq_not, Bool.not_true, Bool.not_false, Bool.and_eq_true, Bool.or_eq_true, bne_iff_ne, beq_iff_eq, ne_eq, Decidable.not_not] at hc) <;> (try (exfalso; first | contradiction | omega; done)))) | (refine LS_h (H_callX iI rfl p1 iI) rfl ?_; intro vf2))
      exact ⟨k - 1, _, by omega, ⟨j + 1, vf2, by omega, rfl⟩, ⟨rfl, rfl, rfl, rfl, rfl, trivial⟩, rfl, by rw [htk]; simp only [coreP, nodC, outH]; ((try simp only [star_assoc, emp_star, star_emp]); (repeat' (first | exact Ent.last | refine Ent.take ?_ | refine Ent.nilT ?_ | refine Ent.takeR (by first | rfl | assumption | (simp; done)) ?_ | exact Ent.refl _)))⟩
    · obtain rfl : j = tv.length := by omega
      rw [List.take_of_length_le (Nat.le_refl _)] at erj okj hfj ⊢
      obtain ⟨q1, q2, q3, q4, q5⟩ := Nd.handAll_srs s d tv
      have es : s.flush d = match srFind (s.handAll d tv).srs d with | some k => Nd.stop ((s.handAll d tv).unwait d) k | none => (s.handAll d tv).unwait d := by unfold Nd.flush; rw [htv]; rfl
      generalize s.handAll d tv = s1 at *
      have hsb1 : h.sb.length = s1.srs.length := by rw [q1]; exact hsb
      have hwv1 : h.wv.length = s1.wait.length := by rw [q2]; exact hwv
      obtain ⟨wv', hwd⟩ := wait_del h.rw hwv1 d
      refine WS_ent (H' := nodP gn s1 { h with vf := vf } * G) (by rw [nodP_core, erj]; exact Ent.tail _ (hc G)) ?_
      rw [srFind_k] at es
      have hj1 : ¬ (tv.length : Int) < (tv.length : Int) := by omega
      have so1 : SrOk (s1.unwait d) := ⟨by show (s1.srs.map _).Nodup; rw [q1]; exact so.dests, by show (s1.srs.map _).Nodup; rw [q1]; exact so.names, by show ∀ x ∈ s1.srs, _ ∧ _ ∧ _ ∧ _ ∧ x.name ≤ s1.names; rw [q1, q3]; exact so.each⟩
      cases hq : kfind (·.dest) s1.srs d with
      | none =>
        have hmq : mget (qmap h.sb s1.srs) d = none := mget_zmap_none (key := fun x : Sr => x.dest) hsb1 hq
        simp only [hq] at es
        simp only [nodP, nodPm, nodC, outH, restP, restC, waitQ_eq hwv1]
        repeat' (first | (refine WS_seqK ?_; intro K hK) | (refine hK _ ?_; clear hK K) | (with_reducible (first | refine thenS_n ?_ | refine thenS_e ?_ | refine blockS_n ?_ | refine blockS_e ?_ | refine blockS_o rfl ?_ | refine thenS_r ?_ | refine blockS_r ?_ | refine use_K (by assumption) ?_)) | refine WS_region ?_ | refine LS_nil ?_ | ((refine' LQ ?zh rfl ?_); case zh => intro F'; first | exact Q_move rfl | exact Q_assign rfl | exact Q_nilCheck rfl | exact Q_fieldAddr rfl iI rfl | exact Q_load rfl iI iI rfl | exact Q_bin_f rfl rfl iI (by first | assumption | omega) | exact Q_lookup_n rfl rfl iI iI iI iI iI (by assumption)) | ((refine' LQ ?zh rfl ?_); case zh => intro F'; exact Q_bin rfl rfl iI) | ((refine' LS_h0 ?zh ?_); (case zh => exact H_delete rfl rfl iI iI iI iI); intro g) | (first | refine WS_block ?_ | refine WS_skip ?_ | refine WS_ret ?_ | refine WS_exit ?_ | refine WS_label ?_) | (show WS _ _ _ (.cond _ _ _) _ _; first | refine WS_condT rfl iI ?_ | refine WS_condF rfl iI ?_ | refine WS_condH_t rfl (by assumption) ?_ | refine WS_condH_f rfl (by assumption) ?_ | (refine WS_cond rfl ?_ ?_ <;> intro hc <;> (try simp only [decide_eq_true_eq, decide_eq_false_iff_not, Bool.not_eq_eq_eq_not, Bool.not_true, Bool.not_false, Bool.and_eq_true, Bool.or_eq_true, bne_iff_ne, beq_iff_eq, ne_eq, Decidable.not_not] at hc) <;> (try (exfalso; first | contradiction | omega; done)))))
        refine ret_none (.inr rfl) rfl ⟨(), rfl, ?_⟩
        rw [es]
        refine Ent.two iI iI hwd ?_
        refine Ent.nod { h with vf := vf, wv := wv' } ?_
        simp only [nodP, nodPm, nodC, outH, restP, restC, Nd.unwait]
        ((try simp only [star_assoc, emp_star, star_emp]); (repeat' (first | exact Ent.last | refine Ent.take ?_ | refine Ent.nilT ?_ | refine Ent.takeR (by first | rfl | assumption | (simp; done)) ?_ | exact Ent.refl _)))
      | some k =>
        obtain ⟨x, hx, hxd⟩ := kfind_some hq
        obtain ⟨b, hb⟩ : ∃ b, h.sb[k]? = some b := ⟨_, List.getElem?_eq_getElem (by rw [hsb1]; exact (List.getElem?_eq_some_iff.1 hx).1)⟩
        have hmq : mget (qmap h.sb s1.srs) d = some b := mget_zmap_some (key := fun x : Sr => x.dest) hsb1 hq hb
        simp only [hq] at es
        have p1 := stop_spec w0 gn (s1.unwait d) { h with vf := vf, wv := wv' } so1 hx hb
        simp only [nodP, nodPm, nodC, outH, restP, restC, waitQ_eq hwv1, Nd.unwait] at p1 ⊢
        repeat' (first | (refine WS_seqK ?_; intro K hK) | (refine hK _ ?_; clear hK K) | (with_reducible (first | refine thenS_n ?_ | refine thenS_e ?_ | refine blockS_n ?_ | refine blockS_e ?_ | refine blockS_o rfl ?_ | refine thenS_r ?_ | refine blockS_r ?_ | refine use_K (by assumption) ?_)) | refine WS_region ?_ | refine LS_nil ?_ | ((refine' LQ ?zh rfl ?_); case zh => intro F'; first | exact Q_move rfl | exact Q_assign rfl | exact Q_nilCheck rfl | exact Q_fieldAddr rfl iI rfl | exact Q_load rfl iI iI rfl | exact Q_bin_f rfl rfl iI (by first | assumption | omega) | exact Q_lookup_s rfl rfl iI iI iI iI iI (by assumption)) | ((refine' LQ ?zh rfl ?_); case zh => intro F'; exact Q_bin rfl rfl iI) | ((refine' LS_h0 ?zh ?_); (case zh => exact H_delete rfl rfl iI iI iI iI); intro g) | (first | refine WS_block ?_ | refine WS_skip ?_ | refine WS_ret ?_ | refine WS_exit ?_ | refine WS_label ?_) | (show WS _ _ _ (.cond _ _ _) _ _; first | refine WS_condT rfl iI ?_ | refine WS_condF rfl iI ?_ | refine WS_condH_t rfl (by assumption) ?_ | refine WS_condH_f rfl (by assumption) ?_ | (refine WS_cond rfl ?_ ?_ <;> intro hc <;> (try simp only [decide_eq_true_eq, decide_eq_false_iff_not, Bool.not_eq_eq_eq_not, Bool.not_true, Bool.not_false, Bool.and_eq_true, Bool.or_eq_true, bne_iff_ne, beq_iff_eq, ne_eq, Decidable.not_not] at hc) <;> (try (exfalso; first | contradiction | omega; done)))) | (refine LS_ent (Ent.two iI iI hwd (Ent.refl _)) ?_; refine LS_h (H_callX iI rfl p1 iI) rfl ?_; intro x1))
        refine ret_none (.inr rfl) rfl ⟨(), rfl, ?_⟩
        rw [es]
        refine Ent.nod { h with vf := vf, wv := wv', sb := h.sb.eraseIdx k } ?_
        simp only [nodP, nodPm, nodC, outH, restP, restC, Nd.unwait]
        ((try simp only [star_assoc, emp_star, star_emp]); (repeat' (first | exact Ent.last | refine Ent.take ?_ | refine Ent.nilT ?_ | refine Ent.takeR (by first | rfl | assumption | (simp; done)) ?_ | exact Ent.refl _)))
end Go.Proofs.YtapoehkdnglahaaGreat

/- A node hears a reply: its walk. -/
namespace Go.Proofs.YtapoehkdnglahaaGreat
open Go.RowKit
set_option linter.unusedVariables false
set_option linter.unusedSectionVars false
set_option linter.unusedSimpArgs false
theorem Nd.Fit.unwait {s : Nd} {k : Nat} (h : s.Fit k) (d : UInt32) : (s.unwait d).Fit k := ⟨h.frames, h.came, h.dropped, h.recs, h.journal⟩
theorem Nd.Fit.stop {s : Nd} {k : Nat} (h : s.Fit k) (i : Nat) : (s.stop i).Fit k := ⟨h.frames, h.came, h.dropped, h.recs, h.journal⟩
theorem Nd.Fit.flush {s : Nd} {k : Nat} (d : UInt32) (h : s.Fit ((s.texts d).length + k)) : (s.flush d).Fit k := by
  have h1 := Nd.Fit.handAll (k := k) d (s.texts d) h
  unfold Nd.flush
  simp only
  split
  · exact (h1.unwait d).stop _
  · exact h1.unwait d
attribute [local irreducible] WS LS OpQ OpT OpH OpTQ Spec SpecQ cel
variable (w0 : World)
end Go.Proofs.YtapoehkdnglahaaGreat

/- The time of a search has come; a search begins: the walks. -/
namespace Go.Proofs.YtapoehkdnglahaaGreat
open Go.RowKit
set_option linter.unusedVariables false
set_option linter.unusedSectionVars false
set_option linter.unusedSimpArgs false
theorem Nd.drops_succ (s : Nd) (n : Nat) (k : Int) : s.drops (n + 1) k = (s.drops n k).drop k := by
  unfold Nd.drops Nd.drop
  simp only [List.replicate_succ', List.append_assoc]
theorem Nd.drops_zero (s : Nd) (k : Int) : s.drops 0 k = s := by
  unfold Nd.drops
  simp
attribute [local irreducible] WS LS OpQ OpT OpH OpTQ Spec SpecQ cel
variable (w0 : World)
set_option maxRecDepth 100000 in
set_option maxHeartbeats 16000000 in
theorem again_spec (gn : Nat) (s : Nd) (h : NH) {k b : Nat} {x : Sr} (hx : s.srs[k]? = some x) (hb : h.sb[k]? = some b) (so : SrOk s) (ok : TabOk s.ls) (hod : s.order.length ≤ 16) (hsn : s.sent.length ≤ 100) (hck : s.clk.length ≤ 900000) (hla : 0 ≤ s.last ∧ s.last ≤ 1000000000000) (hl : (s.texts x.dest).length ≤ 100) (ht : ∀ t ∈ s.texts x.dest, t.length ≤ 100) (hf : s.Fit ((s.texts x.dest).length + 3)) : Spec Tryz.prog w0 190 [ptr b 0] (nodP gn s h) (fun _ : Unit => .tuple #[]) (fun _ => nodA gn (s.again k x)) := by
  have hxr := so.each x (List.mem_of_getElem? hx)
  refine Spec.enter Tryz.func190 rfl Tryz.ntmps190 rfl fun G => ?_
  refine WS_lens fun hsb hwv => ?_
  refine WS_texts x.dest hwv fun A cap R1 hm _ _ => ?_
  obtain ⟨F1, e1, e2⟩ := srs_open gn hsb hb hx
  have p1 := find_spec w0 h.tb s.self s.ls ok x.dest s.now
  have hkl : k < s.srs.length := (List.getElem?_eq_some_iff.1 hx).1
  cases hfd : lookT s.ls x.dest s.now with
  | some y =>
    have es : s.again k x = s.flush x.dest := by unfold Nd.again; rw [hfd]
    have p2 := flush_spec w0 gn s h x.dest ok so hl ht (hf.le (by omega))
    simp only [hfd, findV, findH, routeC] at p1
    simp only [nodP, nodPm, nodC, outH, restP, restC, e1, srC] at p2 ⊢
    simp only [argE]
    repeat' (first | (show WS _ _ _ (.region 1 _ true) _ _; first | refine WS_drawR2 0 2 [0, 1, 2, 3, 4, 5, 6, 7, 8, 9, 10, 11, 12, 13, 14, 15, 16, 17, 18] (by decide +kernel) rfl rfl rfl iI iI ?_ | refine WS_drawK [0, 1, 2, 3, 4, 5, 6, 7, 8, 9, 10, 11, 12, 13, 14, 15, 16, 17, 18] 12 [3, 7, 11] (by decide +kernel) rfl ?_) | (refine WS_seqK ?_; intro K hK) | (refine hK _ ?_; clear hK K) | (with_reducible (first | refine thenS_n ?_ | refine thenS_e ?_ | refine blockS_n ?_ | refine blockS_e ?_ | refine blockS_o rfl ?_ | refine thenS_r ?_ | refine blockS_r ?_ | refine use_K (by assumption) ?_)) | refine WS_region ?_ | refine LS_nil ?_ | (first | refine DL_nilA ?_ | refine DL_nilS ?_ | refine DL_nilN ?_ | refine DL_nilE ?_ | refine DL_nilR ?_) | (refine DL_alloc iI rfl ?_; intro g) | ((first | refine' LQ ?zh rfl ?_ | refine' DL_q rfl rfl ?zh ?_); case zh => intro F'; first | exact Q_move rfl | exact Q_assign rfl | exact Q_nilCheck rfl | exact Q_fieldAddr rfl iI rfl | exact Q_load rfl iI iI rfl | exact Q_extract rfl rfl) | ((refine' DL_h0 ?zh rfl rfl ?_); (case zh => exact H_storeAO rfl rfl iI iI iI rfl); intro g) | (first | refine WS_block ?_ | refine WS_skip ?_ | refine WS_ret ?_ | refine WS_exit ?_ | refine WS_label ?_) | (show WS _ _ _ (.cond _ _ _) _ _; first | refine WS_condT rfl iI ?_ | refine WS_condF rfl iI ?_ | refine WS_condH_t rfl (by assumption) ?_ | refine WS_condH_f rfl (by assumption) ?_ | (refine WS_cond rfl ?_ ?_ <;> intro hc <;> (try simp only [decide_eq_true_eq, decide_eq_false_iff_not, Bool.not_eq_eq_eq_not, Bool.not_true, Bool.not_false, Bool.and_eq_true, Bool.or_eq_true, bne_iff_ne, beq_iff_eq, ne_eq, Decidable.not_not] at hc) <;> (try (exfalso; first | contradiction | omega; done)))) | (refine DL_h (H_callX iI rfl p1 iI) rfl rfl rfl ?_; intro x1) | (refine LS_h (H_callX iI rfl p2 iI) rfl ?_; intro x2))
    exact ret_none (.inl rfl) rfl ⟨(), rfl, by rw [es]; ((try simp only [star_assoc, emp_star, star_emp]); (repeat' (first | exact Ent.last | refine Ent.take ?_ | refine Ent.nilT ?_ | refine Ent.takeR (by first | rfl | assumption | (simp; done)) ?_ | exact Ent.refl _)))⟩
  | none =>
    simp only [hfd, findV, findH, routeC] at p1
    cases hxo : x.out with
    | false =>
      have es : s.again k x = s.ask k x := by unfold Nd.again; rw [hfd]; simp only; rw [if_neg (by rw [hxo]; exact Bool.false_ne_true)]
      have p2 := ask_spec w0 gn s h hx hb ⟨hxr.1, hxr.2.1, hxr.2.2.1, hxr.2.2.2.1⟩ ok hod hsn hck hla (hf.le (by omega))
      simp only [nodP, nodPm, nodC, outH, restP, restC, e1, srC, hxo] at p2 ⊢
      simp only [argE]
      repeat' (first | (show WS _ _ _ (.region 1 _ true) _ _; first | refine WS_drawR2 0 2 [0, 1, 2, 3, 4, 5, 6, 7, 8, 9, 10, 11, 12, 13, 14, 15, 16, 17, 18] (by decide +kernel) rfl rfl rfl iI iI ?_ | refine WS_drawK [0, 1, 2, 3, 4, 5, 6, 7, 8, 9, 10, 11, 12, 13, 14, 15, 16, 17, 18] 12 [3, 7, 11] (by decide +kernel) rfl ?_) | (refine WS_seqK ?_; intro K hK) | (refine hK _ ?_; clear hK K) | refine WS_region ?_ | refine LS_nil ?_ | (show LS _ _ _ _ _ (⟨_, _, _, _, _, some _⟩ :: _) _; first | refine LS_wantT rfl rfl iI rfl ?_ | refine LS_wantF rfl rfl iI rfl ?_ | refine LS_wantU rfl rfl rfl ?_ | ((first | refine LS_wantS rfl rfl rfl ?_ ?_ | refine LS_wantN rfl ?_ ?_) <;> intro hc <;> (try simp only [decide_eq_true_eq, decide_eq_false_iff_not, Bool.not_eq_eq_eq_not, Bool.not_true, Bool.not_false, Bool.and_eq_true, Bool.or_eq_true, bne_iff_ne, beq_iff_eq, ne_eq, Decidable.not_not] at hc) <;> (try (exfalso; first | contradiction | omega; done)))) | (first | refine DL_nilA ?_ | refine DL_nilS ?_ | refine DL_nilN ?_ | refine DL_nilE ?_ | refine DL_nilR ?_) | (refine DL_alloc iI rfl ?_; intro g) | ((first | refine' LQ ?zh rfl ?_ | refine' DL_q rfl rfl ?zh ?_); case zh => intro F'; first | exact Q_move rfl | exact Q_assign rfl | exact Q_nilCheck rfl | exact Q_fieldAddr rfl iI rfl | exact Q_load rfl iI iI rfl | exact Q_extract rfl rfl | exact Q_pick_f rfl iI rfl) | ((refine' DL_h0 ?zh rfl rfl ?_); (case zh => exact H_storeAO rfl rfl iI iI iI rfl); intro g) | (first | refine WS_block ?_ | refine WS_skip ?_ | refine WS_ret ?_ | refine WS_exit ?_ | refine WS_label ?_) | (show WS _ _ _ (.cond _ _ _) _ _; first | refine WS_condT rfl iI ?_ | refine WS_condF rfl iI ?_ | refine WS_condH_t rfl (by assumption) ?_ | refine WS_condH_f rfl (by assumption) ?_ | (refine WS_cond rfl ?_ ?_ <;> intro hc <;> (try simp only [decide_eq_true_eq, decide_eq_false_iff_not, Bool.not_eq_eq_eq_not, Bool.not_true, Bool.not_false, Bool.and_eq_true, Bool.or_eq_true, bne_iff_ne, beq_iff_eq, ne_eq, Decidable.not_not] at hc) <;> (try (exfalso; first | contradiction | omega; done)))) | (refine DL_h (H_callX iI rfl p1 iI) rfl rfl rfl ?_; intro x1) | (refine LS_h (H_callX iI rfl p2 iI) rfl ?_; intro x2))
      exact ret_none (.inr rfl) rfl ⟨(), rfl, by rw [es]; ((try simp only [star_assoc, emp_star, star_emp]); (repeat' (first | exact Ent.last | refine Ent.take ?_ | refine Ent.nilT ?_ | refine Ent.takeR (by first | rfl | assumption | (simp; done)) ?_ | exact Ent.refl _)))⟩
    | true =>
      have pfu := further_spec w0 gn b x ⟨hxr.1, hxr.2.1, hxr.2.2.1, hxr.2.2.2.1⟩
      cases hfu : x.further with
      | some y =>
        have hyd : y.dest = x.dest ∧ y.name = x.name ∧ y.out = x.out ∧ 0 ≤ y.ttl ∧ y.ttl ≤ 8 ∧ 0 ≤ y.retries ∧ y.retries ≤ 2 := by
          unfold Sr.further at hfu
          split at hfu
          · cases hfu; simp only; exact ⟨trivial, trivial, trivial, by omega, by omega, by omega, by omega⟩
          · split at hfu
            · cases hfu; simp only; exact ⟨trivial, trivial, trivial, by omega, by omega, by omega, by omega⟩
            · split at hfu
              · cases hfu; simp only; exact ⟨trivial, trivial, trivial, by omega, by omega, by omega, by omega⟩
              · cases hfu
        have es : s.again k x = Nd.ask { s with srs := s.srs.set k y } k y := by unfold Nd.again; rw [hfd]; simp only; rw [if_pos hxo, hfu]
        have p2 := ask_spec w0 gn { s with srs := s.srs.set k y } h (show (s.srs.set k y)[k]? = some y by rw [List.getElem?_set]; simp [hkl]) hb ⟨hyd.2.2.2.1, hyd.2.2.2.2.1, hyd.2.2.2.2.2.1, hyd.2.2.2.2.2.2⟩ ok hod hsn hck hla ⟨by have := hf.frames; show s.out.frames.length + 3 ≤ _; omega, by have := hf.came; show s.out.came.length + 3 ≤ _; omega, by have := hf.dropped; show s.out.dropped.length + 3 ≤ _; omega, by have := hf.recs; show s.recs.length + 9 * 3 ≤ _; omega, by have := hf.journal; show s.out.journal.length + 120 * 3 ≤ _; omega⟩
        have hqm : qmap h.sb (s.srs.set k y) = qmap h.sb s.srs := zmap_set (key := fun x : Sr => x.dest) hx hyd.1
        have him : imap h.sb (s.srs.set k y) = imap h.sb s.srs := zmap_set (key := fun x : Sr => x.name) hx hyd.2.1
        simp only [hfu, Option.isSome_some, Option.getD_some] at pfu
        simp only [nodP, nodPm, nodC, outH, restP, restC, e1, e2, hqm, him, srC, hxo] at p2 pfu ⊢
        simp only [argE]
        repeat' (first | (show WS _ _ _ (.region 1 _ true) _ _; first | refine WS_drawR2 0 2 [0, 1, 2, 3, 4, 5, 6, 7, 8, 9, 10, 11, 12, 13, 14, 15, 16, 17, 18] (by decide +kernel) rfl rfl rfl iI iI ?_ | refine WS_drawK [0, 1, 2, 3, 4, 5, 6, 7, 8, 9, 10, 11, 12, 13, 14, 15, 16, 17, 18] 12 [3, 7, 11] (by decide +kernel) rfl ?_) | (refine WS_seqK ?_; intro K hK) | (refine hK _ ?_; clear hK K) | refine WS_region ?_ | refine LS_nil ?_ | (show LS _ _ _ _ _ (⟨_, _, _, _, _, some _⟩ :: _) _; first | refine LS_wantT rfl rfl iI rfl ?_ | refine LS_wantF rfl rfl iI rfl ?_ | refine LS_wantU rfl rfl rfl ?_ | ((first | refine LS_wantS rfl rfl rfl ?_ ?_ | refine LS_wantN rfl ?_ ?_) <;> intro hc <;> (try simp only [decide_eq_true_eq, decide_eq_false_iff_not, Bool.not_eq_eq_eq_not, Bool.not_true, Bool.not_false, Bool.and_eq_true, Bool.or_eq_true, bne_iff_ne, beq_iff_eq, ne_eq, Decidable.not_not] at hc) <;> (try (exfalso; first | contradiction | omega; done)))) | (first | refine DL_nilA ?_ | refine DL_nilS ?_ | refine DL_nilN ?_ | refine DL_nilE ?_ | refine DL_nilR ?_) | (refine DL_alloc iI rfl ?_; intro g) | ((first | refine' LQ ?zh rfl ?_ | refine' DL_q rfl rfl ?zh ?_); case zh => intro F'; first | exact Q_move rfl | exact Q_assign rfl | exact Q_nilCheck rfl | exact Q_fieldAddr rfl iI rfl | exact Q_load rfl iI iI rfl | exact Q_extract rfl rfl | exact Q_pick_t rfl iI rfl | exact Q_un rfl iI) | ((refine' DL_h0 ?zh rfl rfl ?_); (case zh => exact H_storeAO rfl rfl iI iI iI rfl); intro g) | (first | refine WS_block ?_ | refine WS_skip ?_ | refine WS_ret ?_ | refine WS_exit ?_ | refine WS_label ?_) | (show WS _ _ _ (.cond _ _ _) _ _; first | refine WS_condT rfl iI ?_ | refine WS_condF rfl iI ?_ | refine WS_condH_t rfl (by assumption) ?_ | refine WS_condH_f rfl (by assumption) ?_ | (refine WS_cond rfl ?_ ?_ <;> intro hc <;> (try simp only [decide_eq_true_eq, decide_eq_false_iff_not, Bool.not_eq_eq_eq_not, Bool.not_true, Bool.not_false, Bool.and_eq_true, Bool.or_eq_true, bne_iff_ne, beq_iff_eq, ne_eq, Decidable.not_not] at hc) <;> (try (exfalso; first | contradiction | omega; done)))) | (refine DL_h (H_callX iI rfl p1 iI) rfl rfl rfl ?_; intro x1) | (refine LS_h (H_callX iI rfl pfu iI) rfl ?_; intro x3) | (refine LS_h (H_callX iI rfl p2 iI) rfl ?_; intro x2))
        exact ret_none (.inr rfl) rfl ⟨(), rfl, by rw [es]; ((try simp only [star_assoc, emp_star, star_emp]); (repeat' (first | exact Ent.last | refine Ent.take ?_ | refine Ent.nilT ?_ | refine Ent.takeR (by first | rfl | assumption | (simp; done)) ?_ | exact Ent.refl _)))⟩
      | none =>
        obtain ⟨N, hN⟩ : ∃ N, N = (s.texts x.dest).length := ⟨_, rfl⟩
        have es : s.again k x = ((s.drops N 5).unwait x.dest).stop k := by unfold Nd.again; rw [hfd]; simp only; rw [if_pos hxo, hfu, hN]
        rw [← hN] at hm hl hf
        obtain ⟨wv', hwd⟩ := wait_del h.rw hwv x.dest
        simp only [hfu, Option.isSome_none, Option.getD_none] at pfu
        simp only [nodP, nodPm, nodC, outH, restP, restC, e1, srC, hxo, waitQ_eq hwv] at pfu ⊢
        simp only [argE]
        repeat' (first | (show WS _ _ _ (.region 1 _ true) _ _; first | refine WS_drawR2 0 2 [0, 1, 2, 3, 4, 5, 6, 7, 8, 9, 10, 11, 12, 13, 14, 15, 16, 17, 18] (by decide +kernel) rfl rfl rfl iI iI ?_ | refine WS_drawK [0, 1, 2, 3, 4, 5, 6, 7, 8, 9, 10, 11, 12, 13, 14, 15, 16, 17, 18] 12 [3, 7, 11] (by decide +kernel) rfl ?_) | (show WS _ _ _ (.region 5 _ true) _ _; refine WS_drawA [0, 1, 2, 3, 4, 5, 6, 7, 8, 9, 10] (by decide +kernel) rfl ?_) | (refine WS_seqK ?_; intro K hK) | (refine hK _ ?_; clear hK K) | refine WS_region ?_ | refine LS_nil ?_ | (show LS _ _ _ _ _ (⟨_, _, _, _, _, some _⟩ :: _) _; first | refine LS_wantT rfl rfl iI rfl ?_ | refine LS_wantF rfl rfl iI rfl ?_ | refine LS_wantU rfl rfl rfl ?_ | ((first | refine LS_wantS rfl rfl rfl ?_ ?_ | refine LS_wantN rfl ?_ ?_) <;> intro hc <;> (try simp only [decide_eq_true_eq, decide_eq_false_iff_not, Bool.not_eq_eq_eq_not, Bool.not_true, Bool.not_false, Bool.and_eq_true, Bool.or_eq_true, bne_iff_ne, beq_iff_eq, ne_eq, Decidable.not_not] at hc) <;> (try (exfalso; first | contradiction | omega; done)))) | (first | refine DL_nilA ?_ | refine DL_nilS ?_ | refine DL_nilN ?_ | refine DL_nilE ?_ | refine DL_nilR ?_) | (refine DL_alloc iI rfl ?_; intro g) | ((first | refine' LQ ?zh rfl ?_ | refine' DL_q rfl rfl ?zh ?_); case zh => intro F'; first | exact Q_move rfl | exact Q_assign rfl | exact Q_nilCheck rfl | exact Q_fieldAddr rfl iI rfl | exact Q_load rfl iI iI rfl | exact Q_extract rfl rfl | exact Q_pick_t rfl iI rfl | exact Q_un rfl iI | exact Q_len rfl iI | exact Q_lookupE rfl rfl iI iI iI iI iI (by assumption)) | ((refine' DL_h0 ?zh rfl rfl ?_); (case zh => exact H_storeAO rfl rfl iI iI iI rfl); intro g) | (first | refine WS_block ?_ | refine WS_skip ?_ | refine WS_ret ?_ | refine WS_exit ?_ | refine WS_label ?_) | (show WS _ _ _ (.cond _ _ _) _ _; first | refine WS_condT rfl iI ?_ | refine WS_condF rfl iI ?_ | refine WS_condH_t rfl (by assumption) ?_ | refine WS_condH_f rfl (by assumption) ?_ | (refine WS_cond rfl ?_ ?_ <;> intro hc <;> (try simp only [decide_eq_true_eq, decide_eq_false_iff_not, Bool.not_eq_eq_eq_not, Bool.not_true, Bool.not_false, Bool.and_eq_true, Bool.or_eq_true, bne_iff_ne, beq_iff_eq, ne_eq, Decidable.not_not] at hc) <;> (try (exfalso; first | contradiction | omega; done)))) | (refine DL_h (H_callX iI rfl p1 iI) rfl rfl rfl ?_; intro x1) | (refine LS_h (H_callX iI rfl pfu iI) rfl ?_; intro x3))
        refine WS_loop (fun m τ => ∃ (j : Nat) (vd : Value), j + m = N ∧ τ = ⟨[(51, .int .i64 (j : Int)), (50, .int .i64 (N : Int)), (2, ptr gn 0), (0, ptr b 0)], [], nodO gn (s.drops j 5) { h with vd := vd } b x F1 * G⟩) ?_ ?_
        · exact ⟨N, _, ⟨0, h.vd, by omega, rfl⟩, ⟨rfl, rfl, rfl, rfl, trivial⟩, rfl, by simp only [nodO, Nd.drops_zero, nodC, outH, srC, hxo, waitQ_eq hwv]; ((try simp only [star_assoc, emp_star, star_emp]); (repeat' (first | exact Ent.last | refine Ent.take ?_ | refine Ent.nilT ?_ | refine Ent.takeR (by first | rfl | assumption | (simp; done)) ?_ | exact Ent.refl _)))⟩
        · rintro m τ ⟨j, vd, hjm, rfl⟩
          have hsj : (s.drops j 5).out.dropped.length = s.out.dropped.length + j := by unfold Nd.drops; simp
          have hsc := Nd.drops_succ s j 5
          have eqj : (s.drops j 5).srs = s.srs ∧ (s.drops j 5).wait = s.wait ∧ (s.drops j 5).names = s.names := ⟨rfl, rfl, rfl⟩
          have hdl := hf.dropped
          rcases Nat.lt_or_ge j N with hlt | hge
          · have p3 := ndrop_spec w0 gn (s.drops j 5) { h with vd := vd } 5 (by omega)
            rw [← hsc] at p3
            have hS1 : srsQ gn h.sb (s.drops (j + 1) 5).srs = cel b 234 (srC gn b x) * F1 := e1
            have hS0 : srsQ gn h.sb (s.drops j 5).srs = cel b 234 (srC gn b x) * F1 := e1
            have hj1 : (j : Int) < (N : Int) := by omega
            obtain ⟨sk, hsk⟩ : ∃ sk : Nd, sk = s.drops (j + 1) 5 := ⟨_, rfl⟩
            rw [← hsk] at p3 hS1
            clear hsc
            generalize s.drops j 5 = sj at *
            simp only [nodP, nodPm, nodC, outH, restP, restC, hS0, hS1] at p3
            simp only [nodO, nodC, outH]
            repeat' (first | (refine WS_seqK ?_; intro K hK) | (refine hK _ ?_; clear hK K) | (with_reducible (first | refine thenS_n ?_ | refine thenS_e ?_ | refine blockS_n ?_ | refine blockS_e ?_ | refine blockS_o rfl ?_ | refine thenS_r ?_ | refine blockS_r ?_ | refine use_K (by assumption) ?_)) | refine WS_region ?_ | refine LS_nil ?_ | ((refine' LQ ?zh rfl ?_); case zh => intro F'; first | exact Q_move rfl | exact Q_bin_t rfl rfl iI (by first | assumption | decide) | exact Q_addI rfl rfl (by omega)) | (first | refine WS_block ?_ | refine WS_skip ?_ | refine WS_ret ?_ | refine WS_exit ?_ | refine WS_label ?_) | (show WS _ _ _ (.cond _ _ _) _ _; first | refine WS_condT rfl iI ?_ | refine WS_condF rfl iI ?_ | refine WS_condH_t rfl (by assumption) ?_ | refine WS_condH_f rfl (by assumption) ?_ | (refine WS_cond rfl ?_ ?_ <;> intro hc <;> (try simp only [decide_eq_true_eq, decide_eq_false_iff_not, Bool.not_eq_eq_eq_not, Bool.not_true, Bool.not_false, Bool.and_eq_true, Bool.or_eq_true, bne_iff_ne, beq_iff_eq, ne_eq, Decidable.not_not] at hc) <;> (try (exfalso; first | contradiction | omega; done)))) | (refine LS_h (H_callX iI rfl p3 iI) rfl ?_; intro vd2))
            exact ⟨m - 1, _, by omega, ⟨j + 1, vd2, by omega, rfl⟩, ⟨rfl, rfl, rfl, rfl, trivial⟩, rfl, by rw [← hsk]; simp only [nodO, nodC, outH]; ((try simp only [star_assoc, emp_star, star_emp]); (repeat' (first | exact Ent.last | refine Ent.take ?_ | refine Ent.nilT ?_ | refine Ent.takeR (by first | rfl | assumption | (simp; done)) ?_ | exact Ent.refl _)))⟩
          · obtain rfl : j = N := by omega
            have hj1 : ¬ (j : Int) < (j : Int) := by omega
            have so1 : SrOk ((s.drops j 5).unwait x.dest) := ⟨so.dests, so.names, so.each⟩
            have p4 := stop_spec w0 gn ((s.drops j 5).unwait x.dest) { h with vd := vd, wv := wv' } so1 hx hb
            have hS0 : srsQ gn h.sb (s.drops j 5).srs = cel b 234 (srC gn b x) * F1 := e1
            have hw0 : (s.drops j 5).wait = s.wait := rfl
            generalize s.drops j 5 = sj at *
            simp only [nodP, nodPm, nodC, outH, restP, restC, Nd.unwait, hS0, hw0, srC] at p4
            simp only [nodO, nodC, outH, hw0, waitQ_eq hwv, srC]
            repeat' (first | (show WS _ _ _ (.region 9 _ true) _ _; refine WS_drawK [0, 1, 2, 3, 4, 5, 6, 7, 8] 8 [3, 7] (by decide +kernel) rfl ?_) | (refine WS_seqK ?_; intro K hK) | (refine hK _ ?_; clear hK K) | (with_reducible (first | refine thenS_n ?_ | refine thenS_e ?_ | refine blockS_n ?_ | refine blockS_e ?_ | refine blockS_o rfl ?_ | refine thenS_r ?_ | refine blockS_r ?_ | refine use_K (by assumption) ?_)) | refine WS_region ?_ | refine LS_nil ?_ | (first | refine DL_nilA ?_ | refine DL_nilS ?_ | refine DL_nilN ?_ | refine DL_nilE ?_ | refine DL_nilR ?_) | (first | refine DL_claimS rfl ?_ | refine DL_claim rfl rfl ?_) | ((first | refine' LQ ?zh rfl ?_ | refine' DL_qp rfl rfl rfl ?zh ?_ | refine' DL_q rfl rfl ?zh ?_); case zh => intro F'; first | exact Q_move rfl | exact Q_nilCheck rfl | exact Q_fieldAddr rfl iI rfl | exact Q_load rfl iI iI rfl | exact Q_bin_f rfl rfl iI (by first | assumption | decide)) | ((refine' DL_h0 ?zh rfl rfl ?_); (case zh => exact H_delete rfl rfl iI iI iI iI); intro g) | (first | refine WS_block ?_ | refine WS_skip ?_ | refine WS_ret ?_ | refine WS_exit ?_ | refine WS_label ?_) | (show WS _ _ _ (.cond _ _ _) _ _; first | refine WS_condT rfl iI ?_ | refine WS_condF rfl iI ?_ | refine WS_condH_t rfl (by assumption) ?_ | refine WS_condH_f rfl (by assumption) ?_ | (refine WS_cond rfl ?_ ?_ <;> intro hc <;> (try simp only [decide_eq_true_eq, decide_eq_false_iff_not, Bool.not_eq_eq_eq_not, Bool.not_true, Bool.not_false, Bool.and_eq_true, Bool.or_eq_true, bne_iff_ne, beq_iff_eq, ne_eq, Decidable.not_not] at hc) <;> (try (exfalso; first | contradiction | omega; done)))) | (refine LS_ent (Ent.two iI iI hwd (Ent.refl _)) ?_; refine LS_h (H_callX iI rfl p4 iI) rfl ?_; intro x4))
            refine ret_none (.inl rfl) rfl ⟨(), rfl, ?_⟩
            rw [es]
            refine Ent.nod { h with vd := vd, wv := wv', sb := h.sb.eraseIdx k } ?_
            simp only [nodP, nodPm, nodC, outH, restP, restC, Nd.unwait, hw0]
            ((try simp only [star_assoc, emp_star, star_emp]); (repeat' (first | exact Ent.last | refine Ent.take ?_ | refine Ent.nilT ?_ | refine Ent.takeR (by first | rfl | assumption | (simp; done)) ?_ | exact Ent.refl _)))
set_option maxRecDepth 100000 in
set_option maxHeartbeats 16000000 in
theorem begin_spec (gn : Nat) (s : Nd) (h : NH) (d : UInt32) (hd : srFind s.srs d = none) (so : SrOk s) (ok : TabOk s.ls) (hnm : 0 ≤ s.names ∧ s.names ≤ 1000000000000) (hod : s.order.length ≤ 16) (hsn : s.sent.length ≤ 100) (hck : s.clk.length ≤ 900000) (hla : 0 ≤ s.last ∧ s.last ≤ 1000000000000) (hf : s.Fit 3) : Spec Tryz.prog w0 137 [ptr gn 0, u32 d] (nodP gn s h) (fun _ : Unit => .tuple #[]) (fun _ => nodA gn ((s.newSr d).ask s.srs.length ⟨d, 1, 0, false, s.names + 1⟩)) := by
  refine Spec.enter Tryz.func137 rfl Tryz.ntmps137 rfl fun G => ?_
  refine WS_lens fun hsb hwv => ?_
  rw [srFind_k] at hd
  have hn : kfind (·.name) s.srs (s.names + 1) = none := kfind_none.2 fun x hx => by have := (so.each x hx).2.2.2.2; omega
  have hq := fun gb : Nat => mset_zmap_none (key := fun x : Sr => x.dest) gb ⟨d, 1, 0, false, s.names + 1⟩ rfl hsb hd
  have hi := fun gb : Nat => mset_zmap_none (key := fun x : Sr => x.name) gb ⟨d, 1, 0, false, s.names + 1⟩ rfl hsb hn
  have hS : ∀ gb : Nat, srsQ gn (h.sb ++ [gb]) (s.srs ++ [⟨d, 1, 0, false, s.names + 1⟩]) = cel gb 234 (srC gn gb ⟨d, 1, 0, false, s.names + 1⟩) * srsP gn h.sb s.srs := fun gb => by
    rw [srsQ_eq (by simp [hsb]), srsP_z, srsP_z, zrow_snoc gb _ hsb]; rfl
  have p1 := fun gb : Nat => ask_spec w0 gn (s.newSr d) { h with sb := h.sb ++ [gb] } (k := s.srs.length) (b := gb) (x := ⟨d, 1, 0, false, s.names + 1⟩) (by show (s.srs ++ [_])[s.srs.length]? = _; simp) (by show (h.sb ++ [gb])[s.srs.length]? = _; rw [← hsb]; simp) (by simp) ok hod hsn hck hla ⟨hf.frames, hf.came, hf.dropped, hf.recs, hf.journal⟩
  simp only [nodP, nodPm, nodC, outH, restP, restC, Nd.newSr, hS, qmap_z, imap_z, srC] at p1 ⊢
  simp only [← hq, ← hi] at p1
  rw [srsQ_eq hsb]
  simp only [argE]
  repeat' (first | (show WS _ _ _ (.region 4 _ true) _ _; refine WS_drawK [0, 1, 2, 3, 4, 5, 6, 7, 8, 9] 9 [3, 7] (by decide +kernel) rfl ?_) | (refine WS_seqK ?_; intro K hK) | (refine hK _ ?_; clear hK K) | refine WS_region ?_ | refine LS_nil ?_ | (first | refine DL_nilA ?_ | refine DL_nilS ?_ | refine DL_nilN ?_ | refine DL_nilE ?_ | refine DL_nilR ?_) | (first | refine DL_claimS rfl ?_ | refine DL_claim rfl rfl ?_) | ((first | refine' LQ ?zh rfl ?_ | refine' DL_qp rfl rfl rfl ?zh ?_ | refine' DL_q rfl rfl ?zh ?_); case zh => intro F'; first | exact Q_move rfl | exact Q_assign rfl | exact Q_nilCheck rfl | exact Q_fieldAddr rfl iI rfl | exact Q_load rfl iI iI rfl | exact Q_addI rfl rfl (by omega) | exact Q_build iI iI rfl rfl | exact Q_makeFunc rfl rfl) | ((first | refine' LS_h0 ?zh ?_ | refine' DL_h0 ?zh rfl rfl ?_); (case zh => first | exact H_storeO rfl rfl iI iI iI rfl | exact H_mapUpdate rfl rfl rfl iI iI iI iI iI); intro g) | (refine LS_h (H_box rfl) rfl ?_; intro gb; replace p1 := p1 gb) | (refine LS_h (H_callX iI rfl p1 iI) rfl ?_; intro x2))
  exact ret_none (.inr rfl) rfl ⟨(), rfl, by ((try simp only [star_assoc, emp_star, star_emp]); (repeat' (first | exact Ent.last | refine Ent.take ?_ | refine Ent.nilT ?_ | refine Ent.takeR (by first | rfl | assumption | (simp; done)) ?_ | exact Ent.refl _)))⟩
end Go.Proofs.YtapoehkdnglahaaGreat

/- A node hears data, and what is lost; a neighbour is not reached: the walks. -/
namespace Go.Proofs.YtapoehkdnglahaaGreat
open Go.RowKit
set_option linter.unusedVariables false
set_option linter.unusedSectionVars false
set_option linter.unusedSimpArgs false
section
variable {P : Program} {n : Frm} {w0 : World} {E : Env} {D : List Deferred} {H F F1 F2 : HProp} {Q : Exit → St → Prop} {l l' : List Oper}
end
theorem loseAll_snoc (src : UInt32) (ls : List Ln) (l : List (UInt32 × UInt32)) (x : UInt32 × UInt32) : loseAll src ls (l ++ [x]) = loseStep src (loseAll src ls l) x := by simp [loseAll]
attribute [local irreducible] WS LS OpQ OpT OpH OpTQ Spec SpecQ cel
variable (w0 : World)
end Go.Proofs.YtapoehkdnglahaaGreat

/- What a node keeps: in plain Lean. No program in sight. -/
namespace Go.Proofs.YtapoehkdnglahaaGreat
set_option linter.unusedVariables false
set_option linter.unusedSectionVars false
set_option linter.unusedSimpArgs false
/-- How far a node has come: what it has written, and the most that has been put out. -/
structure Nd.Step (s t : Nd) (a b : Nat) : Prop where
  self : t.self = s.self
  now : t.now = s.now
  repl : t.out.replace = s.out.replace
  frames : t.out.frames.length ≤ s.out.frames.length + a
  came : t.out.came.length ≤ s.out.came.length + a
  dropped : t.out.dropped.length ≤ s.out.dropped.length + a
  wr : ∃ W : List Rec, W.length ≤ b ∧ t.recs = s.recs ++ W ∧ t.out.journal = s.out.journal ++ recsB W
theorem Nd.Step.zero {s t : Nd} (h1 : t.self = s.self) (h2 : t.now = s.now) (h3 : t.out = s.out) (h4 : t.recs = s.recs) : s.Step t 0 0 := ⟨h1, h2, by rw [h3], by rw [h3]; omega, by rw [h3]; omega, by rw [h3]; omega, [], by simp, by simp [h4], by simp [h3, recsB]⟩
theorem Nd.Step.trans {s t u : Nd} {a b c d : Nat} (h : s.Step t a b) (g : t.Step u c d) : s.Step u (a + c) (b + d) := by
  obtain ⟨W, w1, w2, w3⟩ := h.wr
  obtain ⟨V, v1, v2, v3⟩ := g.wr
  refine ⟨g.self.trans h.self, g.now.trans h.now, g.repl.trans h.repl, ?_, ?_, ?_, W ++ V, by simp; omega, by rw [v2, w2, List.append_assoc], by rw [v3, w3]; simp [recsB]⟩
  · have := h.frames; have := g.frames; omega
  · have := h.came; have := g.came; omega
  · have := h.dropped; have := g.dropped; omega
theorem Nd.Step.le {s t : Nd} {a b c d : Nat} (h : s.Step t a b) (h1 : a ≤ c) (h2 : b ≤ d) : s.Step t c d := by
  obtain ⟨W, w1, w2, w3⟩ := h.wr
  exact ⟨h.self, h.now, h.repl, by have := h.frames; omega, by have := h.came; omega, by have := h.dropped; omega, W, by omega, w2, w3⟩
theorem recsB_length (l : List Rec) : (recsB l).length = 13 * l.length := by
  unfold recsB
  exact recBytes_length l
theorem Nd.Step.recs {s t : Nd} {a b : Nat} (h : s.Step t a b) : t.recs.length ≤ s.recs.length + b := by
  obtain ⟨W, w1, w2, w3⟩ := h.wr
  rw [w2]; simp; omega
theorem Nd.Step.journal {s t : Nd} {a b : Nat} (h : s.Step t a b) : t.out.journal.length ≤ s.out.journal.length + 13 * b := by
  obtain ⟨W, w1, w2, w3⟩ := h.wr
  rw [w3, List.length_append, recsB_length]; omega
theorem Nd.Step.fit {s t : Nd} {a b k : Nat} (h : s.Step t a b) (h1 : s.out.frames.length + a + k ≤ 800000) (h2 : s.out.came.length + a + k ≤ 800000) (h3 : s.out.dropped.length + a + k ≤ 800000) (h4 : s.recs.length + b + 9 * k ≤ 400000) (h5 : s.out.journal.length + 13 * b + 120 * k ≤ 800000) : t.Fit k := by
  have := h.frames; have := h.came; have := h.dropped; have := h.recs; have := h.journal
  constructor <;> omega
theorem Nd.Step.write (s : Nd) (r : Rec) : s.Step (s.write r) 0 1 := ⟨rfl, rfl, rfl, Nat.le_refl _, Nat.le_refl _, Nat.le_refl _, [r], by simp, rfl, by simp [Nd.write, recsB]⟩
theorem Nd.Step.noteL (s : Nd) (l : Ln) : s.Step (s.noteL l) 0 1 := by
  unfold Nd.noteL
  repeat' split
  all_goals first | exact Nd.Step.write _ _ | exact (Nd.Step.zero rfl rfl rfl rfl).le (by omega) (by omega)
theorem Nd.Step.noteO (s : Nd) : s.Step s.noteO 0 1 := by
  unfold Nd.noteO
  split
  · exact Nd.Step.write _ _
  · exact (Nd.Step.zero rfl rfl rfl rfl).le (by omega) (by omega)
theorem Nd.Step.noteLs (L : List Ln) : ∀ s : Nd, s.Step (L.foldl Nd.noteL s) 0 L.length := by
  induction L with
  | nil => intro s; exact Nd.Step.zero rfl rfl rfl rfl
  | cons l L ih => intro s; exact ((Nd.Step.noteL s l).trans (ih _)).le (by omega) (by simp only [List.length_cons]; omega)
theorem Nd.Step.note (s : Nd) : s.Step s.note 0 (1 + (listT s.ls).length) := ((Nd.Step.noteO s).trans (Nd.Step.noteLs _ _)).le (by omega) (Nat.le_refl _)
theorem Nd.Step.send (s : Nd) (to : UInt32) (p : Pk) : s.Step (s.send to p) 1 0 := ⟨rfl, rfl, rfl, by simp [Nd.send], by simp [Nd.send], by simp [Nd.send], [], by simp, by simp [Nd.send], by simp [Nd.send, recsB]⟩
theorem Nd.Step.drop (s : Nd) (r : Int) : s.Step (s.drop r) 1 0 := ⟨rfl, rfl, rfl, by simp [Nd.drop], by simp [Nd.drop], by simp [Nd.drop], [], by simp, by simp [Nd.drop], by simp [Nd.drop, recsB]⟩
theorem Nd.Step.came_ (s : Nd) (x : UInt32 × Str) : s.Step (s.came x) 1 0 := ⟨rfl, rfl, rfl, by simp [Nd.came], by simp [Nd.came], by simp [Nd.came], [], by simp, by simp [Nd.came], by simp [Nd.came, recsB]⟩
theorem Nd.Step.ls (s : Nd) (l : List Ln) : s.Step { s with ls := l } 0 0 := Nd.Step.zero rfl rfl rfl rfl
theorem Nd.Step.remember (s : Nd) (r : Rq) : s.Step (s.remember r) 0 0 := by
  obtain ⟨_, h1, h2, h3, h4⟩ := s.remember_eqs r
  exact Nd.Step.zero h1 h2 h3 h4
theorem Nd.Step.hand (s : Nd) (d : UInt32) (t : Str) : s.Step (s.hand d t) 1 0 := by
  unfold Nd.hand
  split
  · exact (Nd.Step.zero rfl rfl rfl rfl).le (by omega) (by omega)
  · have h0 : s.Step { s with datas := s.datas + 1 } 0 0 := Nd.Step.zero rfl rfl rfl rfl
    have h1 := fun to p => h0.trans (Nd.Step.send { s with datas := s.datas + 1 } to p)
    exact ((h1 _ _).trans (Nd.Step.ls _ _)).le (Nat.le_refl _) (Nat.le_refl _)
theorem Nd.Step.handAll (s : Nd) (d : UInt32) (l : List Str) : s.Step (s.handAll d l) l.length 0 := by
  induction l using snocInd with
  | nil => exact Nd.Step.zero rfl rfl rfl rfl
  | snoc l t ih => rw [Nd.handAll_snoc]; exact (ih.trans (Nd.Step.hand _ _ _)).le (by simp) (by omega)
theorem Nd.Step.flush (s : Nd) (d : UInt32) : s.Step (s.flush d) (s.texts d).length 0 := by
  unfold Nd.flush
  simp only
  have h1 := Nd.Step.handAll s d (s.texts d)
  split
  · exact (h1.trans (Nd.Step.zero (t := Nd.stop ((s.handAll d (s.texts d)).unwait d) _) rfl rfl rfl rfl)).le (by omega) (by omega)
  · exact (h1.trans (Nd.Step.zero (t := (s.handAll d (s.texts d)).unwait d) rfl rfl rfl rfl)).le (by omega) (by omega)
theorem Nd.Step.drops (s : Nd) (n : Nat) (k : Int) : s.Step (s.drops n k) n 0 := ⟨rfl, rfl, rfl, by simp [Nd.drops], by simp [Nd.drops], by simp [Nd.drops], [], by simp, by simp [Nd.drops], by simp [Nd.drops, recsB]⟩
theorem Nd.Step.arm (s : Nd) (k : Int) (w : UInt64) : s.Step (s.arm k w) 0 0 := Nd.Step.zero rfl rfl rfl rfl
theorem Nd.Step.ask1 (s : Nd) (x : Sr) : s.Step (s.ask1 x) 1 (1 + (listT s.ls).length) := by
  unfold Nd.ask1
  simp only
  have h0 : s.Step { s with seq := growS s.seq } 0 0 := Nd.Step.zero rfl rfl rfl rfl
  have h1 := h0.trans (Nd.Step.note _)
  generalize Nd.note { s with seq := growS s.seq } = t at *
  have h2 : t.Step { t with ids := t.ids + 1, sent := trimS (t.sent ++ [t.now]) } 0 0 := Nd.Step.zero rfl rfl rfl rfl
  have h3 := h1.trans h2
  generalize ({ t with ids := t.ids + 1, sent := trimS (t.sent ++ [t.now]) } : Nd) = u at *
  exact ((h3.trans (Nd.Step.send u _ _)).trans (Nd.Step.remember _ _)).le (by omega) (by simp only; omega)
theorem Nd.Step.ask (s : Nd) (k : Nat) (x : Sr) : s.Step (s.ask k x) 1 (1 + (listT s.ls).length) := by
  unfold Nd.ask
  have h0 : ∀ b, s.Step (s.setOut k b) 0 0 := fun _ => Nd.Step.zero rfl rfl rfl rfl
  split
  · exact ((h0 _).trans ((Nd.Step.drop _ _).trans (Nd.Step.arm _ _ _))).le (by omega) (by omega)
  · split
    · exact ((h0 _).trans ((Nd.Step.drop _ _).trans (Nd.Step.arm _ _ _))).le (by omega) (by omega)
    · exact ((h0 _).trans ((Nd.Step.ask1 _ _).trans (Nd.Step.arm _ _ _))).le (by omega) (by simp only [Nd.setOut]; omega)
theorem Nd.Step.again (s : Nd) (k : Nat) (x : Sr) : s.Step (s.again k x) ((s.texts x.dest).length + 1) (1 + (listT s.ls).length) := by
  unfold Nd.again
  split
  · exact (Nd.Step.flush _ _).le (by omega) (by omega)
  · split
    · split
      · rename_i y _
        have h0 : s.Step { s with srs := s.srs.set k y } 0 0 := Nd.Step.zero rfl rfl rfl rfl
        exact (h0.trans (Nd.Step.ask _ _ _)).le (by omega) (by simp only; omega)
      · exact ((Nd.Step.drops s (s.texts x.dest).length 5).trans (Nd.Step.zero (t := ((s.drops (s.texts x.dest).length 5).unwait x.dest).stop k) rfl rfl rfl rfl)).le (by omega) (by omega)
    · exact (Nd.Step.ask _ _ _).le (by omega) (by omega)
theorem Nd.Step.answer (s : Nd) (p : Pk) : s.Step (s.answer p) 1 0 := by
  unfold Nd.answer
  split
  · exact Nd.Step.send _ _ _
  · exact Nd.Step.drop _ _
theorem Nd.Step.req3 (s : Nd) (p : Pk) : s.Step (s.req3 p) 1 0 := by
  unfold Nd.req3
  split
  · exact Nd.Step.drop _ _
  · split <;> exact Nd.Step.send _ _ _
theorem Nd.Step.req2 (s : Nd) (p : Pk) : s.Step (s.req2 p) 1 0 := by
  unfold Nd.req2
  split
  · have h0 : ∀ q, s.Step { s with seq := q } 0 0 := fun _ => Nd.Step.zero rfl rfl rfl rfl
    exact ((h0 _).trans (Nd.Step.answer _ _)).le (by omega) (by omega)
  · split
    · split
      · exact ((Nd.Step.ls _ _).trans (Nd.Step.answer _ _)).le (by omega) (by omega)
      · exact Nd.Step.req3 _ _
    · exact Nd.Step.req3 _ _
theorem Nd.Step.req (s : Nd) (src : UInt32) (p : Pk) : s.Step (s.req src p) 1 0 := by
  unfold Nd.req
  split
  · exact Nd.Step.drop _ _
  · simp only
    split
    · exact ((Nd.Step.remember s _).trans ((Nd.Step.ls _ _).trans (Nd.Step.drop _ _))).le (by omega) (by omega)
    · exact ((Nd.Step.remember s _).trans ((Nd.Step.ls _ _).trans (Nd.Step.req2 _ _))).le (by omega) (by omega)
theorem Nd.Step.lost (s : Nd) (l : List (UInt32 × UInt32)) : s.Step (s.lost l) 1 0 := by
  unfold Nd.lost
  split
  · exact Nd.Step.send _ _ _
  · exact (Nd.Step.zero rfl rfl rfl rfl).le (by omega) (by omega)
theorem Nd.Step.los (s : Nd) (src : UInt32) (p : Pk) : s.Step (s.los src p) 2 0 := by
  unfold Nd.los
  simp only
  split
  · exact ((Nd.Step.ls _ _).trans (Nd.Step.lost _ _)).le (by omega) (by omega)
  · exact ((Nd.Step.ls _ _).trans ((Nd.Step.lost _ _).trans (Nd.Step.drop _ _))).le (by omega) (by omega)
theorem Nd.Step.tell (s : Nd) (a b c : UInt32) : s.Step (s.tell a b c) 1 0 := Nd.Step.send _ _ _
theorem Nd.Step.dat (s : Nd) (src : UInt32) (p : Pk) : s.Step (s.dat src p) 2 0 := by
  unfold Nd.dat
  split
  · exact (Nd.Step.came_ _ _).le (by omega) (by omega)
  · split
    · exact (Nd.Step.drop _ _).le (by omega) (by omega)
    · split
      · exact ((Nd.Step.drop _ _).trans ((Nd.Step.ls _ _).trans (Nd.Step.tell _ _ _ _))).le (by omega) (by omega)
      · exact ((Nd.Step.send _ _ _).trans (Nd.Step.ls _ _)).le (by omega) (by omega)
theorem Nd.Step.brk (s : Nd) (nb : UInt32) : s.Step (s.brk nb) 1 0 := ((Nd.Step.ls _ _).trans (Nd.Step.lost _ _)).le (by omega) (by omega)
theorem Nd.texts_ls (s : Nd) (l : List Ln) (d : UInt32) : Nd.texts { s with ls := l } d = s.texts d := rfl
theorem Nd.Step.rep (s : Nd) (src : UInt32) (p : Pk) : s.Step (s.rep src p) ((s.texts p.dest).length + 1) 0 := by
  unfold Nd.rep
  split
  · exact (Nd.Step.drop _ _).le (by omega) (by omega)
  · simp only
    split
    · exact ((Nd.Step.ls _ _).trans (Nd.Step.drop _ _)).le (by omega) (by omega)
    · split
      · have h1 : ∀ l : List Ln, s.Step (if (lookT l p.dest s.now).isSome then Nd.flush { s with ls := l } p.dest else { s with ls := l }) (s.texts p.dest).length 0 := fun l => by
          split
          · exact ((Nd.Step.ls s l).trans (Nd.Step.flush _ _)).le (by rw [Nd.texts_ls]; omega) (by omega)
          · exact (Nd.Step.ls s l).le (by omega) (by omega)
        split
        · exact ((h1 _).trans (Nd.Step.drop _ _)).le (by omega) (by omega)
        · exact (h1 _).le (by omega) (by omega)
      · split
        · split <;> exact ((Nd.Step.ls _ _).trans (Nd.Step.drop _ _)).le (by omega) (by omega)
        · split
          · exact ((Nd.Step.ls _ _).trans (Nd.Step.drop _ _)).le (by omega) (by omega)
          · exact ((Nd.Step.ls _ _).trans ((Nd.Step.send _ _ _).trans (Nd.Step.ls _ _))).le (by omega) (by omega)
theorem Nd.Step.handle (s : Nd) (src : UInt32) (p : Pk) : s.Step (s.handle src p) ((s.texts p.dest).length + 2) 0 := by
  unfold Nd.handle
  repeat' split
  · exact (Nd.Step.req _ _ _).le (by omega) (by omega)
  · exact (Nd.Step.rep _ _ _).le (by omega) (by omega)
  · exact (Nd.Step.los _ _ _).le (by omega) (by omega)
  · exact (Nd.Step.dat _ _ _).le (by omega) (by omega)
end Go.Proofs.YtapoehkdnglahaaGreat

/- What holds of a node between any two things that it does: in plain Lean. No program in sight. -/
namespace Go.Proofs.YtapoehkdnglahaaGreat
set_option linter.unusedVariables false
set_option linter.unusedSectionVars false
set_option linter.unusedSimpArgs false
/-! ### Its table -/
structure LnsOk (me : UInt32) (ls : List Ln) : Prop where
  tab : TabOk ls
  line : ∀ l ∈ ls, l.dest ≠ me ∧ (l.valid = false → l.before = [])
theorem mem_lmod {ls : List Ln} {d : UInt32} {f : Ln → Ln} {x : Ln} (h : x ∈ lmod ls d f) : x ∈ ls ∨ ∃ l ∈ ls, x = f l := by
  cases hf : lfind ls d with
  | none => rw [lmod, hf] at h; exact .inl h
  | some i =>
    obtain ⟨l, hl, _⟩ := lfind_some hf
    rw [lmod_some hf hl] at h
    rcases List.mem_or_eq_of_mem_set h with h | rfl
    · exact .inl h
    · exact .inr ⟨l, List.mem_of_getElem? hl, rfl⟩
theorem dests_set {ls : List Ln} {i : Nat} {l x : Ln} (hl : ls[i]? = some l) (hd : x.dest = l.dest) : dests (ls.set i x) = dests ls := by
  obtain ⟨hlt, he⟩ := List.getElem?_eq_some_iff.1 hl
  unfold dests
  rw [List.map_set, hd, ← he]
  apply List.ext_getElem?
  intro k
  rw [List.getElem?_set]
  split
  · rename_i hk; subst hk; simp [hlt]
  · rfl
theorem dests_lmod {ls : List Ln} {d : UInt32} {f : Ln → Ln} (hd : ∀ l ∈ ls, (f l).dest = l.dest) : dests (lmod ls d f) = dests ls := by
  cases hf : lfind ls d with
  | none => rw [lmod, hf]
  | some i =>
    obtain ⟨l, hl, _⟩ := lfind_some hf
    rw [lmod_some hf hl]
    exact dests_set hl (hd l (List.mem_of_getElem? hl))
theorem dests_use (ls : List Ln) (d : UInt32) (e : UInt64) : dests (useT ls d e) = dests ls := dests_lmod fun l _ => by split <;> rfl
theorem dests_bef (ls : List Ln) (d nb : UInt32) : dests (befT ls d nb) = dests ls := dests_lmod fun l _ => by split <;> rfl
theorem dests_bump (ls : List Ln) (d : UInt32) : dests (bumpT ls d) = dests ls := dests_lmod fun l _ => rfl
theorem dests_lose (ls : List Ln) (a d s : UInt32) : dests (loseT ls a d s) = dests ls := dests_lmod fun l _ => by split <;> rfl
theorem dests_map {ls : List Ln} {f : Ln → Ln} (hd : ∀ l ∈ ls, (f l).dest = l.dest) : dests (ls.map f) = dests ls := by
  unfold dests
  rw [List.map_map]
  exact List.map_congr_left hd
theorem dests_exp (now : UInt64) (ls : List Ln) : dests (expT now ls) = dests ls := dests_map fun l _ => by unfold Ln.exp; split <;> rfl
theorem dests_brk (nb : UInt32) (ls : List Ln) : dests (brkT nb ls) = dests ls := dests_map fun l _ => by unfold Ln.brk; split <;> rfl
theorem dests_put (ls : List Ln) (x : Ln) : ∀ d ∈ dests ls, d ∈ dests (putT ls x) := by
  intro d hd
  unfold putT
  cases hf : lfind ls x.dest with
  | some i =>
    obtain ⟨l, hl, he⟩ := lfind_some hf
    rw [dests_set hl he.symm]; exact hd
  | none => simp only [dests, List.map_append] at hd ⊢; exact List.mem_append_left _ hd
theorem dests_upd (self : UInt32) (ls : List Ln) (x : Ln) : ∀ d ∈ dests ls, d ∈ dests (updT self ls x).2 := by
  intro d hd
  unfold updT
  repeat' split
  all_goals first | exact hd | exact dests_put _ _ d hd
section
variable {self : UInt32} {ls : List Ln}
theorem LnsOk.mod (h : LnsOk self ls) {d : UInt32} {f : Ln → Ln} (ht : TabOk (lmod ls d f)) (hd : ∀ l ∈ ls, (f l).dest = l.dest) (hv : ∀ l ∈ ls, (l.valid = false → l.before = []) → (f l).valid = false → (f l).before = []) : LnsOk self (lmod ls d f) := ⟨ht, fun x hx => by
  rcases mem_lmod hx with hx | ⟨l, hl, rfl⟩
  · exact h.line x hx
  · exact ⟨by rw [hd l hl]; exact (h.line l hl).1, hv l hl (h.line l hl).2⟩⟩
theorem LnsOk.use (h : LnsOk self ls) (d : UInt32) (e : UInt64) : LnsOk self (useT ls d e) := h.mod (h.tab.use d e) (fun l _ => by split <;> rfl) (fun l _ k => by split <;> simp_all)
theorem LnsOk.bef (h : LnsOk self ls) (d nb : UInt32) : LnsOk self (befT ls d nb) := h.mod (h.tab.bef d nb) (fun l _ => by split <;> rfl) (fun l _ k => by split <;> simp_all)
theorem LnsOk.bump (h : LnsOk self ls) (d : UInt32) : LnsOk self (bumpT ls d) := h.mod (h.tab.bump d) (fun l _ => rfl) (fun l _ k => k)
theorem LnsOk.lose (h : LnsOk self ls) (a d s : UInt32) : LnsOk self (loseT ls a d s) := h.mod (h.tab.lose a d s) (fun l _ => by split <;> rfl) (fun l _ k => by split <;> simp_all [Ln.ended])
theorem LnsOk.map {f : Ln → Ln} (h : LnsOk self ls) (ht : TabOk (ls.map f)) (hd : ∀ l ∈ ls, (f l).dest = l.dest) (hv : ∀ l ∈ ls, (l.valid = false → l.before = []) → (f l).valid = false → (f l).before = []) : LnsOk self (ls.map f) := ⟨ht, fun x hx => by
  obtain ⟨l, hl, rfl⟩ := List.mem_map.1 hx
  exact ⟨by rw [hd l hl]; exact (h.line l hl).1, hv l hl (h.line l hl).2⟩⟩
theorem LnsOk.exp (h : LnsOk self ls) (now : UInt64) : LnsOk self (expT now ls) := h.map (h.tab.exp now) (fun l _ => by unfold Ln.exp; split <;> rfl) (fun l _ k => by unfold Ln.exp; split <;> simp_all [Ln.ended])
theorem LnsOk.brk (h : LnsOk self ls) (nb : UInt32) : LnsOk self (brkT nb ls) := h.map (h.tab.brk nb) (fun l _ => by unfold Ln.brk; split <;> rfl) (fun l _ k => by unfold Ln.brk; split <;> simp_all [Ln.ended])
theorem LnsOk.put (h : LnsOk self ls) {x : Ln} (ht : TabOk (putT ls x)) (hx : x.dest ≠ self) (hb : x.valid = false → x.before = []) : LnsOk self (putT ls x) := ⟨ht, fun y hy => by
  unfold putT at hy
  split at hy
  · rcases List.mem_or_eq_of_mem_set hy with hy | rfl
    · exact h.line y hy
    · exact ⟨hx, hb⟩
  · rcases List.mem_append.1 hy with hy | hy
    · exact h.line y hy
    · simp at hy; subst hy; exact ⟨hx, hb⟩⟩
theorem LnsOk.upd (h : LnsOk self ls) (x : Ln) (h1 : 0 ≤ x.hops ∧ x.hops ≤ 1000) : LnsOk self (updT self ls x).2 := by
  have ht := h.tab.upd self x h1
  unfold updT at ht ⊢
  split
  · exact h
  · rename_i hc
    rw [if_neg hc] at ht
    cases hg : lget ls x.dest with
    | some l =>
      simp only [hg] at ht ⊢
      split
      · exact h
      · rename_i h2
        rw [if_neg h2] at ht
        exact h.put ht (fun e => hc (.inl e)) (fun e => by cases e)
    | none =>
      simp only [hg] at ht ⊢
      split
      · exact h
      · rename_i h2
        rw [if_neg h2] at ht
        exact h.put ht (fun e => hc (.inl e)) (fun e => by cases e)
theorem LnsOk.loseAll (h : LnsOk self ls) (src : UInt32) (l : List (UInt32 × UInt32)) : LnsOk self (loseAll src ls l).1 ∧ dests (Go.Proofs.YtapoehkdnglahaaGreat.loseAll src ls l).1 = dests ls := by
  induction l using snocInd with
  | nil => exact ⟨h, rfl⟩
  | snoc l x ih =>
    rw [loseAll_snoc]
    exact ⟨ih.1.lose _ _ _, by show dests (loseT _ _ _ _) = _; rw [dests_lose, ih.2]⟩
theorem LnsOk.nil : LnsOk self [] := ⟨TabOk.nil, fun l h => by cases h⟩
theorem LnsOk.new (self : UInt32) (c : List Rec) : LnsOk self (newT self c) := by
  induction c using snocInd with
  | nil => exact LnsOk.nil
  | snoc c r ih =>
    have ht := TabOk.new self (c ++ [r])
    rw [newT_snoc] at ht ⊢
    unfold newStep at ht ⊢
    split
    · rename_i hc
      rw [if_pos hc] at ht
      exact ih.put ht (by simp only [Rec.ln]; exact hc.2.1) (fun _ => rfl)
    · exact ih
end
/-! ### A node -/
structure Nd.Inv (s : Nd) : Prop where
  tab : LnsOk s.self s.ls
  sr : SrOk s
  order : s.order.length ≤ 16
  wait : ∀ w ∈ s.wait, w.2.length ≤ 4 ∧ ∀ t ∈ w.2, t.length ≤ 16
  sent : s.sent.length ≤ 5
  recs : ∀ r ∈ s.recs, r.own = true ∨ r.addr ∈ dests s.ls
theorem Nd.Inv.to {s t : Nd} (h : s.Inv) (h1 : LnsOk t.self t.ls) (h2 : t.srs = s.srs) (h3 : t.names = s.names) (h4 : t.order.length ≤ 16) (h5 : t.wait = s.wait) (h6 : t.sent.length ≤ 5) (h7 : t.recs = s.recs) (h8 : ∀ d ∈ dests s.ls, d ∈ dests t.ls) : t.Inv :=
  ⟨h1, ⟨by rw [h2]; exact h.sr.dests, by rw [h2]; exact h.sr.names, by rw [h2, h3]; exact h.sr.each⟩, h4, by rw [h5]; exact h.wait, h6, fun r hr => by rw [h7] at hr; rcases h.recs r hr with h | h; exact .inl h; exact .inr (h8 _ h)⟩
theorem Nd.Inv.out {s : Nd} (h : s.Inv) (o : OutD) : Nd.Inv { s with out := o } := h.to h.tab rfl rfl h.order rfl h.sent rfl (fun _ h => h)
theorem Nd.Inv.ls {s : Nd} (h : s.Inv) {l : List Ln} (h1 : LnsOk s.self l) (h2 : ∀ d ∈ dests s.ls, d ∈ dests l) : Nd.Inv { s with ls := l } := h.to h1 rfl rfl h.order rfl h.sent rfl h2
theorem Nd.Inv.send {s : Nd} (h : s.Inv) (to : UInt32) (p : Pk) : (s.send to p).Inv := h.out _
theorem Nd.Inv.drop {s : Nd} (h : s.Inv) (r : Int) : (s.drop r).Inv := h.out _
theorem Nd.Inv.write {s : Nd} (h : s.Inv) (r : Rec) (hr : r.own = true ∨ r.addr ∈ dests s.ls) : (s.write r).Inv := ⟨h.tab, ⟨h.sr.dests, h.sr.names, h.sr.each⟩, h.order, h.wait, h.sent, fun x hx => by
  rcases List.mem_append.1 hx with hx | hx
  · exact h.recs x hx
  · simp at hx; subst hx; exact hr⟩
theorem Nd.Inv.noteL {s : Nd} (h : s.Inv) (l : Ln) (hl : l.dest ∈ dests s.ls) : (s.noteL l).Inv := by
  unfold Nd.noteL
  repeat' split
  all_goals first | exact h.write _ (.inr hl) | exact h
theorem Nd.Inv.noteLs (L : List Ln) : ∀ {s : Nd}, s.Inv → (∀ l ∈ L, l.dest ∈ dests s.ls) → (L.foldl Nd.noteL s).Inv := by
  induction L with
  | nil => intro s h _; exact h
  | cons l L ih => intro s h hl; exact ih (h.noteL l (hl l (by simp))) (fun x hx => by rw [Nd.noteL_ls]; exact hl x (by simp [hx]))
theorem Nd.Inv.noteO {s : Nd} (h : s.Inv) : s.noteO.Inv := by
  unfold Nd.noteO
  split
  · exact h.write _ (.inl rfl)
  · exact h
theorem listT_mem' {ls : List Ln} {l : Ln} (h : l ∈ listT ls) : l ∈ ls := by
  unfold listT at h
  obtain ⟨d, _, hd⟩ := List.mem_filterMap.1 h
  unfold lget at hd
  cases hf : lfind ls d with
  | none => rw [hf] at hd; cases hd
  | some i => rw [hf] at hd; exact List.mem_of_getElem? hd
theorem Nd.Inv.note {s : Nd} (h : s.Inv) : s.note.Inv := Nd.Inv.noteLs _ h.noteO fun l hl => by
  rw [Nd.noteO_ls]
  exact List.mem_map_of_mem (listT_mem' hl)
theorem Nd.Inv.remember {s : Nd} (h : s.Inv) (r : Rq) : (s.remember r).Inv := by
  have hl := remAll_length s.now s.seen s.order
  have ho := h.order
  unfold Nd.remember
  dsimp only
  split
  · rename_i h1
    exact h.to h.tab rfl rfl h1 rfl h.sent rfl (fun _ h => h)
  · refine h.to h.tab rfl rfl ?_ rfl h.sent rfl (fun _ h => h)
    rename_i h1
    generalize hq : firstOf _ _ _ = i
    have hi : i < ((remAll s.now s.seen s.order).2 ++ [r]).length := by rw [← hq]; exact firstOf_lt _ _ _ (Nat.le_refl _) (by simp)
    simp only [List.length_append, List.length_cons, List.length_nil, List.length_take, List.length_drop] at *
    omega
theorem Nd.Inv.hand {s : Nd} (h : s.Inv) (d : UInt32) (t : Str) : (s.hand d t).Inv := by
  unfold Nd.hand
  split
  · exact h
  · exact h.to (h.tab.use _ _) rfl rfl h.order rfl h.sent rfl (fun x hx => by rw [dests_use]; exact hx)
theorem Nd.Inv.handAll {s : Nd} (h : s.Inv) (d : UInt32) (l : List Str) : (s.handAll d l).Inv := by
  induction l using snocInd with
  | nil => exact h
  | snoc l t ih => rw [Nd.handAll_snoc]; exact ih.hand _ _
theorem Nd.Inv.unwait {s : Nd} (h : s.Inv) (d : UInt32) : (s.unwait d).Inv := ⟨h.tab, ⟨h.sr.dests, h.sr.names, h.sr.each⟩, h.order, fun w hw => h.wait w ((mdel_sublist s.wait d).subset hw), h.sent, h.recs⟩
theorem Nd.Inv.stop {s : Nd} (h : s.Inv) (k : Nat) : (s.stop k).Inv := ⟨h.tab, ⟨h.sr.dests.sublist ((List.eraseIdx_sublist _ _).map _), h.sr.names.sublist ((List.eraseIdx_sublist _ _).map _), fun x hx => h.sr.each x ((List.eraseIdx_sublist _ _).subset hx)⟩, h.order, h.wait, h.sent, h.recs⟩
theorem Nd.Inv.flush {s : Nd} (h : s.Inv) (d : UInt32) : (s.flush d).Inv := by
  unfold Nd.flush
  simp only
  split
  · exact ((h.handAll _ _).unwait _).stop _
  · exact (h.handAll _ _).unwait _
theorem Nd.Inv.setSr {s : Nd} (h : s.Inv) {k : Nat} {x y : Sr} (hx : s.srs[k]? = some x) (h1 : y.dest = x.dest) (h2 : y.name = x.name) (h3 : 0 ≤ y.ttl ∧ y.ttl ≤ 8 ∧ 0 ≤ y.retries ∧ y.retries ≤ 2) : Nd.Inv { s with srs := s.srs.set k y } := by
  obtain ⟨hlt, he⟩ := List.getElem?_eq_some_iff.1 hx
  have e1 : (s.srs.set k y).map (·.dest) = s.srs.map (·.dest) := by
    rw [List.map_set, h1, ← he]
    apply List.ext_getElem?
    intro j; rw [List.getElem?_set]; split
    · rename_i e; subst e; simp [hlt]
    · rfl
  have e2 : (s.srs.set k y).map (·.name) = s.srs.map (·.name) := by
    rw [List.map_set, h2, ← he]
    apply List.ext_getElem?
    intro j; rw [List.getElem?_set]; split
    · rename_i e; subst e; simp [hlt]
    · rfl
  refine ⟨h.tab, ⟨by show ((s.srs.set k y).map _).Nodup; rw [e1]; exact h.sr.dests, by show ((s.srs.set k y).map _).Nodup; rw [e2]; exact h.sr.names, fun z hz => ?_⟩, h.order, h.wait, h.sent, h.recs⟩
  rcases List.mem_or_eq_of_mem_set hz with hz | rfl
  · exact h.sr.each z hz
  · have := (h.sr.each x (List.mem_of_getElem? hx)).2.2.2.2
    exact ⟨h3.1, h3.2.1, h3.2.2.1, h3.2.2.2, by rw [h2]; exact this⟩
theorem Nd.Inv.setOut {s : Nd} (h : s.Inv) {k : Nat} {x : Sr} (hx : s.srs[k]? = some x) (b : Bool) : (s.setOut k b).Inv := by
  unfold Nd.setOut
  rw [modify_set hx]
  have := h.sr.each x (List.mem_of_getElem? hx)
  exact h.setSr hx rfl rfl ⟨this.1, this.2.1, this.2.2.1, this.2.2.2.1⟩
theorem Nd.Inv.arm {s : Nd} (h : s.Inv) (k : Int) (w : UInt64) : (s.arm k w).Inv := h.to h.tab rfl rfl h.order rfl h.sent rfl (fun _ h => h)
theorem trimS_length (l : List UInt64) (h : l.length ≤ 6) : (trimS l).length ≤ 5 := by
  unfold trimS
  split
  · simp; omega
  · omega
theorem Nd.Inv.ask1 {s : Nd} (h : s.Inv) (x : Sr) : (s.ask1 x).Inv := by
  unfold Nd.ask1
  simp only
  have h0 : Nd.Inv { s with seq := growS s.seq } := h.to h.tab rfl rfl h.order rfl h.sent rfl (fun _ h => h)
  have h1 := h0.note
  generalize Nd.note { s with seq := growS s.seq } = t at *
  have h2 : Nd.Inv { t with ids := t.ids + 1, sent := trimS (t.sent ++ [t.now]) } := h1.to h1.tab rfl rfl h1.order rfl (trimS_length _ (by have := h1.sent; simp; omega)) rfl (fun _ h => h)
  generalize ({ t with ids := t.ids + 1, sent := trimS (t.sent ++ [t.now]) } : Nd) = u at *
  exact (h2.send _ _).remember _
theorem Nd.Inv.ask {s : Nd} (h : s.Inv) {k : Nat} {x : Sr} (hx : s.srs[k]? = some x) : (s.ask k x).Inv := by
  unfold Nd.ask
  split
  · exact ((h.setOut hx _).drop _).arm _ _
  · split
    · exact ((h.setOut hx _).drop _).arm _ _
    · exact ((h.setOut hx _).ask1 _).arm _ _
theorem Sr.further_ok {x y : Sr} (h : x.further = some y) (hx : 0 ≤ x.ttl ∧ x.ttl ≤ 8 ∧ 0 ≤ x.retries ∧ x.retries ≤ 2) : y.dest = x.dest ∧ y.name = x.name ∧ y.out = x.out ∧ 0 ≤ y.ttl ∧ y.ttl ≤ 8 ∧ 0 ≤ y.retries ∧ y.retries ≤ 2 := by
  unfold Sr.further at h
  split at h
  · cases h; simp only; exact ⟨trivial, trivial, trivial, by omega, by omega, by omega, by omega⟩
  · split at h
    · cases h; simp only; exact ⟨trivial, trivial, trivial, by omega, by omega, by omega, by omega⟩
    · split at h
      · cases h; simp only; exact ⟨trivial, trivial, trivial, by omega, by omega, by omega, by omega⟩
      · cases h
theorem Nd.Inv.drops {s : Nd} (h : s.Inv) (n : Nat) (k : Int) : (s.drops n k).Inv := h.out _
theorem Nd.Inv.again {s : Nd} (h : s.Inv) {k : Nat} {x : Sr} (hx : s.srs[k]? = some x) : (s.again k x).Inv := by
  have hx4 := h.sr.each x (List.mem_of_getElem? hx)
  unfold Nd.again
  split
  · exact h.flush _
  · split
    · split
      · rename_i y hy
        obtain ⟨f1, f2, _, f3⟩ := Sr.further_ok hy ⟨hx4.1, hx4.2.1, hx4.2.2.1, hx4.2.2.2.1⟩
        exact (h.setSr hx f1 f2 f3).ask (by show (s.srs.set k y)[k]? = some y; rw [List.getElem?_set]; simp [(List.getElem?_eq_some_iff.1 hx).1])
      · exact ((h.drops _ _).unwait _).stop _
    · exact h.ask hx
theorem Nd.Inv.answer {s : Nd} (h : s.Inv) (p : Pk) : (s.answer p).Inv := by
  unfold Nd.answer
  split
  · exact h.send _ _
  · exact h.drop _
theorem Nd.Inv.req3 {s : Nd} (h : s.Inv) (p : Pk) : (s.req3 p).Inv := by
  unfold Nd.req3
  split
  · exact h.drop _
  · split <;> exact h.send _ _
theorem Nd.Inv.req2 {s : Nd} (h : s.Inv) (p : Pk) : (s.req2 p).Inv := by
  unfold Nd.req2
  split
  · refine Nd.Inv.answer ?_ _
    exact h.to h.tab rfl rfl h.order rfl h.sent rfl (fun _ h => h)
  · split
    · split
      · refine Nd.Inv.answer (h.ls ?_ ?_) _
        · refine LnsOk.bef ?_ _ _
          split
          · exact h.tab.bef _ _
          · exact h.tab
        · intro d hd
          rw [dests_bef]
          split
          · rw [dests_bef]; exact hd
          · exact hd
      · exact h.req3 _
    · exact h.req3 _
theorem Nd.Inv.req {s : Nd} (h : s.Inv) (src : UInt32) (p : Pk) (hp : 0 ≤ p.hops ∧ p.hops ≤ 255) : (s.req src p).Inv := by
  unfold Nd.req
  split
  · exact h.drop _
  · simp only
    have h1 := h.remember ⟨p.from_, p.id⟩
    generalize s.remember ⟨p.from_, p.id⟩ = s1 at *
    have hu : LnsOk s1.self (s1.reqU src p).2 := h1.tab.upd _ (by simp only [Ln.learned, hop1]; omega)
    have hd := dests_upd s1.self s1.ls (Ln.learned p.from_ p.fromSeq (hop1 p) src s1.soon)
    split
    · exact (h1.ls hu hd).drop _
    · refine Nd.Inv.req2 (h1.ls ?_ ?_) _
      · split
        · exact hu.use _ _
        · exact hu
      · intro d hd1
        split
        · rw [dests_use]; exact hd d hd1
        · exact hd d hd1
theorem Nd.Inv.lost {s : Nd} (h : s.Inv) (l : List (UInt32 × UInt32)) : (s.lost l).Inv := by
  unfold Nd.lost
  split
  · exact h.send _ _
  · exact h
theorem Nd.Inv.los {s : Nd} (h : s.Inv) (src : UInt32) (p : Pk) : (s.los src p).Inv := by
  unfold Nd.los
  obtain ⟨h1, h2⟩ := h.tab.loseAll src p.lost
  have h3 := (h.ls h1 (fun d hd => by rw [h2]; exact hd)).lost (loseAll src s.ls p.lost).2.1
  simp only
  split
  · exact h3
  · exact h3.drop _
theorem Nd.Inv.dat {s : Nd} (h : s.Inv) (src : UInt32) (p : Pk) : (s.dat src p).Inv := by
  unfold Nd.dat
  split
  · exact h.out _
  · split
    · exact h.drop _
    · split
      · exact ((h.drop 3).ls (h.tab.bump _) (fun d hd => by rw [dests_bump]; exact hd)).send _ _
      · exact (h.send _ _).ls ((h.tab.use _ _).use _ _) (fun d hd => by rw [dests_use, dests_use]; exact hd)
theorem Nd.Inv.brk {s : Nd} (h : s.Inv) (nb : UInt32) : (s.brk nb).Inv := (h.ls (h.tab.brk _) (fun d hd => by rw [dests_brk]; exact hd)).lost _
theorem Nd.Inv.rep {s : Nd} (h : s.Inv) (src : UInt32) (p : Pk) (hp : 0 ≤ p.hops ∧ p.hops ≤ 255) : (s.rep src p).Inv := by
  unfold Nd.rep
  split
  · exact h.drop _
  · simp only
    have hu : LnsOk s.self (updT s.self s.ls (Ln.learned p.dest p.destSeq (hop1 p) src (s.now + p.life.toUInt64))).2 := h.tab.upd _ (by simp only [Ln.learned, hop1]; omega)
    have hd := dests_upd s.self s.ls (Ln.learned p.dest p.destSeq (hop1 p) src (s.now + p.life.toUInt64))
    have h1 := h.ls hu hd
    generalize updT s.self s.ls (Ln.learned p.dest p.destSeq (hop1 p) src (s.now + p.life.toUInt64)) = u at *
    split
    · exact h1.drop _
    · split
      · have h2 : Nd.Inv (if (lookT u.2 p.dest s.now).isSome then Nd.flush { s with ls := u.2 } p.dest else { s with ls := u.2 }) := by
          split
          · exact h1.flush _
          · exact h1
        split
        · exact h2.drop _
        · exact h2
      · split
        · split <;> exact h1.drop _
        · split
          · exact h1.drop _
          · exact (h1.send _ _).ls (((hu.bef _ _).bef _ _).use _ _) (fun d hd => by rw [dests_use, dests_bef, dests_bef]; exact hd)
theorem Nd.Inv.handle {s : Nd} (h : s.Inv) (src : UInt32) (p : Pk) (hp : 0 ≤ p.hops ∧ p.hops ≤ 255) : (s.handle src p).Inv := by
  unfold Nd.handle
  repeat' split
  · exact h.req _ _ hp
  · exact h.rep _ _ hp
  · exact h.los _ _
  · exact h.dat _ _
theorem Nd.Inv.rcvQ {s : Nd} (h : s.Inv) (now : UInt64) (src : UInt32) (f : Str) : (s.rcvQ now src f).Inv := by
  unfold Nd.rcvQ
  split
  · exact h.drop _
  · split
    · exact h.drop _
    · split
      · refine Nd.Inv.drop ?_ _
        exact h.to h.tab rfl rfl h.order rfl h.sent rfl (fun _ h => h)
      · exact h.drop _
theorem Nd.Inv.newSr {s : Nd} (h : s.Inv) (d : UInt32) (hd : srFind s.srs d = none) (h0 : 0 ≤ s.names) : (s.newSr d).Inv := by
  rw [srFind_k] at hd
  have h1 := kfind_none.1 hd
  refine ⟨h.tab, ⟨?_, ?_, ?_⟩, h.order, h.wait, h.sent, h.recs⟩
  · show ((s.srs ++ [_]).map _).Nodup
    rw [List.map_append]
    exact List.nodup_append.2 ⟨h.sr.dests, by simp, fun a ha b hb => by simp at hb; subst hb; obtain ⟨x, hx, rfl⟩ := List.mem_map.1 ha; exact h1 x hx⟩
  · show ((s.srs ++ [_]).map _).Nodup
    rw [List.map_append]
    exact List.nodup_append.2 ⟨h.sr.names, by simp, fun a ha b hb => by simp at hb; subst hb; obtain ⟨x, hx, rfl⟩ := List.mem_map.1 ha; have := (h.sr.each x hx).2.2.2.2; omega⟩
  · intro x hx
    show _ ∧ _ ∧ _ ∧ _ ∧ x.name ≤ s.names + 1
    rcases List.mem_append.1 hx with hx | hx
    · have := h.sr.each x hx; omega
    · simp at hx; subst hx; simp
end Go.Proofs.YtapoehkdnglahaaGreat

/- Time goes by at a node: in plain Lean. No program in sight. -/
namespace Go.Proofs.YtapoehkdnglahaaGreat
set_option linter.unusedVariables false
set_option linter.unusedSectionVars false
set_option linter.unusedSimpArgs false
/-- All numbers of lines are written. -/
def Nd.Noted (s : Nd) : Prop := ∀ l ∈ s.ls, ∃ q, mget s.held l.dest = some q ∧ ¬ q < l.seq
theorem lfind_at : ∀ {ls : List Ln} {l : Ln}, (dests ls).Nodup → l ∈ ls → lget ls l.dest = some l
  | [], _, _, h => by cases h
  | y :: r, l, hn, h => by
    unfold dests at hn
    rw [List.map_cons, List.nodup_cons] at hn
    rcases List.mem_cons.1 h with rfl | h
    · simp [lget, lfind]
    · have hne : y.dest ≠ l.dest := fun e => hn.1 (by rw [e]; exact List.mem_map_of_mem h)
      have ih := lfind_at (ls := r) hn.2 h
      unfold lget at ih ⊢
      simp only [lfind]
      rw [if_neg hne]
      cases hf : lfind r l.dest with
      | none => rw [hf] at ih; cases ih
      | some i => rw [hf] at ih; simpa using ih
theorem mem_listT {ls : List Ln} (ok : TabOk ls) {l : Ln} : l ∈ listT ls ↔ l ∈ ls := by
  refine ⟨listT_mem', fun h => ?_⟩
  unfold listT
  refine List.mem_filterMap.2 ⟨l.dest, ?_, lfind_at ok.nodup h⟩
  exact (List.mergeSort_perm _ _).mem_iff.2 (List.mem_map_of_mem h)
theorem noteLs_held' (L : List Ln) : ∀ s : Nd, (L.map (·.dest)).Nodup → ∀ l ∈ L, ∃ q, mget (L.foldl Nd.noteL s).held l.dest = some q ∧ ¬ q < l.seq := by
  have keep : ∀ (M : List Ln) (s : Nd) (d : UInt32), d ∉ M.map (·.dest) → mget (M.foldl Nd.noteL s).held d = mget s.held d := by
    intro M
    induction M with
    | nil => intro s d _; rfl
    | cons m M ih =>
      intro s d hd
      simp only [List.map_cons, List.mem_cons, not_or] at hd
      rw [List.foldl_cons, ih _ d hd.2]
      unfold Nd.noteL
      (repeat' split) <;> simp [Nd.write, mget_mset, Ne.symm hd.1]
  induction L with
  | nil => intro s _ l hl; cases hl
  | cons m M ih =>
    intro s hn l hl
    simp only [List.map_cons, List.nodup_cons] at hn
    rw [List.foldl_cons]
    rcases List.mem_cons.1 hl with rfl | hl
    · rw [keep M _ _ hn.1]
      unfold Nd.noteL
      split
      · rename_i q hq
        split
        · exact ⟨l.seq, by simp [Nd.write, mget_mset], by simp⟩
        · rename_i hnq
          exact ⟨q, hq, hnq⟩
      · exact ⟨l.seq, by simp [Nd.write, mget_mset], by simp⟩
    · exact ih _ hn.2 l hl
theorem listT_nodup' {ls : List Ln} (ok : TabOk ls) : ((listT ls).map (·.dest)).Nodup := by
  have hn : (sortU (dests ls)).Nodup := (List.mergeSort_perm _ _).nodup_iff.2 ok.nodup
  have hsub : ((listT ls).map (·.dest)).Sublist (sortU (dests ls)) := by
    unfold listT
    generalize sortU (dests ls) = ds
    induction ds with
    | nil => exact List.Sublist.refl _
    | cons d ds ih =>
      rw [List.filterMap_cons]
      cases hg : lget ls d with
      | none => exact (ih).cons _
      | some l =>
        have hd : l.dest = d := by
          unfold lget at hg
          cases hf : lfind ls d with
          | none => rw [hf] at hg; cases hg
          | some i => obtain ⟨l', h1, h2⟩ := lfind_some hf; rw [hf] at hg; simp only [Option.bind_some, h1] at hg; cases hg; exact h2
        rw [List.map_cons, hd]
        exact ih.cons_cons _
  exact hn.sublist hsub
theorem Nd.note_noted (s : Nd) (ok : TabOk s.ls) : s.note.Noted := by
  intro l hl
  rw [(Nd.Same.note s).ls] at hl
  unfold Nd.note
  exact noteLs_held' _ _ (listT_nodup' ok) l ((mem_listT ok).2 hl)
theorem noteLs_fix' {h : List (UInt32 × UInt32)} (L : List Ln) : ∀ s : Nd, s.held = h → (∀ l ∈ L, ∃ q, mget h l.dest = some q ∧ ¬ q < l.seq) → L.foldl Nd.noteL s = s := by
  induction L with
  | nil => intro s _ _; rfl
  | cons l L ih =>
    intro s hs hl
    obtain ⟨q, h1, h2⟩ := hl l (by simp)
    have e : s.noteL l = s := by unfold Nd.noteL; rw [hs, h1]; simp [h2]
    rw [List.foldl_cons, e]
    exact ih s hs fun l hm => hl l (by simp [hm])
theorem Nd.Noted.note {s : Nd} (h : s.Noted) : s.note = s.noteO := by
  unfold Nd.note
  refine noteLs_fix' _ _ rfl fun l hl => ?_
  have e : s.noteO.held = s.held := by
    unfold Nd.noteO
    split
    · simp [Nd.write]
    · rfl
  rw [e]
  exact h l (listT_mem' hl)
theorem Nd.Noted.noteO {s : Nd} (h : s.Noted) : s.noteO.Noted := by
  unfold Nd.noteO
  split
  · intro l hl
    simpa [Nd.write] using h l hl
  · exact h
theorem Nd.Noted.to {s t : Nd} (h : s.Noted) (h1 : t.held = s.held) (h2 : ∀ l ∈ t.ls, ∃ l' ∈ s.ls, l.dest = l'.dest ∧ l.seq = l'.seq) : t.Noted := fun l hl => by
  obtain ⟨l', k1, k2, k3⟩ := h2 l hl
  rw [h1, k2, k3]
  exact h l' k1
theorem Nd.Noted.same {s t : Nd} (h : s.Noted) (h1 : t.held = s.held) (h2 : t.ls = s.ls) : t.Noted := h.to h1 fun l hl => ⟨l, h2 ▸ hl, rfl, rfl⟩
theorem use_same (ls : List Ln) (d : UInt32) (e : UInt64) : ∀ l ∈ useT ls d e, ∃ l' ∈ ls, l.dest = l'.dest ∧ l.seq = l'.seq := fun l hl => by
  rcases mem_lmod hl with h | ⟨l', h, rfl⟩
  · exact ⟨l, h, rfl, rfl⟩
  · refine ⟨l', h, ?_, ?_⟩ <;> split <;> rfl
theorem Nd.Noted.hand {s : Nd} (h : s.Noted) (d : UInt32) (t : Str) : (s.hand d t).Noted := by
  unfold Nd.hand
  split
  · exact h
  · exact h.to rfl (use_same _ _ _)
theorem Nd.Noted.handAll {s : Nd} (h : s.Noted) (d : UInt32) (l : List Str) : (s.handAll d l).Noted := by
  induction l using snocInd with
  | nil => exact h
  | snoc l t ih => rw [Nd.handAll_snoc]; exact ih.hand _ _
theorem Nd.Noted.flush {s : Nd} (h : s.Noted) (d : UInt32) : (s.flush d).Noted := by
  have h1 := h.handAll d (s.texts d)
  unfold Nd.flush
  simp only
  split <;> exact h1.same rfl rfl
theorem Nd.Noted.remember {s : Nd} (h : s.Noted) (r : Rq) : (s.remember r).Noted := by
  refine h.same ?_ (s.remember_eqs r).1
  unfold Nd.remember
  dsimp only
  split <;> rfl
/-- What a request leaves alone, and what it does to the timers. -/
theorem Nd.ask1_eqs (s : Nd) (x : Sr) : (s.ask1 x).clk = s.clk ∧ (s.ask1 x).last = s.last ∧ (s.ask1 x).names = s.names ∧ (s.ask1 x).now = s.now ∧ (s.ask1 x).wait = s.wait ∧ (s.ask1 x).srs = s.srs ∧ (s.ask1 x).silent = s.silent ∧ (s.ask1 x).ls = s.ls := by
  have hm := Nd.Same.note { s with seq := growS s.seq }
  unfold Nd.ask1
  simp only
  generalize Nd.note { s with seq := growS s.seq } = t at *
  unfold Nd.remember
  dsimp only
  split <;> exact ⟨hm.clk, hm.last, hm.names, hm.now, hm.wait, hm.srs, hm.silent, hm.ls⟩
theorem Nd.Noted.ask1 {s : Nd} (h : s.Noted) (x : Sr) : (s.ask1 x).Noted ∧ s.Step (s.ask1 x) 1 1 := by
  have h0 : Nd.Noted { s with seq := growS s.seq } := h.same rfl rfl
  have e := h0.note
  have h1 := h0.noteO
  have k0 : s.Step { s with seq := growS s.seq } 0 0 := Nd.Step.zero rfl rfl rfl rfl
  have k1 := k0.trans (Nd.Step.noteO { s with seq := growS s.seq })
  unfold Nd.ask1
  rw [e]
  simp only
  generalize Nd.noteO { s with seq := growS s.seq } = t at *
  have h2 : Nd.Noted { t with ids := t.ids + 1, sent := trimS (t.sent ++ [t.now]) } := h1.same rfl rfl
  have k2 := k1.trans (Nd.Step.zero (s := t) (t := { t with ids := t.ids + 1, sent := trimS (t.sent ++ [t.now]) }) rfl rfl rfl rfl)
  generalize ({ t with ids := t.ids + 1, sent := trimS (t.sent ++ [t.now]) } : Nd) = u at *
  refine ⟨Nd.Noted.remember (s := u.send 0 _) (Nd.Noted.same h2 rfl rfl) _, ((k2.trans (Nd.Step.send u _ _)).trans (Nd.Step.remember _ _)).le (by omega) (by omega)⟩
theorem askWait_pos (x : Sr) (h : 0 ≤ x.ttl ∧ x.ttl ≤ 8 ∧ 0 ≤ x.retries ∧ x.retries ≤ 2) : 0 < (askWait x).toNat ∧ (askWait x).toNat ≤ 100000 := by
  obtain ⟨d, ttl, ret, o, nm⟩ := x
  simp only at h
  unfold askWait
  simp only
  obtain ⟨h1, h2, h3, h4⟩ := h
  have a : ttl = 0 ∨ ttl = 1 ∨ ttl = 2 ∨ ttl = 3 ∨ ttl = 4 ∨ ttl = 5 ∨ ttl = 6 ∨ ttl = 7 ∨ ttl = 8 := by omega
  have b : ret = 0 ∨ ret = 1 ∨ ret = 2 := by omega
  rcases a with rfl | rfl | rfl | rfl | rfl | rfl | rfl | rfl | rfl <;> rcases b with rfl | rfl | rfl <;> decide
theorem later {a w : UInt64} (ha : a.toNat ≤ 4611686018427387904) (hw : 0 < w.toNat ∧ w.toNat ≤ 100000) : a < a + w := by
  rw [UInt64.lt_iff_toNat_lt, UInt64.toNat_add]
  omega
/-- Timers that are added: at most one, later than now. -/
structure Nd.More (s t : Nd) (now : UInt64) : Prop where
  clk : ∃ E : List Tm, t.clk = s.clk ++ E ∧ E.length ≤ 1 ∧ (∀ u ∈ E, now < u.at_) ∧ t.last = s.last + E.length
  names : t.names = s.names
theorem Nd.More.of {s t : Nd} {now : UInt64} (h1 : t.clk = s.clk) (h2 : t.last = s.last) (h3 : t.names = s.names) : s.More t now := ⟨⟨[], by simp [h1], by simp, by simp, by simp [h2]⟩, h3⟩
theorem Nd.More.one {s t : Nd} {now : UInt64} (w : UInt64) (n : Int) (h1 : t.clk = s.clk ++ [⟨s.now + w, s.last + 1, n⟩]) (h2 : t.last = s.last + 1) (h3 : t.names = s.names) (hn : s.now = now) (hb : now.toNat ≤ 4611686018427387904) (hw : 0 < w.toNat ∧ w.toNat ≤ 100000) : s.More t now := ⟨⟨_, h1, by simp, fun u hu => by simp at hu; subst hu; rw [hn]; exact later hb hw, by simp [h2]⟩, h3⟩
theorem Nd.ask_more (s : Nd) (k : Nat) (x : Sr) (hx : 0 ≤ x.ttl ∧ x.ttl ≤ 8 ∧ 0 ≤ x.retries ∧ x.retries ≤ 2) {now : UInt64} (hn : s.now = now) (hb : now.toNat ≤ 4611686018427387904) : s.More (s.ask k x) now := by
  unfold Nd.ask
  split
  · exact Nd.More.one 1000 x.name rfl rfl rfl hn hb (by decide)
  · split
    · exact Nd.More.one 1000 x.name rfl rfl rfl hn hb (by decide)
    · obtain ⟨e1, e2, e3, e4, _⟩ := Nd.ask1_eqs (s.setOut k true) x
      refine Nd.More.one (askWait x) x.name ?_ ?_ ?_ hn hb (askWait_pos x hx)
      · show ((s.setOut k true).ask1 x).clk ++ [_] = _
        rw [e1, e2, e4]; rfl
      · show ((s.setOut k true).ask1 x).last + 1 = _
        rw [e2]; rfl
      · exact e3
theorem Nd.handAll_eqs (s : Nd) (d : UInt32) (l : List Str) : (s.handAll d l).clk = s.clk ∧ (s.handAll d l).last = s.last ∧ (s.handAll d l).names = s.names := by
  induction l using snocInd with
  | nil => exact ⟨rfl, rfl, rfl⟩
  | snoc l t ih =>
    rw [Nd.handAll_snoc]
    unfold Nd.hand
    split <;> exact ih
theorem Nd.flush_eqs (s : Nd) (d : UInt32) : (s.flush d).clk = s.clk ∧ (s.flush d).last = s.last ∧ (s.flush d).names = s.names := by
  have h := Nd.handAll_eqs s d (s.texts d)
  unfold Nd.flush
  simp only
  split <;> exact h
theorem Nd.again_more (s : Nd) (k : Nat) (x : Sr) (hx : 0 ≤ x.ttl ∧ x.ttl ≤ 8 ∧ 0 ≤ x.retries ∧ x.retries ≤ 2) {now : UInt64} (hn : s.now = now) (hb : now.toNat ≤ 4611686018427387904) : s.More (s.again k x) now := by
  unfold Nd.again
  split
  · obtain ⟨h1, h2, h3⟩ := Nd.flush_eqs s x.dest
    exact Nd.More.of h1 h2 h3
  · split
    · split
      · rename_i y hy
        have := Nd.ask_more { s with srs := s.srs.set k y } k y (Sr.further_ok hy hx).2.2.2 hn hb
        exact ⟨this.clk, this.names⟩
      · exact Nd.More.of rfl rfl rfl
    · exact Nd.ask_more _ _ _ hx hn hb
theorem Nd.Noted.ask {s : Nd} (h : s.Noted) (k : Nat) (x : Sr) : (s.ask k x).Noted ∧ s.Step (s.ask k x) 1 1 := by
  have k0 : ∀ b, s.Step (s.setOut k b) 0 0 := fun _ => Nd.Step.zero rfl rfl rfl rfl
  unfold Nd.ask
  split
  · exact ⟨h.same rfl rfl, ((k0 _).trans ((Nd.Step.drop _ _).trans (Nd.Step.arm _ _ _))).le (by omega) (by omega)⟩
  · split
    · exact ⟨h.same rfl rfl, ((k0 _).trans ((Nd.Step.drop _ _).trans (Nd.Step.arm _ _ _))).le (by omega) (by omega)⟩
    · have h0 : (s.setOut k true).Noted := h.same rfl rfl
      obtain ⟨h1, h2⟩ := h0.ask1 x
      exact ⟨h1.same rfl rfl, (((k0 true).trans h2).trans (Nd.Step.arm _ _ _)).le (by omega) (by omega)⟩
theorem Nd.Noted.again {s : Nd} (h : s.Noted) (k : Nat) (x : Sr) : (s.again k x).Noted ∧ s.Step (s.again k x) ((s.texts x.dest).length + 1) 1 := by
  unfold Nd.again
  split
  · exact ⟨h.flush _, (Nd.Step.flush _ _).le (by omega) (by omega)⟩
  · split
    · split
      · rename_i y _
        have h0 : Nd.Noted { s with srs := s.srs.set k y } := h.same rfl rfl
        have k0 : s.Step { s with srs := s.srs.set k y } 0 0 := Nd.Step.zero rfl rfl rfl rfl
        obtain ⟨h1, h2⟩ := h0.ask k y
        exact ⟨h1, (k0.trans h2).le (by omega) (by omega)⟩
      · exact ⟨h.same rfl rfl, ((Nd.Step.drops s (s.texts x.dest).length 5).trans (Nd.Step.zero (t := ((s.drops (s.texts x.dest).length 5).unwait x.dest).stop k) rfl rfl rfl rfl)).le (by omega) (by omega)⟩
    · obtain ⟨h1, h2⟩ := h.ask k x
      exact ⟨h1, h2.le (by omega) (by omega)⟩
/-! ### What is due -/
def dueN (now : UInt64) (l : List Tm) : Nat := (l.filter fun t => decide (t.at_ ≤ now)).length
theorem dueN_le (now : UInt64) (l : List Tm) : dueN now l ≤ l.length := List.length_filter_le _ _
theorem dueN_append (now : UInt64) (l E : List Tm) (h : ∀ u ∈ E, now < u.at_) : dueN now (l ++ E) = dueN now l := by
  unfold dueN
  rw [List.filter_append]
  have : E.filter (fun t => decide (t.at_ ≤ now)) = [] := List.filter_eq_nil_iff.2 fun u hu => by simpa using h u hu
  rw [this, List.append_nil]
theorem dueN_erase (now : UInt64) {l : List Tm} {i : Nat} (hi : i < l.length) (h : (at' l i).at_ ≤ now) : dueN now (l.eraseIdx i) + 1 = dueN now l := by
  unfold dueN
  rw [← ((erase_perm hi).filter _).length_eq, List.filter_cons, if_pos (by simpa using h)]
  simp
theorem texts_le {s : Nd} (h : s.Inv) (d : UInt32) : (s.texts d).length ≤ 4 ∧ ∀ t ∈ s.texts d, t.length ≤ 16 := by
  unfold Nd.texts
  cases hm : mget s.wait d with
  | none => simp
  | some l => exact h.wait _ (mget_mem hm)
theorem Nd.Inv.clk {s : Nd} (h : s.Inv) (l : List Tm) : Nd.Inv { s with clk := l } := h.to h.tab rfl rfl h.order rfl h.sent rfl (fun _ h => h)
/-- One thing that is due. -/
structure Nd.Stepped (s t : Nd) (now : UInt64) : Prop where
  inv : t.Inv
  noted : t.Noted
  step : s.Step t 5 1
  due : dueN now t.clk + 1 = dueN now s.clk
  clk : t.clk.length ≤ s.clk.length
  last : s.last ≤ t.last ∧ t.last ≤ s.last + 1
  names : t.names = s.names
theorem Nd.step_some {s t : Nd} {now : UInt64} (h : s.step now = some t) (hi : s.Inv) (hd : s.Noted) (hn : s.now = now) (hb : now.toNat ≤ 4611686018427387904) : s.Stepped t now := by
  unfold Nd.step at h
  cases hbn : bestN s.clk now s.clk.length with
  | none => rw [hbn] at h; cases h
  | some i =>
    rw [hbn] at h
    simp only at h
    obtain ⟨b1, b2, _⟩ := bestN_some hbn
    have hdue := dueN_erase now b1 (UInt64.le_iff_toNat_le.2 b2)
    have hlen : (s.clk.eraseIdx i).length + 1 = s.clk.length := by rw [List.length_eraseIdx]; split <;> omega
    have plain : s.Stepped { s with clk := s.clk.eraseIdx i } now := ⟨hi.clk _, hd.same rfl rfl, (Nd.Step.zero (s := s) (t := { s with clk := s.clk.eraseIdx i }) rfl rfl rfl rfl).le (by omega) (by omega), hdue, by show (s.clk.eraseIdx i).length ≤ _; omega, ⟨Int.le_refl _, by show s.last ≤ _; omega⟩, rfl⟩
    cases hnm : nmFind s.srs (at' s.clk i).what with
    | none => rw [hnm] at h; cases h; exact plain
    | some k =>
      rw [hnm] at h
      simp only at h
      cases hk : s.srs[k]? with
      | none => rw [hk] at h; cases h; exact plain
      | some x =>
        rw [hk] at h
        simp only [Option.some.injEq] at h
        have hxr := hi.sr.each x (List.mem_of_getElem? hk)
        obtain ⟨p1, p2, p3, p4, p5, p6, p7⟩ := plain
        have hN := p2.again k x
        have hM := Nd.again_more { s with clk := s.clk.eraseIdx i } k x ⟨hxr.1, hxr.2.1, hxr.2.2.1, hxr.2.2.2.1⟩ hn hb
        obtain ⟨⟨E, m1, m2, m3, m4⟩, m5⟩ := hM
        have hI := p1.again (k := k) (x := x) hk
        have ht := (texts_le p1 x.dest).1
        rw [h] at hN m1 m4 m5 hI
        have ks : s.Step { s with clk := s.clk.eraseIdx i } 0 0 := Nd.Step.zero rfl rfl rfl rfl
        simp only at m1 m4 m5
        refine ⟨hI, hN.1, (ks.trans hN.2).le (by omega) (by omega), by rw [m1, dueN_append _ _ _ m3]; exact hdue, by rw [m1, List.length_append]; omega, by omega, m5⟩
theorem Nd.step_none {s : Nd} {now : UInt64} (h : s.step now = none) : bestN s.clk now s.clk.length = none := by
  unfold Nd.step at h
  cases hbn : bestN s.clk now s.clk.length with
  | none => rfl
  | some i =>
    rw [hbn] at h
    simp only at h
    split at h
    · split at h <;> cases h
    · cases h
end Go.Proofs.YtapoehkdnglahaaGreat

/- Time goes by at a node; a neighbour is not reached: the walks. -/
namespace Go.Proofs.YtapoehkdnglahaaGreat
open Go.RowKit
set_option linter.unusedVariables false
set_option linter.unusedSectionVars false
set_option linter.unusedSimpArgs false
section
variable {P : Program} {n : Frm} {w0 : World} {E : Env} {D : List Deferred} {H F : HProp} {d : Option Tmp} {ty : TypeId} {pos : String} {after : Array Edge} {gu : Option (Tmp × Bool)}
/-- A call of a method value. -/
theorem T_callB {t : Tmp} {f : FuncId} {bound args : List Value} {α : Type} {X : HProp} {res : α → Value} {post : α → HProp} {xs : List Operand} {ts : Array TypeId} (hf : IsFun P f) (ht : E.get t = some (.func (.func f) bound.toArray #[])) (hargs : E.evs xs = some args) (spec : Spec P w0 f (bound ++ args) X res post) : OpT P n w0 ⟨d, .call ⟨.value (.tmp t), xs.toArray, ts⟩, ty, pos, after, gu⟩ E X res post := fun G a w K Q s hs hK => by
  have e := s.evs hargs
  have e2 : a.eval (.tmp t) = .func (.func f) bound.toArray #[] := s.ev (x := .tmp t) ht
  have hr : (execOp a.eval ⟨d, .call ⟨.value (.tmp t), xs.toArray, ts⟩, ty, pos, after, gu⟩).run P w = .ok (.enter f (bound ++ args).toArray) w := by
    have h := run_callFunc hf (bound ++ args).toArray w
    simp [execOp, resolve, e2, Deferred.ofValue, invoke, e] at h ⊢
    exact h
  unfold Oper.wp
  rw [hr]
  refine (spec G w hs).mono ?_
  rintro e w' ⟨x, rfl, hs'⟩
  exact hK x w' hs'
theorem H_callB {t : Tmp} {f : FuncId} {bound args : List Value} {α : Type} {X : HProp} {res : α → Value} {post : α → HProp} {xs : List Operand} {ts : Array TypeId} (hf : IsFun P f) (ht : E.get t = some (.func (.func f) bound.toArray #[])) (hargs : E.evs xs = some args) (spec : Spec P w0 f (bound ++ args) X res post) (hl : Own H X F) :
    OpH P n w0 ⟨d, .call ⟨.value (.tmp t), xs.toArray, ts⟩, ty, pos, after, gu⟩ E H res (fun x => post x * F) := OpH.mk' (T_callB hf ht hargs spec) hl.eq
end
/-- j things that were due. -/
structure Nd.Run (s t : Nd) (now : UInt64) (j : Nat) : Prop where
  inv : t.Inv
  noted : t.Noted
  nowt : t.now = now
  step : s.Step t (5 * j) j
  due : dueN now t.clk + j = dueN now s.clk
  clk : t.clk.length ≤ s.clk.length
  last : s.last ≤ t.last ∧ t.last ≤ s.last + j
  names : t.names = s.names
theorem Nd.Run.next {s t u : Nd} {now : UInt64} {j : Nat} (h : s.Run t now j) (hs : t.step now = some u) (hb : now.toNat ≤ 4611686018427387904) : s.Run u now (j + 1) := by
  have k := Nd.step_some hs h.inv h.noted h.nowt hb
  exact ⟨k.inv, k.noted, k.step.now.trans h.nowt, (h.step.trans k.step).le (by omega) (by omega), by have := k.due; have := h.due; omega, by have := k.clk; have := h.clk; omega, by have := k.last; have := h.last; omega, k.names.trans h.names⟩
theorem Nd.ticks_run {s : Nd} {now : UInt64} (hb : now.toNat ≤ 4611686018427387904) : ∀ (f : Nat) (t : Nd) (j : Nat), s.Run t now j → dueN now t.clk < f → ∃ i, s.Run (t.ticks f now) now i ∧ (t.ticks f now).step now = none
  | 0, t, j, _, h => absurd h (Nat.not_lt_zero _)
  | f + 1, t, j, hr, hf => by
    unfold Nd.ticks
    cases hs : t.step now with
    | none => exact ⟨j, hr, hs⟩
    | some u =>
      have k := Nd.step_some hs hr.inv hr.noted hr.nowt hb
      exact Nd.ticks_run hb f u (j + 1) (hr.next hs hb) (by have := k.due; omega)
def Nd.tick (s : Nd) (now : UInt64) : Nd := s.ticks (dueN now s.clk + 1) now
/-- A node that is asked for what is due. -/
structure Nd.Ready (s : Nd) (now : UInt64) : Prop where
  inv : s.Inv
  noted : s.Noted
  nowt : s.now = now
  small : now.toNat ≤ 4611686018427387904
  clk : s.clk.length ≤ 8500
  last : 0 ≤ s.last ∧ s.last ≤ 900000000000
  frames : s.out.frames.length ≤ 1000
  came : s.out.came.length ≤ 1000
  dropped : s.out.dropped.length ≤ 1000
  recs : s.recs.length ≤ 1000
  journal : s.out.journal.length ≤ 10000
theorem Nd.Run.zero {s : Nd} {now : UInt64} (h : s.Ready now) : s.Run s now 0 := ⟨h.inv, h.noted, h.nowt, Nd.Step.zero rfl rfl rfl rfl, rfl, Nat.le_refl _, ⟨Int.le_refl _, by omega⟩, rfl⟩
theorem Nd.tick_run {s : Nd} {now : UInt64} (h : s.Ready now) : ∃ i, i ≤ s.clk.length ∧ s.Run (s.tick now) now i := by
  obtain ⟨i, h1, _⟩ := Nd.ticks_run h.small (dueN now s.clk + 1) s 0 (Nd.Run.zero h) (by omega)
  refine ⟨i, ?_, h1⟩
  have := h1.due
  have := dueN_le now s.clk
  omega
attribute [local irreducible] WS LS OpQ OpT OpH OpTQ Spec SpecQ cel
variable (w0 : World)
set_option maxRecDepth 100000 in
set_option maxHeartbeats 16000000 in
theorem tickC_spec (gn : Nat) (s : Nd) (now : UInt64) (hr : s.Ready now) (bn bw : Nat) (tn tw : TypeId) : Spec Tryz.prog w0 133 [ptr bn 0, ptr bw 0] (nodA gn s * (cel bn tn [ptr gn 0] * cel bw tw [u64 now])) (fun _ : Unit => .tuple #[]) (fun _ => nodA gn (s.tick now) * emp) := by
  refine Spec.enter Tryz.func133 rfl Tryz.ntmps133 rfl fun G => ?_
  rw [star_assoc (nodA gn s), star_assoc (cel bn tn _)]
  simp only [argE]
  refine WS_block ?_
  refine WS_loop (fun m τ => ∃ (sj : Nd) (j : Nat), s.Run sj now j ∧ dueN now sj.clk = m ∧ sj.ticks (m + 1) now = s.tick now ∧ τ = ⟨[(0, ptr bn 0), (0 + 1, ptr bw 0)], [], nodA gn sj * (cel bn tn [ptr gn 0] * (cel bw tw [u64 now] * G))⟩) ?_ ?_
  · exact ⟨_, _, ⟨s, 0, Nd.Run.zero hr, rfl, rfl, rfl⟩, ⟨rfl, rfl, trivial⟩, rfl, Ent.refl _⟩
  · rintro m τ ⟨sj, j, hR, hm, hT, rfl⟩
    refine WS_nod fun h => ?_
    have hjl : j ≤ s.clk.length := by have := hR.due; have := dueN_le now s.clk; omega
    have hcl := hr.clk
    have hcl2 := hR.clk
    cases hst : sj.step now with
    | none =>
      have e : sj = s.tick now := by rw [← hT, Nd.ticks, hst]
      have p1 := clock_none w0 h.cb h.cr sj.last sj.clk now (Nd.step_none hst)
      simp only [nodP, nodPm, nodC, outH, restP, restC]
      repeat' (first | (show WS _ _ _ (.region 0 _ true) _ _; refine WS_drawK [0, 1, 2, 3, 4, 5, 6, 7, 8, 9, 10] 5 [0, 3, 4] (by decide +kernel) rfl ?_) | (refine WS_seqK ?_; intro K hK) | (refine hK _ ?_; clear hK K) | (with_reducible (first | refine thenS_n ?_ | refine thenS_e ?_ | refine blockS_n ?_ | refine blockS_e ?_ | refine blockS_o rfl ?_ | refine thenS_r ?_ | refine blockS_r ?_ | refine use_K (by assumption) ?_)) | refine WS_region ?_ | refine LS_nil ?_ | (first | refine DL_nilA ?_ | refine DL_nilS ?_ | refine DL_nilN ?_ | refine DL_nilE ?_ | refine DL_nilR ?_) | (first | refine DL_claimS rfl ?_ | refine DL_claim rfl rfl ?_) | ((first | refine' LQ ?zh rfl ?_ | refine' DL_qp rfl rfl rfl ?zh ?_ | refine' DL_q rfl rfl ?zh ?_); case zh => intro F'; first | exact Q_move rfl | exact Q_assign rfl | exact Q_nilCheck rfl | exact Q_fieldAddr rfl iI rfl | exact Q_load rfl iI iI rfl | exact Q_extract rfl rfl | exact Q_un rfl iI) | (first | refine WS_block ?_ | refine WS_skip ?_ | refine WS_ret ?_ | refine WS_exit ?_ | refine WS_label ?_) | (show WS _ _ _ (.cond _ _ _) _ _; first | refine WS_condT rfl iI ?_ | refine WS_condF rfl iI ?_ | refine WS_condH_t rfl (by assumption) ?_ | refine WS_condH_f rfl (by assumption) ?_ | (refine WS_cond rfl ?_ ?_ <;> intro hc <;> (try simp only [decide_eq_true_eq, decide_eq_false_iff_not, Bool.not_eq_eq_eq_not, Bool.not_true, Bool.not_false, Bool.and_eq_true, Bool.or_eq_true, bne_iff_ne, beq_iff_eq, ne_eq, Decidable.not_not] at hc) <;> (try (exfalso; first | contradiction | omega; done)))) | (refine DL_h (H_callX iI rfl p1 iI) rfl rfl rfl ?_; intro x1))
      refine ret_none (.inl rfl) rfl ⟨(), rfl, ?_⟩
      rw [← e, star_assoc (nodA _ _)]
      refine Ent.nod h ?_
      simp only [nodP, nodPm, nodC, outH, restP, restC]
      ((try simp only [star_assoc, emp_star, star_emp]); (repeat' (first | exact Ent.last | refine Ent.take ?_ | refine Ent.nilT ?_ | refine Ent.takeR (by first | rfl | assumption | (simp; done)) ?_ | exact Ent.refl _)))
    | some t =>
      have hR2 := hR.next hst hr.small
      have hdue := (Nd.step_some hst hR.inv hR.noted hR.nowt hr.small).due
      have hT2 : t.ticks m now = s.tick now := by rw [← hT, Nd.ticks, hst]
      obtain ⟨m', rfl⟩ : ∃ m', m = m' + 1 := ⟨m - 1, by omega⟩
      unfold Nd.step at hst
      cases hbn : bestN sj.clk now sj.clk.length with
      | none => rw [hbn] at hst; cases hst
      | some i =>
        rw [hbn] at hst
        simp only at hst
        have p1 := clock_some w0 h.cb h.cr sj.last sj.clk now hbn (by omega)
        generalize (at' sj.clk i).what = wh at *
        have hle : (sj.clk.eraseIdx i).length ≤ sj.clk.length := by rw [List.length_eraseIdx]; split <;> omega
        refine WS_lens fun hsb hwv => ?_
        cases hnm : nmFind sj.srs wh with
        | none =>
          rw [hnm] at hst
          cases hst
          rw [nmFind_k] at hnm
          have hmi : mget (imap h.sb sj.srs) wh = none := mget_zmap_none (key := fun x : Sr => x.name) hsb hnm
          simp only [nodP, nodPm, nodC, outH, restP, restC]
          repeat' (first | (show WS _ _ _ (.region 0 _ true) _ _; refine WS_drawK [0, 1, 2, 3, 4, 5, 6, 7, 8, 9, 10] 5 [0, 3, 4] (by decide +kernel) rfl ?_) | (refine WS_seqK ?_; intro K hK) | (refine hK _ ?_; clear hK K) | (with_reducible (first | refine thenS_n ?_ | refine thenS_e ?_ | refine blockS_n ?_ | refine blockS_e ?_ | refine blockS_o rfl ?_ | refine thenS_r ?_ | refine blockS_r ?_ | refine use_K (by assumption) ?_)) | refine WS_region ?_ | refine LS_nil ?_ | (first | refine DL_nilA ?_ | refine DL_nilS ?_ | refine DL_nilN ?_ | refine DL_nilE ?_ | refine DL_nilR ?_) | (first | refine DL_claimS rfl ?_ | refine DL_claim rfl rfl ?_) | ((first | refine' LQ ?zh rfl ?_ | refine' DL_qp rfl rfl rfl ?zh ?_ | refine' DL_q rfl rfl ?zh ?_); case zh => intro F'; first | exact Q_move rfl | exact Q_assign rfl | exact Q_nilCheck rfl | exact Q_fieldAddr rfl iI rfl | exact Q_load rfl iI iI rfl | exact Q_extract rfl rfl | exact Q_un rfl iI | exact Q_lookup_n rfl rfl iI iI iI iI iI (by assumption)) | ((refine' LQ ?zh rfl ?_); case zh => intro F'; exact Q_bin rfl rfl iI) | (first | refine WS_block ?_ | refine WS_skip ?_ | refine WS_ret ?_ | refine WS_exit ?_ | refine WS_label ?_) | (show WS _ _ _ (.cond _ _ _) _ _; first | refine WS_condT rfl iI ?_ | refine WS_condF rfl iI ?_ | refine WS_condH_t rfl (by assumption) ?_ | refine WS_condH_f rfl (by assumption) ?_ | (refine WS_cond rfl ?_ ?_ <;> intro hc <;> (try simp only [decide_eq_true_eq, decide_eq_false_iff_not, Bool.not_eq_eq_eq_not, Bool.not_true, Bool.not_false, Bool.and_eq_true, Bool.or_eq_true, bne_iff_ne, beq_iff_eq, ne_eq, Decidable.not_not] at hc) <;> (try (exfalso; first | contradiction | omega; done)))) | (refine DL_h (H_callX iI rfl p1 iI) rfl rfl rfl ?_; intro x1))
          refine ⟨m', _, by omega, ⟨_, _, hR2, by omega, hT2, rfl⟩, ⟨rfl, rfl, trivial⟩, rfl, ?_⟩
          refine Ent.nod h ?_
          simp only [nodP, nodPm, nodC, outH, restP, restC]
          ((try simp only [star_assoc, emp_star, star_emp]); (repeat' (first | exact Ent.last | refine Ent.take ?_ | refine Ent.nilT ?_ | refine Ent.takeR (by first | rfl | assumption | (simp; done)) ?_ | exact Ent.refl _)))
        | some k =>
          rw [hnm] at hst
          rw [nmFind_k] at hnm
          simp only at hst
          obtain ⟨x, hx, hxn⟩ := kfind_some hnm
          obtain ⟨b, hb⟩ : ∃ b, h.sb[k]? = some b := ⟨_, List.getElem?_eq_getElem (by rw [hsb]; exact (List.getElem?_eq_some_iff.1 hx).1)⟩
          rw [hx] at hst
          simp only [Option.some.injEq] at hst
          have hmi : mget (imap h.sb sj.srs) wh = some b := mget_zmap_some (key := fun x : Sr => x.name) hsb hnm hb
          obtain ⟨F1, e1, _⟩ := srs_open gn hsb hb hx
          have htx := texts_le hR.inv x.dest
          have hl1 := hR.last
          have hl2 := hr.last
          have hft : Nd.Fit { sj with clk := sj.clk.eraseIdx i } (Nd.texts { sj with clk := sj.clk.eraseIdx i } x.dest).length.succ.succ.succ := by
            have ks : sj.Step { sj with clk := sj.clk.eraseIdx i } 0 0 := Nd.Step.zero rfl rfl rfl rfl
            have h1 := hr.frames; have h2 := hr.came; have h3 := hr.dropped; have h4 := hr.recs; have h5 := hr.journal
            have h6 : (Nd.texts { sj with clk := sj.clk.eraseIdx i } x.dest).length ≤ 4 := htx.1
            exact Nd.Step.fit (hR.step.trans ks) (by omega) (by omega) (by omega) (by omega) (by omega)
          have p2 := again_spec w0 gn { sj with clk := sj.clk.eraseIdx i } h hx hb (hR.inv.clk _).sr hR.inv.tab.tab hR.inv.order (by have := hR.inv.sent; show sj.sent.length ≤ 100; omega) (by show (sj.clk.eraseIdx i).length ≤ _; omega) (by show 0 ≤ sj.last ∧ sj.last ≤ _; omega) (by have h6 : (Nd.texts { sj with clk := sj.clk.eraseIdx i } x.dest).length ≤ 4 := htx.1; omega) (fun t ht => by have := htx.2 t ht; omega) hft
          rw [hst] at p2
          simp only [nodP, nodPm, nodC, outH, restP, restC, e1, srC] at p2 ⊢
          repeat' (first | (show WS _ _ _ (.region 0 _ true) _ _; refine WS_drawK [0, 1, 2, 3, 4, 5, 6, 7, 8, 9, 10] 5 [0, 3, 4] (by decide +kernel) rfl ?_) | (refine WS_seqK ?_; intro K hK) | (refine hK _ ?_; clear hK K) | (with_reducible (first | refine thenS_n ?_ | refine thenS_e ?_ | refine blockS_n ?_ | refine blockS_e ?_ | refine blockS_o rfl ?_ | refine thenS_r ?_ | refine blockS_r ?_ | refine use_K (by assumption) ?_)) | refine WS_region ?_ | refine LS_nil ?_ | (first | refine DL_nilA ?_ | refine DL_nilS ?_ | refine DL_nilN ?_ | refine DL_nilE ?_ | refine DL_nilR ?_) | (first | refine DL_claimS rfl ?_ | refine DL_claim rfl rfl ?_) | ((first | refine' LQ ?zh rfl ?_ | refine' DL_qp rfl rfl rfl ?zh ?_ | refine' DL_q rfl rfl ?zh ?_); case zh => intro F'; first | exact Q_move rfl | exact Q_assign rfl | exact Q_nilCheck rfl | exact Q_fieldAddr rfl iI rfl | exact Q_load rfl iI iI rfl | exact Q_extract rfl rfl | exact Q_un rfl iI | exact Q_lookup_s rfl rfl iI iI iI iI iI (by assumption)) | ((refine' LQ ?zh rfl ?_); case zh => intro F'; exact Q_bin rfl rfl iI) | (first | refine WS_block ?_ | refine WS_skip ?_ | refine WS_ret ?_ | refine WS_exit ?_ | refine WS_label ?_) | (show WS _ _ _ (.cond _ _ _) _ _; first | refine WS_condT rfl iI ?_ | refine WS_condF rfl iI ?_ | refine WS_condH_t rfl (by assumption) ?_ | refine WS_condH_f rfl (by assumption) ?_ | (refine WS_cond rfl ?_ ?_ <;> intro hc <;> (try simp only [decide_eq_true_eq, decide_eq_false_iff_not, Bool.not_eq_eq_eq_not, Bool.not_true, Bool.not_false, Bool.and_eq_true, Bool.or_eq_true, bne_iff_ne, beq_iff_eq, ne_eq, Decidable.not_not] at hc) <;> (try (exfalso; first | contradiction | omega; done)))) | (refine DL_h (H_callX iI rfl p1 iI) rfl rfl rfl ?_; intro x1) | (refine LS_h (H_callB iI rfl rfl p2 iI) rfl ?_; intro x2))
          exact ⟨m', _, by omega, ⟨_, _, hR2, by omega, hT2, rfl⟩, ⟨rfl, rfl, trivial⟩, rfl, by ((try simp only [star_assoc, emp_star, star_emp]); (repeat' (first | exact Ent.last | refine Ent.take ?_ | refine Ent.nilT ?_ | refine Ent.takeR (by first | rfl | assumption | (simp; done)) ?_ | exact Ent.refl _)))⟩
end Go.Proofs.YtapoehkdnglahaaGreat

/- A node from call to call: what holds between two calls. In plain Lean. No program in sight. -/
namespace Go.Proofs.YtapoehkdnglahaaGreat
set_option linter.unusedVariables false
set_option linter.unusedSectionVars false
set_option linter.unusedSimpArgs false
theorem seqOf_some {l : List Rec} {k : Rec} {q : UInt32} (h : seqOf l k = some q) : ∃ r ∈ l, r.norm.key = k := by
  induction l using snocInd generalizing q with
  | nil => cases h
  | snoc l r ih =>
    rw [seqOf_snoc] at h
    by_cases e : r.norm.key = k
    · exact ⟨r, by simp, e⟩
    · rw [if_neg e] at h
      obtain ⟨x, hx, hk⟩ := ih h
      exact ⟨x, by simp [hx], hk⟩
theorem compR_mem {l : List Rec} {x : Rec} (h : x ∈ compR l) : x.norm = x ∧ ∃ r ∈ l, r.own = x.own ∧ (x.own = false → r.addr = x.addr) := by
  have ho := compR_ino l
  obtain ⟨h1, h2⟩ := (mem_lookR ho).1 h
  rw [lookR_comp] at h2
  obtain ⟨r, hr, hk⟩ := seqOf_some h2
  refine ⟨h1, r, hr, ?_⟩
  obtain ⟨k1, k2⟩ := (Rec.key_eq (Rec.norm_norm r) h1).1 hk
  have e1 : r.norm.own = r.own := rfl
  rw [e1] at k1
  refine ⟨k1, fun hx => ?_⟩
  have : r.norm.addr = r.addr := by show (if r.own then 0 else r.addr) = r.addr; rw [k1, hx]; rfl
  rw [← this]; exact k2
theorem compR_short {l : List Rec} {D : List UInt32} (h : ∀ r ∈ l, r.own = true ∨ r.addr ∈ D) : (compR l).length ≤ D.length + 1 := by
  have ho := compR_ino l
  let f : Rec → Option UInt32 := fun r => if r.own then none else some r.addr
  have hn : ((compR l).map f).Nodup := by
    rw [List.nodup_iff_pairwise_ne] at *
    rw [List.pairwise_map]
    refine (List.Pairwise.and_mem.1 ho.rise).imp ?_
    rintro a b ⟨ha, hb, hlt⟩ e
    have na := ho.norm a ha
    have nb := ho.norm b hb
    have key : a.own = b.own ∧ a.addr = b.addr := by
      simp only [f] at e
      cases hao : a.own <;> cases hbo : b.own <;> simp [hao, hbo] at e
      · exact ⟨rfl, e⟩
      · refine ⟨rfl, ?_⟩
        have e1 : a.norm.addr = 0 := by show (if a.own then 0 else a.addr) = 0; rw [hao]; rfl
        have e2 : b.norm.addr = 0 := by show (if b.own then 0 else b.addr) = 0; rw [hbo]; rfl
        rw [na] at e1; rw [nb] at e2
        rw [e1, e2]
    exact lt_key na nb hlt ((Rec.key_eq na nb).2 key)
  have hs : ∀ x ∈ (compR l).map f, x ∈ none :: D.map some := by
    intro x hx
    obtain ⟨r, hr, rfl⟩ := List.mem_map.1 hx
    obtain ⟨_, r', hr', k1, k2⟩ := compR_mem hr
    simp only [f]
    cases hro : r.own with
    | true => simp
    | false =>
      rcases h r' hr' with h' | h'
      · rw [k1, hro] at h'; cases h'
      · rw [k2 hro] at h'; simp [h']
  have := List.Nodup.length_le_of_subset hn hs
  simpa using this
/-! ### Calls -/
def Nd.tickF (s : Nd) (now : UInt64) : Nd := ((s.begin now).tick now).done
def Nd.rcvF (s : Nd) (now : UInt64) (src : UInt32) (f : Str) : Nd := ((s.begin now).rcv now src f).done
def Nd.brkF (s : Nd) (now : UInt64) (nb : UInt32) : Nd := ((s.begin now).brk nb).done
def Nd.sendF (s : Nd) (now : UInt64) (d : UInt32) (t : Str) : Nd := ((s.begin now).sendT d t).done
/-- What holds between two calls; c: how often it was asked to send, or told the time. -/
structure Nd.Rest (s : Nd) (c : Nat) : Prop where
  inv : s.Inv
  recs : s.recs.length ≤ 24
  names : 0 ≤ s.names ∧ s.names ≤ c
  clk : s.clk.length ≤ c
  last : 0 ≤ s.last ∧ s.last ≤ c * 10000
theorem Nd.Inv.begin {s : Nd} (h : s.Inv) (now : UInt64) : (s.begin now).Inv := by
  unfold Nd.begin
  refine Nd.Inv.note ?_
  exact h.to (h.tab.exp now) rfl rfl h.order rfl h.sent rfl (fun d hd => by rw [dests_exp]; exact hd)
theorem Nd.begin_noted {s : Nd} (h : s.Inv) (now : UInt64) : (s.begin now).Noted := Nd.note_noted _ (h.tab.exp now).tab
theorem Nd.begin_same (s : Nd) (now : UInt64) : (s.begin now).now = now ∧ (s.begin now).clk = s.clk ∧ (s.begin now).last = s.last ∧ (s.begin now).names = s.names ∧ (s.begin now).wait = s.wait ∧ (s.begin now).srs = s.srs := by
  have h := Nd.Same.note { s with now := now, out := OutD.zero, ls := expT now s.ls }
  exact ⟨h.now, h.clk, h.last, h.names, h.wait, h.srs⟩
theorem listT_le8 {s : Nd} (h : s.Inv) : (listT s.ls).length ≤ 8 := Nat.le_trans (listT_length _) h.tab.tab.short
theorem Nd.Rest.ready {s : Nd} {c : Nat} (h : s.Rest c) (hc : c ≤ 8500) {now : UInt64} (hn : now.toNat ≤ 4611686018427387904) : (s.begin now).Ready now := by
  obtain ⟨e1, e2, e3, e4, e5, e6⟩ := s.begin_same now
  have h1 := Nd.begin_recs s now h.inv.tab.tab
  have h2 := Nd.begin_jour s now h.inv.tab.tab
  have h3 := h.recs
  have h4 := h.clk
  have h5 := h.last
  exact ⟨h.inv.begin now, Nd.begin_noted h.inv now, e1, hn, by rw [e2]; omega, by rw [e3]; omega, by rw [Nd.begin_frames]; simp, by rw [Nd.begin_came]; simp, by rw [Nd.begin_dropped]; simp, by omega, by omega⟩
/-- What is done around a call keeps what holds. -/
theorem Nd.done_keep {s : Nd} (h : s.Inv) : s.done.Inv ∧ s.done.recs.length ≤ 24 ∧ s.done.clk = s.clk ∧ s.done.last = s.last ∧ s.done.names = s.names := by
  have hn := h.note
  have hm := Nd.Same.note s
  unfold Nd.done
  split
  · refine ⟨?_, ?_, hm.clk, hm.last, hm.names⟩
    · refine ⟨hn.tab, ⟨hn.sr.dests, hn.sr.names, hn.sr.each⟩, hn.order, hn.wait, hn.sent, fun r hr => ?_⟩
      obtain ⟨_, r', hr', k1, k2⟩ := compR_mem hr
      rcases hn.recs r' hr' with h' | h'
      · exact .inl (k1 ▸ h')
      · cases hro : r.own with
        | true => exact .inl rfl
        | false => exact .inr (k2 hro ▸ h')
    · have := compR_short hn.recs
      have h8 := hn.tab.tab.short
      simp only [dests, List.length_map] at this
      show (compR s.note.recs).length ≤ 24
      omega
  · exact ⟨hn, by omega, hm.clk, hm.last, hm.names⟩
/-- A call that does not begin a search, and is not told the time. -/
structure Nd.Still (s t : Nd) : Prop where
  clk : t.clk = s.clk
  last : t.last = s.last
  names : t.names = s.names
theorem Nd.Rest.still {s t : Nd} {c : Nat} {now : UInt64} (h : s.Rest c) (hi : t.Inv) (hs : (s.begin now).Still t) : t.done.Rest c := by
  obtain ⟨k1, k2, k3, k4, k5⟩ := Nd.done_keep hi
  obtain ⟨e1, e2, e3, e4, e5, e6⟩ := s.begin_same now
  exact ⟨k1, k2, by rw [k5, hs.names, e4]; exact h.names, by rw [k3, hs.clk, e2]; exact h.clk, by rw [k4, hs.last, e3]; exact h.last⟩
theorem Nd.Still.rfl' (s : Nd) : s.Still s := ⟨rfl, rfl, rfl⟩
theorem Nd.Still.trans {s t u : Nd} (h : s.Still t) (k : t.Still u) : s.Still u := ⟨k.clk.trans h.clk, k.last.trans h.last, k.names.trans h.names⟩
theorem Nd.Still.remember (s : Nd) (r : Rq) : s.Still (s.remember r) := by
  unfold Nd.remember
  dsimp only
  split <;> exact ⟨rfl, rfl, rfl⟩
theorem Nd.Still.answer (s : Nd) (p : Pk) : s.Still (s.answer p) := by
  unfold Nd.answer
  split <;> exact ⟨rfl, rfl, rfl⟩
theorem Nd.Still.req3 (s : Nd) (p : Pk) : s.Still (s.req3 p) := by
  unfold Nd.req3
  repeat' split
  all_goals exact ⟨rfl, rfl, rfl⟩
theorem Nd.Still.req2 (s : Nd) (p : Pk) : s.Still (s.req2 p) := by
  unfold Nd.req2
  split
  · have := fun q => Nd.Still.answer { s with seq := q }
    exact ⟨(this _ _).clk, (this _ _).last, (this _ _).names⟩
  · split
    · split
      · have := fun l => Nd.Still.answer { s with ls := l }
        exact ⟨(this _ _).clk, (this _ _).last, (this _ _).names⟩
      · exact Nd.Still.req3 _ _
    · exact Nd.Still.req3 _ _
theorem Nd.Still.drop (s : Nd) (k : Int) : s.Still (s.drop k) := ⟨rfl, rfl, rfl⟩
theorem Nd.Still.send (s : Nd) (to : UInt32) (p : Pk) : s.Still (s.send to p) := ⟨rfl, rfl, rfl⟩
theorem Nd.Still.ls (s : Nd) (l : List Ln) : s.Still { s with ls := l } := ⟨rfl, rfl, rfl⟩
theorem Nd.Still.req (s : Nd) (src : UInt32) (p : Pk) : s.Still (s.req src p) := by
  unfold Nd.req
  split
  · exact ⟨rfl, rfl, rfl⟩
  · simp only
    have h1 := Nd.Still.remember s ⟨p.from_, p.id⟩
    generalize s.remember ⟨p.from_, p.id⟩ = s1 at *
    split
    · exact h1.trans ⟨rfl, rfl, rfl⟩
    · exact h1.trans ((Nd.Still.ls s1 _).trans (Nd.Still.req2 _ _))
theorem Nd.Still.flush (s : Nd) (d : UInt32) : s.Still (s.flush d) := by
  obtain ⟨h1, h2, h3⟩ := Nd.flush_eqs s d
  exact ⟨h1, h2, h3⟩
theorem Nd.Still.lost (s : Nd) (l : List (UInt32 × UInt32)) : s.Still (s.lost l) := by
  unfold Nd.lost
  split <;> exact ⟨rfl, rfl, rfl⟩
theorem Nd.Still.los (s : Nd) (src : UInt32) (p : Pk) : s.Still (s.los src p) := by
  have h := (Nd.Still.ls s (loseAll src s.ls p.lost).1).trans (Nd.Still.lost _ (loseAll src s.ls p.lost).2.1)
  unfold Nd.los
  simp only
  split
  · exact h
  · exact h.trans ⟨rfl, rfl, rfl⟩
theorem Nd.Still.dat (s : Nd) (src : UInt32) (p : Pk) : s.Still (s.dat src p) := by
  unfold Nd.dat
  repeat' split
  all_goals exact ⟨rfl, rfl, rfl⟩
theorem Nd.Still.rep (s : Nd) (src : UInt32) (p : Pk) : s.Still (s.rep src p) := by
  unfold Nd.rep
  split
  · exact Nd.Still.drop _ _
  · simp only
    split
    · exact (Nd.Still.ls s _).trans (Nd.Still.drop _ _)
    · split
      · have h2 : ∀ l : List Ln, s.Still (if (lookT l p.dest s.now).isSome then Nd.flush { s with ls := l } p.dest else { s with ls := l }) := fun l => by
          split
          · exact (Nd.Still.ls s l).trans (Nd.Still.flush _ _)
          · exact Nd.Still.ls s l
        split
        · exact (h2 _).trans (Nd.Still.drop _ _)
        · exact h2 _
      · split
        · split <;> exact (Nd.Still.ls s _).trans (Nd.Still.drop _ _)
        · split
          · exact (Nd.Still.ls s _).trans (Nd.Still.drop _ _)
          · exact ((Nd.Still.ls s _).trans (Nd.Still.send _ _ _)).trans (Nd.Still.ls _ _)
theorem Nd.Still.handle (s : Nd) (src : UInt32) (p : Pk) : s.Still (s.handle src p) := by
  unfold Nd.handle
  repeat' split
  · exact Nd.Still.req _ _ _
  · exact Nd.Still.rep _ _ _
  · exact Nd.Still.los _ _ _
  · exact Nd.Still.dat _ _ _
theorem Nd.Still.rcv (s : Nd) (now : UInt64) (src : UInt32) (f : Str) : s.Still (s.rcv now src f) := by
  have hq : s.Still (s.rcvQ now src f) := by
    unfold Nd.rcvQ
    split
    · exact Nd.Still.drop _ _
    · split
      · exact Nd.Still.drop _ _
      · split
        · constructor <;> simp only [Nd.drop, Nd.tell, Nd.send]
        · exact Nd.Still.drop _ _
  unfold Nd.rcv
  split
  · exact hq
  · split
    · exact hq
    · exact Nd.Still.handle _ _ _
theorem Nd.Rest.tick {s : Nd} {c : Nat} (h : s.Rest c) (hc : c ≤ 8500) {now : UInt64} (hn : now.toNat ≤ 4611686018427387904) : (s.tickF now).Rest (c + 1) := by
  have hr := h.ready hc hn
  obtain ⟨i, hi, hR⟩ := Nd.tick_run hr
  obtain ⟨k1, k2, k3, k4, k5⟩ := Nd.done_keep hR.inv
  obtain ⟨e1, e2, e3, e4, e5, e6⟩ := s.begin_same now
  have h1 := hR.clk; have h2 := hR.last; have h3 := hR.names
  have h4 := h.names; have h5 := h.clk; have h6 := h.last
  rw [e2] at h1 hi
  rw [e3] at h2
  rw [e4] at h3
  unfold Nd.tickF
  exact ⟨k1, k2, by rw [k5, h3]; omega, by rw [k3]; omega, by rw [k4]; omega⟩
theorem Nd.Rest.brk {s : Nd} {c : Nat} (h : s.Rest c) (now : UInt64) (nb : UInt32) : (s.brkF now nb).Rest c := by
  refine h.still (now := now) ((h.inv.begin now).brk nb) ?_
  exact (Nd.Still.ls _ _).trans (Nd.Still.lost _ _)
theorem Pk.dec_read {f : Str} {p : Pk} (h : Pk.dec f = some p) : p.Read := by
  obtain ⟨⟨⟨h1, h2, h3, h4, h5, h6⟩, hk⟩, _⟩ := Pk.dec_some h
  exact ⟨⟨h1, h2⟩, by unfold i64R; rcases hk with hk | hk | hk | hk <;> (rw [hk.1]; decide), ⟨h3, h4⟩, by omega, by omega⟩
theorem Nd.Rest.rcv {s : Nd} {c : Nat} (h : s.Rest c) (now : UInt64) (src : UInt32) (f : Str) : (s.rcvF now src f).Rest c := by
  refine h.still (now := now) ?_ (Nd.Still.rcv _ _ _ _)
  have hb := h.inv.begin now
  unfold Nd.rcv
  split
  · exact hb.rcvQ _ _ _
  · rename_i p hp
    split
    · exact hb.rcvQ _ _ _
    · exact hb.handle _ _ (Pk.dec_read hp).hops
end Go.Proofs.YtapoehkdnglahaaGreat

/- A node is asked to send: what it keeps. In plain Lean. No program in sight. -/
namespace Go.Proofs.YtapoehkdnglahaaGreat
set_option linter.unusedVariables false
set_option linter.unusedSectionVars false
set_option linter.unusedSimpArgs false
theorem mset_mem' {κ ν : Type} [DecidableEq κ] {m : List (κ × ν)} {k : κ} {v : ν} {p : κ × ν} (h : p ∈ mset m k v) : p ∈ m ∨ p = (k, v) := by
  unfold mset at h
  split at h
  · exact List.mem_or_eq_of_mem_set h
  · rcases List.mem_append.1 h with h | h
    · exact .inl h
    · simp at h; exact .inr h
theorem Nd.Inv.put {s : Nd} (h : s.Inv) (d : UInt32) (l : List Str) (hl : l.length ≤ 4) (ht : ∀ t ∈ l, t.length ≤ 16) : Nd.Inv { s with wait := mset s.wait d l } := ⟨h.tab, ⟨h.sr.dests, h.sr.names, h.sr.each⟩, h.order, fun w hw => by
  rcases mset_mem' hw with hw | rfl
  · exact h.wait w hw
  · exact ⟨hl, ht⟩, h.sent, h.recs⟩
/-- Room is made for a text. -/
def Nd.roomFor (s : Nd) (d : UInt32) : Nd := if (s.texts d).length = 4 then Nd.drop { s with wait := mset s.wait d ((s.texts d).drop 1) } 6 else s
/-- A text waits. -/
def Nd.put (s : Nd) (d : UInt32) (t : Str) : Nd := { s with wait := mset s.wait d (s.texts d ++ [t]) }
/-- A search begins. -/
def Nd.begins (s : Nd) (d : UInt32) : Nd := Nd.ask (s.newSr d) s.srs.length ⟨d, 1, 0, false, s.names + 1⟩
theorem Nd.sendT_eq (s : Nd) (d : UInt32) (t : Str) : s.sendT d t = if (lookT s.ls d s.now).isSome then s.hand d t else match srFind ((s.roomFor d).put d t).srs d with
  | some _ => (s.roomFor d).put d t
  | none => ((s.roomFor d).put d t).begins d := rfl
theorem Nd.roomFor_texts (s : Nd) (d : UInt32) (h : (s.texts d).length ≤ 4) : ((s.roomFor d).texts d).length ≤ 3 ∧ ∀ t ∈ (s.roomFor d).texts d, t ∈ s.texts d := by
  unfold Nd.roomFor
  split
  · rename_i h4
    have e : Nd.texts (Nd.drop { s with wait := mset s.wait d ((s.texts d).drop 1) } 6) d = (s.texts d).drop 1 := by
      show (mget (mset s.wait d ((s.texts d).drop 1)) d).getD [] = _
      rw [mget_mset, if_pos rfl]; rfl
    rw [e]
    exact ⟨by simp; omega, fun t ht => List.mem_of_mem_drop ht⟩
  · exact ⟨by omega, fun t ht => ht⟩
theorem Nd.Inv.roomFor {s : Nd} (h : s.Inv) (d : UInt32) : (s.roomFor d).Inv := by
  obtain ⟨h1, h2⟩ := texts_le h d
  unfold Nd.roomFor
  split
  · exact (h.put d _ (by simp; omega) (fun t ht => h2 t (List.mem_of_mem_drop ht))).drop _
  · exact h
theorem Nd.Inv.put' {s : Nd} (h : s.Inv) (d : UInt32) (t : Str) (hl : (s.texts d).length ≤ 3) (ht : t.length ≤ 16) : (s.put d t).Inv := by
  obtain ⟨h1, h2⟩ := texts_le h d
  refine Nd.Inv.put h d _ (by simp; omega) fun x hx => ?_
  rcases List.mem_append.1 hx with hx | hx
  · exact h2 x hx
  · simp at hx; subst hx; exact ht
theorem Nd.newSr_get (s : Nd) (d : UInt32) : (s.newSr d).srs[s.srs.length]? = some ⟨d, 1, 0, false, s.names + 1⟩ := by simp [Nd.newSr]
theorem Nd.Inv.begins {s : Nd} (h : s.Inv) (d : UInt32) (hd : srFind s.srs d = none) (h0 : 0 ≤ s.names) : (s.begins d).Inv := by
  unfold Nd.begins
  exact (h.newSr d hd h0).ask (s.newSr_get d)
theorem Nd.roomFor_eqs (s : Nd) (d : UInt32) : (s.roomFor d).names = s.names ∧ (s.roomFor d).clk = s.clk ∧ (s.roomFor d).last = s.last ∧ (s.roomFor d).srs = s.srs ∧ (s.roomFor d).now = s.now ∧ (s.roomFor d).ls = s.ls ∧ (s.roomFor d).self = s.self ∧ (s.roomFor d).held = s.held ∧ (s.roomFor d).silent = s.silent ∧ (s.roomFor d).sent = s.sent ∧ (s.roomFor d).seq = s.seq ∧ (s.roomFor d).out.frames = s.out.frames ∧ (s.roomFor d).recs = s.recs := by
  unfold Nd.roomFor
  split <;> exact ⟨rfl, rfl, rfl, rfl, rfl, rfl, rfl, rfl, rfl, rfl, rfl, rfl, rfl⟩
theorem Nd.Inv.sendT {s : Nd} (h : s.Inv) (d : UInt32) (t : Str) (ht : t.length ≤ 16) (h0 : 0 ≤ s.names) : (s.sendT d t).Inv := by
  rw [Nd.sendT_eq]
  split
  · exact h.hand _ _
  · have h1 := (h.roomFor d).put' d t (Nd.roomFor_texts s d (texts_le h d).1).1 ht
    split
    · exact h1
    · rename_i hs
      exact h1.begins d hs (by show 0 ≤ (s.roomFor d).names; rw [(s.roomFor_eqs d).1]; exact h0)
theorem Nd.Step.roomFor (s : Nd) (d : UInt32) : s.Step (s.roomFor d) 1 0 := by
  unfold Nd.roomFor
  split
  · exact ((Nd.Step.zero (s := s) (t := { s with wait := mset s.wait d ((s.texts d).drop 1) }) rfl rfl rfl rfl).trans (Nd.Step.drop _ _)).le (by omega) (by omega)
  · exact (Nd.Step.zero rfl rfl rfl rfl).le (by omega) (by omega)
theorem Nd.Step.put (s : Nd) (d : UInt32) (t : Str) : s.Step (s.put d t) 0 0 := Nd.Step.zero rfl rfl rfl rfl
theorem Nd.Step.begins (s : Nd) (d : UInt32) : s.Step (s.begins d) 1 (1 + (listT s.ls).length) :=
  ((Nd.Step.zero (s := s) (t := s.newSr d) rfl rfl rfl rfl).trans (Nd.Step.ask (s.newSr d) s.srs.length ⟨d, 1, 0, false, s.names + 1⟩)).le (by omega) (by show 0 + (1 + (listT s.ls).length) ≤ _; omega)
theorem Nd.Step.sendT (s : Nd) (d : UInt32) (t : Str) : s.Step (s.sendT d t) 2 (1 + (listT s.ls).length) := by
  rw [Nd.sendT_eq]
  split
  · exact (Nd.Step.hand _ _ _).le (by omega) (by omega)
  · have h1 := (Nd.Step.roomFor s d).trans (Nd.Step.put _ d t)
    split
    · exact h1.le (by omega) (by omega)
    · have h2 := h1.trans (Nd.Step.begins ((s.roomFor d).put d t) d)
      have e : ((s.roomFor d).put d t).ls = s.ls := (s.roomFor_eqs d).2.2.2.2.2.1
      rw [e] at h2
      exact h2.le (by omega) (by omega)
/-- What a call to send does to the timers. -/
theorem Nd.sendT_clk (s : Nd) (d : UInt32) (t : Str) {now : UInt64} (hn : s.now = now) (hb : now.toNat ≤ 4611686018427387904) : (s.sendT d t).clk.length ≤ s.clk.length + 1 ∧ s.last ≤ (s.sendT d t).last ∧ (s.sendT d t).last ≤ s.last + 1 ∧ s.names ≤ (s.sendT d t).names ∧ (s.sendT d t).names ≤ s.names + 1 := by
  rw [Nd.sendT_eq]
  split
  · have h := Nd.handAll_eqs s d [t]
    simp only [Nd.handAll, List.foldl_cons, List.foldl_nil] at h
    rw [h.1, h.2.1, h.2.2]
    omega
  · obtain ⟨e1, e2, e3, e4, e5, _⟩ := s.roomFor_eqs d
    split
    · show (s.roomFor d).clk.length ≤ _ ∧ _ ≤ (s.roomFor d).last ∧ (s.roomFor d).last ≤ _ ∧ _ ≤ (s.roomFor d).names ∧ (s.roomFor d).names ≤ _
      rw [e1, e2, e3]
      omega
    · have hM := Nd.ask_more (((s.roomFor d).put d t).newSr d) ((s.roomFor d).put d t).srs.length ⟨d, 1, 0, false, ((s.roomFor d).put d t).names + 1⟩ (by simp) (now := now) (by show (s.roomFor d).now = now; rw [e5, hn]) hb
      obtain ⟨⟨E, m1, m2, m3, m4⟩, m5⟩ := hM
      have c1 : (((s.roomFor d).put d t).newSr d).clk = s.clk := e2
      have c2 : (((s.roomFor d).put d t).newSr d).last = s.last := e3
      have c3 : (((s.roomFor d).put d t).newSr d).names = s.names + 1 := by show (s.roomFor d).names + 1 = _; rw [e1]
      rw [c1] at m1
      rw [c2] at m4
      rw [c3] at m5
      unfold Nd.begins
      rw [m1, m4, m5, List.length_append]
      omega
theorem Nd.Rest.send {s : Nd} {c : Nat} (h : s.Rest c) {now : UInt64} (hn : now.toNat ≤ 4611686018427387904) (d : UInt32) (t : Str) (ht : t.length ≤ 16) : (s.sendF now d t).Rest (c + 1) := by
  obtain ⟨e1, e2, e3, e4, e5, e6⟩ := s.begin_same now
  have hi := (h.inv.begin now).sendT d t ht (by rw [e4]; exact h.names.1)
  obtain ⟨k1, k2, k3, k4, k5⟩ := Nd.done_keep hi
  obtain ⟨h1, h2, h3, h4, h5⟩ := Nd.sendT_clk (s.begin now) d t e1 hn
  have g1 := h.names; have g2 := h.clk; have g3 := h.last
  rw [e2] at h1
  rw [e3] at h2 h3
  rw [e4] at h4 h5
  unfold Nd.sendF
  exact ⟨k1, k2, by rw [k5]; omega, by rw [k3]; omega, by rw [k4]; omega⟩
/-- What was left out of the journal's numbers: none. -/
theorem Nd.Step.sendT8 {s : Nd} (h : s.Inv) (d : UInt32) (t : Str) : s.Step (s.sendT d t) 2 9 := (Nd.Step.sendT s d t).le (Nat.le_refl _) (by have := listT_le8 h; omega)
theorem Nd.done_same (s : Nd) : s.done.self = s.self ∧ s.done.ls = s.ls ∧ s.done.silent = s.silent ∧ s.done.srs = s.srs ∧ s.done.sent = s.sent ∧ s.done.seq = s.seq ∧ s.done.last = s.last ∧ s.done.out.frames = s.out.frames ∧ s.done.wait = s.wait ∧ s.done.now = s.now ∧ s.done.seen = s.seen ∧ s.done.order = s.order ∧ s.done.clk = s.clk ∧ s.done.names = s.names ∧ s.done.ids = s.ids ∧ s.done.datas = s.datas ∧ s.done.out.came = s.out.came ∧ s.done.out.dropped = s.out.dropped := by
  have m := Nd.Same.note s
  unfold Nd.done
  split <;> exact ⟨m.self, m.ls, m.silent, m.srs, m.sent, m.seq, m.last, m.frames, m.wait, m.now, m.seen, m.order, m.clk, m.names, m.ids, m.datas, m.came, m.dropped⟩
theorem Nd.Rest.mono {s : Nd} {c d : Nat} (h : s.Rest c) (hd : c ≤ d) : s.Rest d := ⟨h.inv, h.recs, ⟨h.names.1, by have := h.names.2; omega⟩, by have := h.clk; omega, ⟨h.last.1, by have := h.last.2; omega⟩⟩
theorem Nd.tickF_frames {s : Nd} {c : Nat} {now : UInt64} (h : s.Rest c) (hc : c ≤ 8500) (hn : now.toNat ≤ 4611686018427387904) : (s.tickF now).out.frames.length ≤ 42500 := by
  have hR := h.ready hc hn
  obtain ⟨i, hi, hT⟩ := Nd.tick_run hR
  have h1 := hT.step.frames
  have h2 := hR.clk
  rw [Nd.begin_frames] at h1
  obtain ⟨_, _, _, _, _, _, _, e8, _⟩ := ((s.begin now).tick now).done_same
  unfold Nd.tickF
  rw [e8]
  simp at h1
  omega
theorem Nd.sendF_frames (s : Nd) (now : UInt64) (d : UInt32) (t : Str) : (s.sendF now d t).out.frames.length ≤ 2 := by
  have h1 := (Nd.Step.sendT (s.begin now) d t).frames
  rw [Nd.begin_frames] at h1
  obtain ⟨_, _, _, _, _, _, _, e8, _⟩ := ((s.begin now).sendT d t).done_same
  unfold Nd.sendF
  rw [e8]
  simpa using h1
/-! ### A new node -/
theorem Nd.booted_inv (self : UInt32) (b : List UInt8) (now : UInt64) : (Nd.booted self b now).Inv := by
  unfold Nd.booted
  split
  · exact ⟨LnsOk.new _ _, ⟨List.nodup_nil, List.nodup_nil, fun x hx => (by cases hx)⟩, (by simp [Nd.blank]), fun w hw => (by cases hw), (by simp [Nd.blank]), fun r hr => (by cases hr)⟩
  · exact ⟨LnsOk.nil, ⟨List.nodup_nil, List.nodup_nil, fun x hx => (by cases hx)⟩, (by simp [Nd.blank]), fun w hw => (by cases hw), (by simp [Nd.blank]), fun r hr => (by cases hr)⟩
theorem Nd.new_same (self : UInt32) (b : List UInt8) (now : UInt64) : (Nd.booted self b now).Same (Nd.new self b now) := (Nd.Same.write _ _).trans (Nd.Same.note _)
theorem Nd.new_rest (self : UInt32) (b : List UInt8) (now : UInt64) : (Nd.new self b now).Rest 0 := by
  have h0 := Nd.booted_inv self b now
  have h1 := h0.write ⟨true, 0, (Nd.booted self b now).seq⟩ (.inl rfl)
  have m := Nd.new_same self b now
  have hr := Nd.note_recs ((Nd.booted self b now).write ⟨true, 0, (Nd.booted self b now).seq⟩) h1.tab.tab
  have hb : (Nd.booted self b now).recs = [] ∧ (Nd.booted self b now).names = 0 ∧ (Nd.booted self b now).clk = [] ∧ (Nd.booted self b now).last = 0 := by
    unfold Nd.booted
    split <;> exact ⟨rfl, rfl, rfl, rfl⟩
  obtain ⟨b1, b2, b3, b4⟩ := hb
  have e : ((Nd.booted self b now).write ⟨true, 0, (Nd.booted self b now).seq⟩).recs.length = 1 := by
    show ((Nd.booted self b now).recs ++ [_]).length = 1
    rw [b1]; rfl
  rw [e] at hr
  refine ⟨?_, ?_, ?_, ?_, ?_⟩
  · exact h1.note
  · show (Nd.note _).recs.length ≤ 24
    omega
  · rw [m.names, b2]; simp
  · rw [m.clk, b3]; simp
  · rw [m.last, b4]; simp
end Go.Proofs.YtapoehkdnglahaaGreat

/- A node that no one answers asks, and not too often: in plain Lean. No program in sight. -/
namespace Go.Proofs.YtapoehkdnglahaaGreat
set_option linter.unusedVariables false
set_option linter.unusedSectionVars false
set_option linter.unusedSimpArgs false
/-! ### When requests went out -/
def last5 (G : List UInt64) : List UInt64 := G.drop (G.length - 5)
theorem last5_snoc (G : List UInt64) (a : UInt64) : trimS (last5 G ++ [a]) = last5 (G ++ [a]) := by
  unfold trimS last5
  by_cases h : G.length < 5
  · rw [if_neg (by simp; omega), show G.length - 5 = 0 by omega, show (G ++ [a]).length - 5 = 0 by simp; omega]
    rfl
  · rw [if_pos (by simp; omega), List.drop_append_of_le_length (by simp; omega), List.drop_drop, List.drop_append_of_le_length (by simp)]
    congr 2
    simp
    omega
/-- Five are never within a second of a sixth. -/
def RateOk (G : List UInt64) : Prop := ∀ (i : Nat) (a b : UInt64), G[i]? = some a → G[i + 5]? = some b → a.toNat + 1000 ≤ b.toNat
def Rises (G : List UInt64) : Prop := ∀ (i j : Nat) (a b : UInt64), i ≤ j → G[i]? = some a → G[j]? = some b → a.toNat ≤ b.toNat
theorem getElem?_snoc {α : Type} {l : List α} {a b : α} {i : Nat} (h : (l ++ [a])[i]? = some b) : (i < l.length ∧ l[i]? = some b) ∨ (i = l.length ∧ b = a) := by
  rcases Nat.lt_trichotomy i l.length with h1 | h1 | h1
  · left; rw [List.getElem?_append_left h1] at h; exact ⟨h1, h⟩
  · right; subst h1; simp at h; exact ⟨rfl, h.symm⟩
  · rw [List.getElem?_eq_none (by simp; omega)] at h; cases h
theorem Rises.snoc {G : List UInt64} {now : UInt64} (h : Rises G) (hu : ∀ a ∈ G, a.toNat ≤ now.toNat) : Rises (G ++ [now]) := by
  intro i j a b hij ha hb
  rcases getElem?_snoc ha with ⟨h1, h2⟩ | ⟨h1, h2⟩ <;> rcases getElem?_snoc hb with ⟨h3, h4⟩ | ⟨h3, h4⟩
  · exact h i j a b hij h2 h4
  · subst h4; exact hu a (List.mem_of_getElem? h2)
  · omega
  · subst h2; subst h4; exact Nat.le_refl _
theorem RateOk.snoc {G : List UInt64} {now : UInt64} (h : RateOk G) (hr : Rises G) (hu : ∀ a ∈ G, a.toNat ≤ now.toNat) (hs : now.toNat ≤ 4611686018427387904) (hb : ¬ 5 ≤ busyN now (last5 G)) : RateOk (G ++ [now]) := by
  intro i a b ha hb2
  rcases getElem?_snoc hb2 with ⟨h3, h4⟩ | ⟨h3, h4⟩
  · rcases getElem?_snoc ha with ⟨h1, h2⟩ | ⟨h1, h2⟩
    · exact h i a b h2 h4
    · omega
  · subst h4
    rcases getElem?_snoc ha with ⟨h1, h2⟩ | ⟨h1, h2⟩
    · rcases Nat.lt_or_ge b.toNat (a.toNat + 1000) with hlt | hge
      · exfalso
        apply hb
        have hall : (last5 G).filter (fun a => decide (b < a + 1000)) = last5 G := List.filter_eq_self.2 fun x hx => by
          have hx' : x ∈ G := List.mem_of_mem_drop hx
          obtain ⟨k, hk⟩ := List.getElem?_of_mem hx
          unfold last5 at hk
          rw [List.getElem?_drop] at hk
          have h5 := hr i (G.length - 5 + k) a x (by omega) h2 hk
          have h6 := hu x hx'
          simp only [decide_eq_true_eq]
          rw [UInt64.lt_iff_toNat_lt, UInt64.toNat_add]
          have : (1000 : UInt64).toNat = 1000 := rfl
          omega
        show 5 ≤ ((last5 G).filter (fun a => decide (b < a + 1000))).length
        rw [hall]
        unfold last5
        simp
        omega
      · exact hge
    · omega
theorem growS_toNat {x : UInt32} (h : x.toNat < 4294967295) : (growS x).toNat = x.toNat + 1 := by
  unfold growS
  have h1 : (x + 1).toNat = x.toNat + 1 := by rw [UInt32.toNat_add]; have : (1 : UInt32).toNat = 1 := rfl; omega
  split
  · rename_i h0; rw [h0] at h1; have : (0 : UInt32).toNat = 0 := rfl; omega
  · exact h1
/-! ### A node that has heard nothing -/
/-- A request of its own. -/
structure Pk.Asks (p : Pk) (q : Nat) : Prop where
  fits : p.Fits
  kind : p.kind = 1
  src : p.from_ = 1
  seq : p.fromSeq.toNat = q
/-- In a call, behind the first k requests; G: when requests went out. -/
structure Nd.Al (s : Nd) (now : UInt64) (k : Nat) (G : List UInt64) : Prop where
  self : s.self = 1
  ls : s.ls = []
  silent : s.silent = 0
  nowt : s.now = now
  ttl : ∀ x ∈ s.srs, 1 ≤ x.ttl ∧ x.ttl ≤ 8
  sent : s.sent = last5 G
  seq : s.seq.toNat = 1 + G.length
  many : (G.length : Int) ≤ s.last
  rate : RateOk G
  rises : Rises G
  upto : ∀ a ∈ G, a.toNat ≤ now.toNat
  frames : ∃ ps : List Pk, s.out.frames = ps.map (fun p => ((0 : UInt32), p.out)) ∧ k + ps.length = G.length ∧ ∀ (j : Nat) p, ps[j]? = some p → p.Asks (2 + k + j)
  news : ∀ j, k ≤ j → j < G.length → G[j]? = some now
theorem Nd.Al.to {s t : Nd} {now : UInt64} {k : Nat} {G : List UInt64} (h : s.Al now k G) (h1 : t.self = s.self) (h2 : t.ls = s.ls) (h3 : t.silent = s.silent) (h4 : t.now = s.now) (h5 : ∀ x ∈ t.srs, 1 ≤ x.ttl ∧ x.ttl ≤ 8) (h6 : t.sent = s.sent) (h7 : t.seq = s.seq) (h8 : s.last ≤ t.last) (h9 : t.out.frames = s.out.frames) : t.Al now k G :=
  ⟨h1.trans h.self, h2.trans h.ls, h3.trans h.silent, h4.trans h.nowt, h5, h6.trans h.sent, by rw [h7]; exact h.seq, Int.le_trans h.many h8, h.rate, h.rises, h.upto, by rw [h9]; exact h.frames, h.news⟩
theorem Nd.Al.same {s t : Nd} {now : UInt64} {k : Nat} {G : List UInt64} (h : s.Al now k G) (m : s.Same t) : t.Al now k G :=
  h.to m.self m.ls m.silent m.now (by rw [m.srs]; exact h.ttl) m.sent m.seq (by rw [m.last]; exact Int.le_refl _) m.frames
theorem mem_modify {α : Type} {l : List α} {k : Nat} {f : α → α} {x : α} (h : x ∈ l.modify k f) : x ∈ l ∨ ∃ y ∈ l, x = f y := by
  obtain ⟨i, hi⟩ := List.getElem?_of_mem h
  rw [List.getElem?_modify] at hi
  cases hl : l[i]? with
  | none => rw [hl] at hi; simp at hi
  | some y =>
    rw [hl] at hi
    have hy := List.mem_of_getElem? hl
    have hi : (if k = i then f y else y) = x := by simpa using hi
    split at hi
    · exact .inr ⟨y, hy, hi.symm⟩
    · exact .inl (by rw [← hi]; exact hy)
theorem Nd.Al.setOut {s : Nd} {now : UInt64} {k : Nat} {G : List UInt64} (h : s.Al now k G) (i : Nat) (b : Bool) : (s.setOut i b).Al now k G :=
  h.to rfl rfl rfl rfl (fun x hx => by
    rcases mem_modify hx with hx | ⟨y, hy, rfl⟩
    · exact h.ttl x hx
    · exact h.ttl y hy) rfl rfl (Int.le_refl _) rfl
theorem Nd.Al.drop {s : Nd} {now : UInt64} {k : Nat} {G : List UInt64} (h : s.Al now k G) (r : Int) : (s.drop r).Al now k G := h.to rfl rfl rfl rfl h.ttl rfl rfl (Int.le_refl _) rfl
theorem Nd.Al.arm {s : Nd} {now : UInt64} {k : Nat} {G : List UInt64} (h : s.Al now k G) (i : Int) (w : UInt64) : (s.arm i w).Al now k G := h.to rfl rfl rfl rfl h.ttl rfl rfl (by show s.last ≤ s.last + 1; omega) rfl
/-- What a request changes. -/
theorem Nd.ask1_all (s : Nd) (x : Sr) : (s.ask1 x).self = s.self ∧ (s.ask1 x).ls = s.ls ∧ (s.ask1 x).silent = s.silent ∧ (s.ask1 x).now = s.now ∧ (s.ask1 x).srs = s.srs ∧ (s.ask1 x).sent = trimS (s.sent ++ [s.now]) ∧ (s.ask1 x).seq = growS s.seq ∧ (s.ask1 x).last = s.last ∧
    (s.ask1 x).out.frames = s.out.frames ++ [((0 : UInt32), (⟨x.ttl, 1, 0, (lget s.ls x.dest).isNone, s.ids + 1, x.dest, numT s.ls x.dest, s.self, growS s.seq, 0, [], []⟩ : Pk).out)] := by
  have hm := Nd.Same.note { s with seq := growS s.seq }
  unfold Nd.ask1
  simp only
  generalize Nd.note { s with seq := growS s.seq } = t at *
  obtain ⟨m1, m2, m3, m4, m5, m6, m7, m8, m9, m10, m11, m12, m13, m14, m15, m16, m17, m18, m19⟩ := hm
  simp only at m1 m2 m3 m4 m12 m14 m15 m16 m8 m10
  unfold Nd.remember
  dsimp only
  split <;> (refine ⟨m2, m1, m4, m15, m8, ?_, m3, m10, ?_⟩ <;> simp only [Nd.send, m14, m15, m16, m1, m12, m2, m3])
theorem Nd.Al.asked {s : Nd} {now : UInt64} {k : Nat} {G : List UInt64} (h : s.Al now k G) (x : Sr) (hx : 1 ≤ x.ttl ∧ x.ttl ≤ 8) (hl : s.last ≤ 1000000000) (hs : now.toNat ≤ 4611686018427387904) (hb : ¬ 5 ≤ busyN now s.sent) (i : Int) (w : UInt64) : ((s.ask1 x).arm i w).Al now k (G ++ [now]) := by
  obtain ⟨e1, e2, e3, e4, e5, e6, e7, e8, e9⟩ := s.ask1_all x
  have hm := h.many
  have hq := h.seq
  have hg : (growS s.seq).toNat = s.seq.toNat + 1 := growS_toNat (by omega)
  obtain ⟨ps, p1, p2, p3⟩ := h.frames
  rw [h.ls] at e9
  refine ⟨e1.trans h.self, e2.trans h.ls, e3.trans h.silent, e4.trans h.nowt, ?_, ?_, ?_, ?_, ?_, h.rises.snoc h.upto, ?_, ?_, ?_⟩
  · show ∀ y ∈ (s.ask1 x).srs, _; rw [e5]; exact h.ttl
  · show (s.ask1 x).sent = _; rw [e6, h.sent, h.nowt, last5_snoc]
  · show (s.ask1 x).seq.toNat = _; rw [e7, hg, hq]; simp; omega
  · show _ ≤ (s.ask1 x).last + 1; rw [e8]; simp; omega
  · exact h.rate.snoc h.rises h.upto hs (by rw [← h.sent]; exact hb)
  · intro a ha
    rcases List.mem_append.1 ha with ha | ha
    · exact h.upto a ha
    · simp at ha; subst ha; exact Nat.le_refl _
  · refine ⟨ps ++ [⟨x.ttl, 1, 0, true, s.ids + 1, x.dest, 0, s.self, growS s.seq, 0, [], []⟩], ?_, by simp; omega, ?_⟩
    · show (s.ask1 x).out.frames = _
      rw [e9, p1, List.map_append]
      rfl
    · intro j p hj
      rcases getElem?_snoc hj with ⟨h1, h2⟩ | ⟨h1, h2⟩
      · exact p3 j p h2
      · subst h2
        refine ⟨?_, rfl, h.self, ?_⟩
        · unfold Pk.Fits
          refine ⟨⟨by simp only; omega, by simp only; omega, by simp, by simp, by simp, by simp⟩, .inl ⟨rfl, rfl, rfl, rfl, .inr rfl⟩⟩
        · show (growS s.seq).toNat = _
          omega
  · intro j h1 h2
    rcases Nat.lt_or_ge j G.length with h3 | h3
    · rw [List.getElem?_append_left h3]; exact h.news j h1 h3
    · obtain rfl : j = G.length := by simp at h2; omega
      simp
theorem Nd.Al.ask {s : Nd} {now : UInt64} {k : Nat} {G : List UInt64} (h : s.Al now k G) (i : Nat) (x : Sr) (hx : 1 ≤ x.ttl ∧ x.ttl ≤ 8) (hl : s.last ≤ 1000000000) (hs : now.toNat ≤ 4611686018427387904) : ∃ E : List UInt64, (s.ask i x).Al now k (G ++ E) := by
  unfold Nd.ask
  have h0 : ¬ s.now < s.silent := by rw [h.silent]; exact UInt64.not_lt.2 (UInt64.zero_le)
  rw [if_neg h0]
  split
  · exact ⟨[], by rw [List.append_nil]; exact ((h.setOut _ _).drop _).arm _ _⟩
  · rename_i hb
    rw [h.nowt] at hb
    exact ⟨[now], Nd.Al.asked (h.setOut i true) x hx hl hs hb _ _⟩
theorem Nd.Al.look {s : Nd} {now : UInt64} {k : Nat} {G : List UInt64} (h : s.Al now k G) (d : UInt32) (t : UInt64) : lookT s.ls d t = none := by rw [h.ls]; rfl
theorem Nd.Al.again {s : Nd} {now : UInt64} {k : Nat} {G : List UInt64} (h : s.Al now k G) (i : Nat) (x : Sr) (hx : 1 ≤ x.ttl ∧ x.ttl ≤ 8) (hl : s.last ≤ 1000000000) (hs : now.toNat ≤ 4611686018427387904) : ∃ E : List UInt64, (s.again i x).Al now k (G ++ E) := by
  unfold Nd.again
  rw [h.look]
  simp only
  split
  · split
    · rename_i y hy
      have hy' : 1 ≤ y.ttl ∧ y.ttl ≤ 8 := by
        unfold Sr.further at hy
        repeat' split at hy
        all_goals (cases hy <;> simp only <;> omega)
      refine Nd.Al.ask (s := { s with srs := s.srs.set i y }) (h.to rfl rfl rfl rfl (fun z hz => ?_) rfl rfl (Int.le_refl _) rfl) i y hy' hl hs
      rcases List.mem_or_eq_of_mem_set hz with hz | rfl
      · exact h.ttl z hz
      · exact hy'
    · refine ⟨[], ?_⟩
      rw [List.append_nil]
      refine h.to rfl rfl rfl rfl (fun z hz => h.ttl z ((List.eraseIdx_sublist _ _).subset hz)) rfl rfl (Int.le_refl _) rfl
  · exact h.ask i x hx hl hs
theorem Nd.Al.step {s t : Nd} {now : UInt64} {k : Nat} {G : List UInt64} (h : s.Al now k G) (hst : s.step now = some t) (hl : s.last ≤ 1000000000) (hs : now.toNat ≤ 4611686018427387904) : ∃ E : List UInt64, t.Al now k (G ++ E) := by
  unfold Nd.step at hst
  have hp : ∀ l : List Tm, Nd.Al { s with clk := l } now k G := fun l => h.to rfl rfl rfl rfl h.ttl rfl rfl (Int.le_refl _) rfl
  split at hst
  · cases hst
  · simp only at hst
    split at hst
    · split at hst
      · rename_i x hx
        cases hst
        exact (hp _).again _ x (h.ttl x (List.mem_of_getElem? hx)) hl hs
      · cases hst
        exact ⟨[], by rw [List.append_nil]; exact hp _⟩
    · cases hst
      exact ⟨[], by rw [List.append_nil]; exact hp _⟩
theorem Nd.Al.ticks {s : Nd} {now : UInt64} {k : Nat} (hr : s.Ready now) (hl : s.last ≤ 900000000) : ∀ (f : Nat) (t : Nd) (j : Nat) (G : List UInt64), s.Run t now j → t.Al now k G → ∃ E : List UInt64, (t.ticks f now).Al now k (G ++ E)
  | 0, t, j, G, _, h => ⟨[], by rw [List.append_nil]; exact h⟩
  | f + 1, t, j, G, hR, h => by
    unfold Nd.ticks
    cases hs : t.step now with
    | none => exact ⟨[], by rw [List.append_nil]; exact h⟩
    | some u =>
      have h1 := hR.last
      have h2 := hR.due
      have h3 := dueN_le now s.clk
      have h4 := hr.clk
      obtain ⟨E, hE⟩ := h.step hs (by omega) hr.small
      obtain ⟨E2, hE2⟩ := Nd.Al.ticks hr hl f u (j + 1) (G ++ E) (hR.next hs hr.small) hE
      exact ⟨E ++ E2, by rw [← List.append_assoc]; exact hE2⟩
/-- Between two calls. -/
structure Nd.Lone (s : Nd) (now : UInt64) (G : List UInt64) : Prop where
  self : s.self = 1
  ls : s.ls = []
  silent : s.silent = 0
  ttl : ∀ x ∈ s.srs, 1 ≤ x.ttl ∧ x.ttl ≤ 8
  sent : s.sent = last5 G
  seq : s.seq.toNat = 1 + G.length
  many : (G.length : Int) ≤ s.last
  rate : RateOk G
  rises : Rises G
  upto : ∀ a ∈ G, a.toNat ≤ now.toNat
theorem Nd.Lone.begin {s : Nd} {t now : UInt64} {G : List UInt64} (h : s.Lone t G) (hn : t.toNat ≤ now.toNat) : (s.begin now).Al now G.length G := by
  have m := Nd.Same.note { s with now := now, out := OutD.zero, ls := expT now s.ls }
  unfold Nd.begin
  refine Nd.Al.same ?_ m
  exact ⟨h.self, by show expT now s.ls = []; rw [h.ls]; rfl, h.silent, rfl, h.ttl, h.sent, h.seq, h.many, h.rate, h.rises, fun a ha => Nat.le_trans (h.upto a ha) hn, ⟨[], rfl, rfl, fun j p hj => by simp at hj⟩, fun j h1 h2 => absurd h2 (by omega)⟩
theorem Nd.Al.done {s : Nd} {now : UInt64} {k : Nat} {G : List UInt64} (h : s.Al now k G) : s.done.Lone now G := by
  obtain ⟨e1, e2, e3, e4, e5, e6, e7, _⟩ := s.done_same
  exact ⟨e1.trans h.self, e2.trans h.ls, e3.trans h.silent, by rw [e4]; exact h.ttl, e5.trans h.sent, by rw [e6]; exact h.seq, by rw [e7]; exact h.many, h.rate, h.rises, h.upto⟩
/-- What a call hands out: E more requests, at now. -/
structure AskedF (now : UInt64) (G : List UInt64) (E : List UInt64) (F : List (UInt32 × Str)) : Prop where
  len : F.length = E.length
  frame : ∀ (j : Nat) f, F[j]? = some f → ∃ p : Pk, f = (0, p.out) ∧ p.Asks (2 + G.length + j)
  news : ∀ a ∈ E, a = now
theorem Nd.Al.asked_ {s : Nd} {now : UInt64} {G E : List UInt64} (h : s.Al now G.length (G ++ E)) : AskedF now G E s.done.out.frames := by
  obtain ⟨_, _, _, _, _, _, _, e8, _⟩ := s.done_same
  obtain ⟨ps, p1, p2, p3⟩ := h.frames
  rw [List.length_append] at p2
  refine ⟨by rw [e8, p1, List.length_map]; omega, fun j f hj => ?_, fun a ha => ?_⟩
  · rw [e8, p1, List.getElem?_map] at hj
    cases hp : ps[j]? with
    | none => rw [hp] at hj; cases hj
    | some p =>
      rw [hp] at hj
      simp only [Option.map_some, Option.some.injEq] at hj
      exact ⟨p, hj.symm, p3 j p hp⟩
  · obtain ⟨i, hi⟩ := List.getElem?_of_mem ha
    have hlt := (List.getElem?_eq_some_iff.1 hi).1
    have h1 := h.news (G.length + i) (by omega) (by rw [List.length_append]; omega)
    rw [List.getElem?_append_right (by omega), show G.length + i - G.length = i by omega, hi] at h1
    exact Option.some.inj h1
theorem Nd.Lone.tick {s : Nd} {c : Nat} {t now : UInt64} {G : List UInt64} (h : s.Lone t G) (hr : s.Rest c) (hc : c ≤ 8500) (hn : now.toNat ≤ 4611686018427387904) (ht : t.toNat ≤ now.toNat) : ∃ E, (s.tickF now).Lone now (G ++ E) ∧ AskedF now G E (s.tickF now).out.frames := by
  have h0 := h.begin ht
  have hR := hr.ready hc hn
  obtain ⟨e1, e2, e3, e4, e5, e6⟩ := s.begin_same now
  have hl := hr.last
  obtain ⟨E, hE⟩ := Nd.Al.ticks hR (by rw [e3]; omega) (dueN now (s.begin now).clk + 1) (s.begin now) 0 G (Nd.Run.zero hR) h0
  exact ⟨E, hE.done, hE.asked_⟩
theorem Nd.Al.sendT {s : Nd} {now : UInt64} {k : Nat} {G : List UInt64} (h : s.Al now k G) (d : UInt32) (t : Str) (hl : s.last ≤ 1000000000) (hs : now.toNat ≤ 4611686018427387904) : ∃ E : List UInt64, (s.sendT d t).Al now k (G ++ E) := by
  obtain ⟨e1, e2, e3, e4, e5, e6, e7, e8, e9, e10, e11, e12, e13⟩ := s.roomFor_eqs d
  have h1 : ((s.roomFor d).put d t).Al now k G := h.to e7 e6 e9 e5 (by show ∀ x ∈ (s.roomFor d).srs, _; rw [e4]; exact h.ttl) e10 e11 (by show s.last ≤ (s.roomFor d).last; rw [e3]; exact Int.le_refl _) e12
  rw [Nd.sendT_eq, h.look]
  simp only [Option.isSome_none, Bool.false_eq_true, if_false]
  split
  · exact ⟨[], by rw [List.append_nil]; exact h1⟩
  · unfold Nd.begins
    refine Nd.Al.ask (s := ((s.roomFor d).put d t).newSr d) (h1.to rfl rfl rfl rfl (fun x hx => ?_) rfl rfl (Int.le_refl _) rfl) _ _ (by simp) (by show (s.roomFor d).last ≤ _; rw [e3]; exact hl) hs
    rcases List.mem_append.1 hx with hx | hx
    · exact h1.ttl x hx
    · simp at hx; subst hx; simp
theorem Nd.Lone.send {s : Nd} {c : Nat} {t now : UInt64} {G : List UInt64} (h : s.Lone t G) (hr : s.Rest c) (hc : c ≤ 8500) (hn : now.toNat ≤ 4611686018427387904) (ht : t.toNat ≤ now.toNat) (d : UInt32) (x : Str) : ∃ E, (s.sendF now d x).Lone now (G ++ E) ∧ AskedF now G E (s.sendF now d x).out.frames := by
  have h0 := h.begin ht
  obtain ⟨e1, e2, e3, e4, e5, e6⟩ := s.begin_same now
  have hl := hr.last
  obtain ⟨E, hE⟩ := h0.sendT d x (by rw [e3]; omega) hn
  exact ⟨E, hE.done, hE.asked_⟩
theorem AskedF.append {now : UInt64} {G E E2 : List UInt64} {F F2 : List (UInt32 × Str)} (h : AskedF now G E F) (k : AskedF now (G ++ E) E2 F2) : AskedF now G (E ++ E2) (F ++ F2) := by
  have h1 := h.len
  refine ⟨by simp [h.len, k.len], fun j f hj => ?_, fun a ha => ?_⟩
  · rcases Nat.lt_or_ge j F.length with hlt | hge
    · rw [List.getElem?_append_left hlt] at hj
      exact h.frame j f hj
    · rw [List.getElem?_append_right hge] at hj
      obtain ⟨p, p1, p2⟩ := k.frame _ f hj
      exact ⟨p, p1, by rw [show 2 + G.length + j = 2 + (G ++ E).length + (j - F.length) by rw [List.length_append]; omega]; exact p2⟩
  · rcases List.mem_append.1 ha with ha | ha
    · exact h.news a ha
    · exact k.news a ha
theorem AskedF.nil (now : UInt64) (G : List UInt64) : AskedF now G [] [] := ⟨rfl, fun j f hj => by simp at hj, fun a ha => by cases ha⟩
/-! ### The first request -/
theorem Nd.tickF_idle (s : Nd) (now : UInt64) (h : s.clk = []) : s.tickF now = (s.begin now).done := by
  have e : (s.begin now).clk = [] := (s.begin_same now).2.1.trans h
  have e2 : (s.begin now).tick now = s.begin now := by
    unfold Nd.tick Nd.ticks Nd.step
    rw [e]
    rfl
  unfold Nd.tickF
  rw [e2]
theorem Nd.Al.first {s : Nd} {now : UInt64} {k : Nat} (h : s.Al now k []) (hs : s.srs = []) (d : UInt32) (x : Str) : (s.sendT d x).sent = [now] := by
  obtain ⟨e1, e2, e3, e4, e5, e6, e7, e8, e9, e10, e11, e12, e13⟩ := s.roomFor_eqs d
  have hf : srFind ((s.roomFor d).put d x).srs d = none := by
    have : ((s.roomFor d).put d x).srs = [] := e4.trans hs
    rw [this]; rfl
  rw [Nd.sendT_eq, h.look]
  simp only [Option.isSome_none, Bool.false_eq_true, if_false, hf]
  have hsent : (((s.roomFor d).put d x).newSr d).sent = [] := e10.trans h.sent
  have hnow : (((s.roomFor d).put d x).newSr d).now = now := e5.trans h.nowt
  have hsil : (((s.roomFor d).put d x).newSr d).silent = 0 := e9.trans h.silent
  unfold Nd.begins Nd.ask
  rw [if_neg (by rw [hsil]; exact UInt64.not_lt.2 UInt64.zero_le), hsent, if_neg (by simp [busyN])]
  show (Nd.ask1 _ _).sent = _
  obtain ⟨_, _, _, _, _, a6, _⟩ := ((((s.roomFor d).put d x).newSr d).setOut ((s.roomFor d).put d x).srs.length true).ask1_all ⟨d, 1, 0, false, ((s.roomFor d).put d x).names + 1⟩
  rw [a6]
  show trimS ((((s.roomFor d).put d x).newSr d).sent ++ [(((s.roomFor d).put d x).newSr d).now]) = _
  rw [hsent, hnow]
  rfl
theorem Nd.Lone.first {s : Nd} {c : Nat} {t now : UInt64} {G : List UInt64} (h : s.Lone t []) (hs : s.srs = []) (ht : t.toNat ≤ now.toNat) (d : UInt32) (x : Str) (h2 : (s.sendF now d x).Lone now G) : 0 < G.length := by
  have h0 := h.begin ht
  have h1 := Nd.Al.first h0 ((s.begin_same now).2.2.2.2.2.trans hs) d x
  obtain ⟨_, _, _, _, e5, _⟩ := ((s.begin now).sendT d x).done_same
  have h3 := h2.sent
  unfold Nd.sendF at h3
  rw [e5, h1] at h3
  cases G with
  | nil => cases h3
  | cons a l => simp
/-- The new node. -/
theorem Nd.new_lone : (Nd.new 1 [] 0).Lone 0 [] ∧ (Nd.new 1 [] 0).srs = [] ∧ (Nd.new 1 [] 0).clk = [] := by
  have m := (Nd.Same.write (Nd.booted 1 [] 0) ⟨true, 0, (Nd.booted 1 [] 0).seq⟩).trans (Nd.Same.note _)
  unfold Nd.new
  generalize (Nd.write (Nd.booted 1 [] 0) ⟨true, 0, (Nd.booted 1 [] 0).seq⟩).note = s at m ⊢
  refine ⟨⟨m.self, m.ls, m.silent, (by rw [m.srs]; intro x hx; cases hx), m.sent, (by rw [m.seq]; rfl), (by rw [m.last]; exact Int.le_refl _), (fun i a b ha => by simp at ha), (fun i j a b _ ha => by simp at ha), (fun a ha => by cases ha)⟩, m.srs, m.clk⟩
end Go.Proofs.YtapoehkdnglahaaGreat

/- A text that waits is laid into a node's map: plain, and memory; the walk of Send. -/
namespace Go.Proofs.YtapoehkdnglahaaGreat
open Go.RowKit
set_option linter.unusedVariables false
set_option linter.unusedSectionVars false
set_option linter.unusedSimpArgs false
theorem mset_k (ws : List (UInt32 × List Str)) (d : UInt32) (l : List Str) : mset ws d l = match kfind (·.1) ws d with | some k => ws.set k (d, l) | none => ws ++ [(d, l)] := by
  have : ∀ ws : List (UInt32 × List Str), mfind ws d = kfind (·.1) ws d := fun ws => by
    induction ws with
    | nil => rfl
    | cons x r ih => simp only [mfind, kfind]; rw [ih]
  unfold mset
  rw [this]
  cases kfind (·.1) ws d <;> rfl
/-- The texts that wait for d, and their place in the map. -/
theorem wait_view (r : Nat) {vs : List (Option Addr × Nat × Nat)} {ws : List (UInt32 × List Str)} (hl : vs.length = ws.length) (d : UInt32) : ∃ R, (∀ Z, Ent (waitQ r vs ws * Z) (mp u32 slV' r (wmap vs ws) * (rows 9 1 strCc (optV slV' (.slice none 0 0) (mget (wmap vs ws) d)) ((mget ws d).getD []) * (R * Z)))) ∧
    (∀ Z, Ent (mp u32 slV' r (wmap vs ws) * (rows 9 1 strCc (optV slV' (.slice none 0 0) (mget (wmap vs ws) d)) ((mget ws d).getD []) * (R * Z))) (waitQ r vs ws * Z)) ∧
    ∀ v l, ∃ vs', ∀ Z, Ent (mp u32 slV' r (mset (wmap vs ws) d v) * (rows 9 1 strCc (slV' v) l * (R * Z))) (waitQ r vs' (mset ws d l) * Z) := by
  cases hk : kfind (·.1) ws d with
  | none =>
    have h1 : mget (wmap vs ws) d = none := mget_zmap_none (key := fun x : UInt32 × List Str => x.1) hl hk
    have h2 : mget ws d = none := by rw [mget_k, hk]; rfl
    rw [h1, h2]
    refine ⟨textsP vs ws, fun Z => ?_, fun Z => ?_, fun v l => ⟨vs ++ [v], fun Z => ?_⟩⟩
    · rw [waitQ_eq hl, star_assoc]
      exact Ent.tail _ (Ent.nil _ _ _ _ _)
    · rw [waitQ_eq hl, star_assoc]
      exact Ent.tail _ (Ent.drop _ _)
    · have h3 : mset (wmap vs ws) d v = wmap (vs ++ [v]) (ws ++ [(d, l)]) := mset_zmap_none (key := fun x : UInt32 × List Str => x.1) v (d, l) rfl hl hk
      rw [h3, mset_k, hk, waitQ_eq (by simp [hl]), textsP_z, textsP_z, zrow_snoc v (d, l) hl, star_assoc, star_assoc]
      exact Ent.refl _
  | some k =>
    obtain ⟨x, hx, hxd⟩ := kfind_some hk
    obtain ⟨v0, hv⟩ : ∃ v, vs[k]? = some v := ⟨_, List.getElem?_eq_getElem (by rw [hl]; exact (List.getElem?_eq_some_iff.1 hx).1)⟩
    have h1 : mget (wmap vs ws) d = some v0 := mget_zmap_some (key := fun x : UInt32 × List Str => x.1) hl hk hv
    have h2 : mget ws d = some x.2 := by rw [mget_k, hk]; simp [hx]
    obtain ⟨F1, e1, e2, _⟩ := zrow_hole txP hv hx
    rw [h1, h2]
    refine ⟨F1, fun Z => ?_, fun Z => ?_, fun v l => ⟨vs.set k v, fun Z => ?_⟩⟩
    · rw [waitQ_eq hl, textsP_z, e1, star_assoc, star_assoc]
      exact Ent.refl _
    · rw [waitQ_eq hl, textsP_z, e1, star_assoc, star_assoc]
      exact Ent.refl _
    · have h3 : mset (wmap vs ws) d v = wmap (vs.set k v) (ws.set k (d, l)) := mset_zmap_some (key := fun x : UInt32 × List Str => x.1) v (d, l) rfl hl hk
      rw [h3, mset_k, hk, waitQ_eq (by simp [hl]), textsP_z, e2, star_assoc, star_assoc]
      exact Ent.refl _
section
variable {P : Program} {n : Frm} {w0 : World} {E : Env} {D : List Deferred} {H F F1 F2 F3 F4 : HProp} {Q : Exit → St → Prop} {l l' : List Oper}
/-- Four blocks that are only read; L is read at the places bs and claimed at place cp. -/
theorem WS_drawJ4 {id : Nat} (g1 g2 g3 g4 : Nat) (L : HProp) (idx : List Nat) (cp : Nat) (bs : List Nat) {bt bt2 bt3 bt4 : TypeId} {cs cs2 cs3 cs4 : List Value} (hs : statD P l idx (inB bs) cp = true) (hl : permL l idx = some l') (hR : LimbB H g1 bt cs F1) (hR2 : LimbB F1 g2 bt2 cs2 F2) (hR3 : LimbB F2 g3 bt3 cs3 F3) (hR4 : LimbB F3 g4 bt4 cs4 F4) (hL : Own F4 L F) (h : DL P n w0 l.toArray Q D (cel g1 bt cs * (cel g2 bt2 cs2 * (cel g3 bt3 cs3 * cel g4 bt4 cs4))) L (inB bs) cp 0 false l' E F) : WS P n w0 (.region id l.toArray true) Q ⟨E, D, H⟩ :=
  WS_draw idx l' (cel g1 bt cs * (cel g2 bt2 cs2 * (cel g3 bt3 cs3 * cel g4 bt4 cs4))) L F _ cp hs (by rw [hR.eq, hR2.eq, hR3.eq, hR4.eq, hL.eq]; simp only [star_assoc]) (permL_eq hl) h
end
instance asKey_sl (A : Option Addr) (m c : Nat) : AsKey slV' (.slice A m c) (A, m, c) := ⟨rfl⟩
section
variable {P : Program} {n : Frm} {w0 : World} {E : Env} {D : List Deferred} {H F F2 : HProp} {Q : Exit → St → Prop} {x y : Code} {σ : St}
/-- What holds between two parts of a text. -/
theorem WS_mid (I : St → Prop) (h : WS P n w0 x (thenS (fun σ' => ∃ τ', I τ' ∧ τ'.E.sub σ'.E ∧ τ'.D = σ'.D ∧ Ent σ'.H τ'.H) Q) σ) (hm : ∀ τ, I τ → WS P n w0 y Q τ) : WS P n w0 (.seq x y) Q σ := WS_seq (h.mono fun e σ' h => by
  cases e with
  | normal =>
    obtain ⟨τ', hI, e1, e2, e3⟩ := h
    exact fun a w g => hm τ' hI a w (g.low e1 e2 e3)
  | _ => exact h)
variable {α : Type} {e : TypeId} {size bytes : Nat} {f : α → List Value} {v u : Value} {l : List α} {d : Option Tmp} {ty t : TypeId} {pos : String} {after : Array Edge} {gu : Option (Nat × Bool)} {x' y' : Operand}
theorem H_appendRF {ys : List α} (hx : E.ev x' = some v) (hy : E.ev y' = some u) (hl : RowsOf H v α e size f l F) {f' : α → List Value} (hl2 : RowsOf F u α e size f' ys F2) (hff : f' = f) (hT : SlTC P t e size bytes) (hf : FixLen f size) (h1 : ∀ z, ∀ c ∈ f z, c.oneCell' = true) (hn : l.length + ys.length ≤ 1000000) (hby : Nat.ble bytes 1000 = true) :
    OpH P n w0 ⟨d, .call ⟨.builtin .append, #[x', y'], #[t, t]⟩, ty, pos, after, gu⟩ E H (fun p : Option Addr × Nat × Nat => slV' p) (fun p => rows e size f (slV' p) (l ++ ys) * (rows e size f u ys * F2)) := by
  subst hff
  refine ⟨rows e size f' v l * rows e size f' u ys, fun p => rows e size f' (slV' p) (l ++ ys) * rows e size f' u ys, F2, ?_, by rw [hl.eq, hl2.eq, star_assoc], fun _ => by rw [star_assoc]⟩
  have h := T_append (n := n) (w0 := w0) (E := E) (d := d) (ty := ty) (pos := pos) (after := after) (gu := gu) ys (rows e size f' u ys) hx hy hT.out (.inl hT.out.ht) hf h1 (fun w G hs => Src.own hs.p2) hn (Nat.le_of_ble_eq_true hby)
  exact fun G a w K Q s hs hK => h G a w K Q s hs fun v' w' hs' => by
    obtain ⟨A, c, rfl⟩ := rows_form (hs'.cast (star_assoc _ _ _))
    exact hK (A, (l ++ ys).length, c) w' hs'
end
/-- The tail of a slice that a map holds. -/
def tlK (A : Option Addr) (m c : Nat) : Option Addr × Nat × Nat := match sTail 1 (.slice A m c) 1 with
  | .slice a b c => (a, b, c)
  | _ => (none, 0, 0)
instance asKey_tl (A : Option Addr) (m c : Nat) : AsKey slV' (sTail 1 (.slice A m c) 1) (tlK A m c) := ⟨rfl⟩
theorem slV_tl (A : Option Addr) (m c : Nat) : slV' (tlK A m c) = sTail 1 (.slice A m c) 1 := rfl
instance asKey_sv (p : Option Addr × Nat × Nat) : AsKey slV' (slV' p) p := ⟨rfl⟩
/-- A node with the map of what waits, and what waits for one, in sight. -/
def nodM (g : Nat) (s : Nd) (h : NH) (m : List (UInt32 × (Option Addr × Nat × Nat))) (v : Value) (l : List Str) (R : HProp) : HProp :=
  cel g 184 (nodC 1 s h s.out) * (rows 48 3 Rec.cells h.vr s.recs * (mp u32 u32 h.rh s.held * (tabQ h.tb s.self s.ls * (outH h s.out * (mp rqV u64 h.rs s.seen * (rows 336 2 rqC h.vo s.order * (mp u32 slV' h.rw m * (rows 9 1 strCc v l * (R * (mp u32 ptrV h.rq (qmap h.sb s.srs) * (mp i64 ptrV h.ri (imap h.sb s.srs) * (srsQ g h.sb s.srs * (clockQ h.cb h.cr s.last s.clk * rows 35 1 wrd64C h.vs s.sent)))))))))))))
/-- What of a node is not the texts that wait. -/
def restW (g : Nat) (s : Nd) (h : NH) (Z : HProp) : HProp := cel g 184 (nodC 1 s h s.out) * (rows 48 3 Rec.cells h.vr s.recs * (mp u32 u32 h.rh s.held * (tabQ h.tb s.self s.ls * (outH h s.out * (mp rqV u64 h.rs s.seen * (rows 336 2 rqC h.vo s.order * (mp u32 ptrV h.rq (qmap h.sb s.srs) * (mp i64 ptrV h.ri (imap h.sb s.srs) * (srsQ g h.sb s.srs * (clockQ h.cb h.cr s.last s.clk * (rows 35 1 wrd64C h.vs s.sent * Z)))))))))))
theorem nodP_w (g : Nat) (s : Nd) (h : NH) (Z : HProp) : nodP g s h * Z = waitQ h.rw h.wv s.wait * restW g s h Z := by
  unfold nodP nodPm restP restC restW
  ac_rfl
theorem nodM_w (g : Nat) (s : Nd) (h : NH) (m : List (UInt32 × (Option Addr × Nat × Nat))) (v : Value) (l : List Str) (R Z : HProp) : nodM g s h m v l R * Z = mp u32 slV' h.rw m * (rows 9 1 strCc v l * (R * restW g s h Z)) := by
  unfold nodM restW
  ac_rfl
theorem nodM_out {g : Nat} {s : Nd} {h : NH} {m : List (UInt32 × (Option Addr × Nat × Nat))} {v : Value} {l : List Str} {R : HProp} {vs' : List (Option Addr × Nat × Nat)} {ws' : List (UInt32 × List Str)} (e : ∀ Z, Ent (mp u32 slV' h.rw m * (rows 9 1 strCc v l * (R * Z))) (waitQ h.rw vs' ws' * Z)) (Z : HProp) : Ent (nodM g s h m v l R * Z) (nodP g { s with wait := ws' } { h with wv := vs' } * Z) := by
  rw [nodP_w, nodM_w]
  exact e _
theorem WS_waits {P : Program} {n : Frm} {w0 : World} {E : Env} {D : List Deferred} {F : HProp} {c : Code} {Q : Exit → St → Prop} {g : Nat} {s : Nd} {h : NH} (d : UInt32) (hwv : h.wv.length = s.wait.length)
    (hw : ∀ A cap R, optV slV' (.slice none 0 0) (mget (wmap h.wv s.wait) d) = .slice A (s.texts d).length cap →
      (∀ Z, Ent (nodM g s h (wmap h.wv s.wait) (.slice A (s.texts d).length cap) (s.texts d) R * Z) (nodP g s h * Z)) →
      (∀ v l, ∃ vs', ∀ Z, Ent (nodM g s h (mset (wmap h.wv s.wait) d v) (slV' v) l R * Z) (nodP g { s with wait := mset s.wait d l } { h with wv := vs' } * Z)) →
      WS P n w0 c Q ⟨E, D, nodM g s h (wmap h.wv s.wait) (.slice A (s.texts d).length cap) (s.texts d) R * F⟩) : WS P n w0 c Q ⟨E, D, nodP g s h * F⟩ := by
  obtain ⟨R, e1, e3, e2⟩ := wait_view h.rw hwv d
  intro a w gd
  have hs : Sat w0 w (nodP g s h * F) := gd.sat
  rw [nodP_w] at hs
  have hs2 := (e1 _).sat hs
  obtain ⟨A, cap, hA⟩ := rows_form (hs2.cast (star_left_comm _ _ _))
  have hA' : optV slV' (.slice none 0 0) (mget (wmap h.wv s.wait) d) = .slice A (s.texts d).length cap := hA
  rw [hA] at hs2 e3
  refine hw A cap R hA' (fun Z => ?_) (fun v l => ?_) a w ⟨gd.sees, gd.defers, hs2.cast (by rw [nodM_w]; rfl)⟩
  · rw [nodP_w, nodM_w]; exact e3 _
  obtain ⟨vs', h1⟩ := e2 v l
  exact ⟨vs', fun Z => nodM_out h1 Z⟩
end Go.Proofs.YtapoehkdnglahaaGreat

/- A node is asked to send: the walk of what it does. -/
namespace Go.Proofs.YtapoehkdnglahaaGreat
open Go.RowKit
set_option linter.unusedVariables false
set_option linter.unusedSectionVars false
set_option linter.unusedSimpArgs false
instance eqlNilPV {P : Program} {t e : TypeId} {b : Nat} [h : Und P t (.pointer e)] : BinV P .eql t (ptrV b) (.pointer none) (.bool false) := eqlNilP (a := ⟨b, 0, none⟩)
instance neqNilPV {P : Program} {t e : TypeId} {b : Nat} [h : Und P t (.pointer e)] : BinV P .neq t (ptrV b) (.pointer none) (.bool true) := neqNilP (a := ⟨b, 0, none⟩)
attribute [local irreducible] WS LS OpQ OpT OpH OpTQ Spec SpecQ cel
variable (w0 : World)
set_option maxRecDepth 100000 in
set_option maxHeartbeats 16000000 in
theorem sendC_spec (gn : Nat) (s : Nd) (d : UInt32) (t : Str) (ht : t.length ≤ 16) (hi : s.Inv) (hnm : 0 ≤ s.names ∧ s.names ≤ 1000000) (hck : s.clk.length ≤ 100000) (hla : 0 ≤ s.last ∧ s.last ≤ 900000000000) (hf : s.Fit 6) (bn bd bt : Nat) (tn td tt : TypeId) : Spec Tryz.prog w0 134 [ptr bn 0, ptr bd 0, ptr bt 0] (nodA gn s * (cel bn tn [ptr gn 0] * (cel bd td [u32 d] * cel bt tt [strV t]))) (fun _ : Unit => .tuple #[]) (fun _ => nodA gn (s.sendT d t) * emp) := by
  refine Spec.enter Tryz.func134 rfl Tryz.ntmps134 rfl fun G => ?_
  rw [star_assoc (nodA gn s), star_assoc (cel bn tn _), star_assoc (cel bd td _)]
  refine WS_nod fun h => ?_
  simp only [argE]
  have ok := hi.tab.tab
  have p1 := hand_spec w0 gn s h d t (by omega) ok (hf.le (by omega))
  by_cases hr : (lookT s.ls d s.now).isSome = true
  · have es : s.sendT d t = s.hand d t := by unfold Nd.sendT; rw [if_pos hr]
    rw [hr] at p1
    repeat' (first | (refine WS_seqK ?_; intro K hK) | (refine hK _ ?_; clear hK K) | (with_reducible (first | refine thenS_n ?_ | refine thenS_e ?_ | refine blockS_n ?_ | refine blockS_e ?_ | refine blockS_o rfl ?_ | refine thenS_r ?_ | refine blockS_r ?_ | refine use_K (by assumption) ?_)) | refine WS_region ?_ | refine LS_nil ?_ | ((refine' LQ ?zh rfl ?_); case zh => intro F'; exact Q_load rfl iI iI rfl) | (first | refine WS_block ?_ | refine WS_skip ?_ | refine WS_ret ?_ | refine WS_exit ?_ | refine WS_label ?_) | (show WS _ _ _ (.cond _ _ _) _ _; first | refine WS_condT rfl iI ?_ | refine WS_condF rfl iI ?_ | refine WS_condH_t rfl (by assumption) ?_ | refine WS_condH_f rfl (by assumption) ?_ | (refine WS_cond rfl ?_ ?_ <;> intro hc <;> (try simp only [decide_eq_true_eq, decide_eq_false_iff_not, Bool.not_eq_eq_eq_not, Bool.not_true, Bool.not_false, Bool.and_eq_true, Bool.or_eq_true, bne_iff_ne, beq_iff_eq, ne_eq, Decidable.not_not] at hc) <;> (try (exfalso; first | contradiction | omega; done)))) | (refine LS_h (H_callX iI rfl p1 iI) rfl ?_; intro vf))
    exact ret_none (.inl rfl) rfl ⟨(), rfl, by rw [es, star_assoc (nodA _ _)]; exact Ent.nod { h with vf := vf } (by ((try simp only [star_assoc, emp_star, star_emp]); (repeat' (first | exact Ent.last | refine Ent.take ?_ | refine Ent.nilT ?_ | refine Ent.takeR (by first | rfl | assumption | (simp; done)) ?_ | exact Ent.refl _))))⟩
  have hr' : (lookT s.ls d s.now).isSome = false := by simpa using hr
  have eh : s.hand d t = s := by
    unfold Nd.hand
    cases hl : lookT s.ls d s.now with
    | none => rfl
    | some x => rw [hl] at hr; exact absurd rfl hr
  have es := Nd.sendT_eq s d t
  rw [if_neg hr] at es
  rw [eh, hr'] at p1
  obtain ⟨s1, hs1⟩ : ∃ s1, s1 = s.roomFor d := ⟨_, rfl⟩
  have hi1 : s1.Inv := by rw [hs1]; exact hi.roomFor d
  have hf1 : s1.Fit 5 := by rw [hs1]; exact Nd.Step.fit (Nd.Step.roomFor s d) (by have := hf.frames; omega) (by have := hf.came; omega) (by have := hf.dropped; omega) (by have := hf.recs; omega) (by have := hf.journal; omega)
  obtain ⟨e1, e2, e3, e4, e5, e6, e7, _⟩ := s.roomFor_eqs d
  have htx := texts_le hi d
  repeat' (first | (show WS _ _ _ (.seq (.seq (.region 1 _ _) _) _) _ _; refine WS_mid (fun τ => ∃ h2 : NH, τ = ⟨[(0, ptr bn 0), (0 + 1, ptr bd 0), (0 + 1 + 1, ptr bt 0)], [], nodP gn s1 h2 * (cel bn tn [ptr gn 0] * (cel bd td [u32 d] * (cel bt tt [strV t] * G)))⟩) ?_ ?_) | (refine WS_seqK ?_; intro K hK) | (refine hK _ ?_; clear hK K) | refine WS_region ?_ | refine LS_nil ?_ | ((refine' LQ ?zh rfl ?_); case zh => intro F'; exact Q_load rfl iI iI rfl) | (first | refine WS_block ?_ | refine WS_skip ?_ | refine WS_ret ?_ | refine WS_exit ?_ | refine WS_label ?_) | (show WS _ _ _ (.cond _ _ _) _ _; first | refine WS_condT rfl iI ?_ | refine WS_condF rfl iI ?_ | refine WS_condH_t rfl (by assumption) ?_ | refine WS_condH_f rfl (by assumption) ?_ | (refine WS_cond rfl ?_ ?_ <;> intro hc <;> (try simp only [decide_eq_true_eq, decide_eq_false_iff_not, Bool.not_eq_eq_eq_not, Bool.not_true, Bool.not_false, Bool.and_eq_true, Bool.or_eq_true, bne_iff_ne, beq_iff_eq, ne_eq, Decidable.not_not] at hc) <;> (try (exfalso; first | contradiction | omega; done)))) | (refine LS_h (H_callX iI rfl p1 iI) rfl ?_; intro vf))
  · obtain ⟨h1, hh1⟩ : ∃ h1 : NH, h1 = { h with vf := vf } := ⟨_, rfl⟩
    rw [← hh1]
    clear p1 hh1
    refine WS_lens fun hsb hwv => ?_
    refine WS_waits d hwv fun A cap R hm hback hout => ?_
    obtain ⟨tx, htxe⟩ : ∃ tx, tx = s.texts d := ⟨_, rfl⟩
    have hrf : s.roomFor d = if tx.length = 4 then Nd.drop { s with wait := mset s.wait d (tx.drop 1) } 6 else s := by rw [htxe]; rfl
    rw [← htxe] at hm hback htx ⊢
    rw [hrf] at hs1
    clear htxe hrf
    by_cases h4 : tx.length = 4
    · rw [if_pos h4] at hs1
      obtain ⟨vs', hv'⟩ := hout (tlK A tx.length cap) (tx.drop 1)
      have p2 := drop_A w0 gn { s with wait := mset s.wait d (tx.drop 1) } { h1 with wv := vs' } 6 ⟨by have := hf.frames; show s.out.frames.length + 1 ≤ _; omega, by have := hf.came; show s.out.came.length + 1 ≤ _; omega, by have := hf.dropped; show s.out.dropped.length + 1 ≤ _; omega, by have := hf.recs; show s.recs.length + 9 * 1 ≤ _; omega, by have := hf.journal; show s.out.journal.length + 120 * 1 ≤ _; omega⟩
      rw [← hs1] at p2
      rw [slV_tl] at hv'
      simp only [nodM, nodC]
      repeat' (first | (show WS _ _ _ (.region 1 _ true) _ _; refine WS_drawA [0, 1, 2, 3, 4, 5, 6, 7] (by decide +kernel) rfl ?_) | (show WS _ _ _ (.region 2 _ true) _ _; refine WS_drawK [0, 1, 2, 3, 4, 5, 6, 7, 8, 9, 10, 11, 12] 12 [0, 3, 4, 5, 8, 9, 10, 11] (by decide +kernel) rfl ?_) | (refine WS_seqK ?_; intro K hK) | (refine hK _ ?_; clear hK K) | (with_reducible (first | refine thenS_n ?_ | refine thenS_e ?_ | refine blockS_n ?_ | refine blockS_e ?_ | refine blockS_o rfl ?_ | refine thenS_r ?_ | refine blockS_r ?_ | refine use_K (by assumption) ?_)) | refine WS_region ?_ | refine LS_nil ?_ | (first | refine DL_nilA ?_ | refine DL_nilS ?_ | refine DL_nilN ?_ | refine DL_nilE ?_ | refine DL_nilR ?_) | (first | refine DL_claimS rfl ?_ | refine DL_claim rfl rfl ?_) | ((first | refine' LQ ?zh rfl ?_ | refine' DL_qp rfl rfl rfl ?zh ?_ | refine' DL_q rfl rfl ?zh ?_); case zh => intro F'; first | exact Q_nilCheck rfl | exact Q_fieldAddr rfl iI rfl | exact Q_load rfl iI iI rfl | exact Q_bin_t rfl rfl iI (by first | assumption | omega | decide) | exact Q_len rfl iI | exact Q_lookupE rfl rfl iI iI iI iI iI (by assumption) | exact Q_sliceR_l rfl rfl iI iI iI iI (by first | assumption | omega | (simp [be_length] <;> omega))) | ((refine' DL_h0 ?zh rfl rfl ?_); (case zh => exact H_mapUpdate rfl rfl rfl iI iI iI iI iI); intro g) | (show WS _ _ _ (.cond _ _ _) _ _; first | refine WS_condT rfl iI ?_ | refine WS_condF rfl iI ?_ | refine WS_condH_t rfl (by assumption) ?_ | refine WS_condH_f rfl (by assumption) ?_ | (refine WS_cond rfl ?_ ?_ <;> intro hc <;> (try simp only [decide_eq_true_eq, decide_eq_false_iff_not, Bool.not_eq_eq_eq_not, Bool.not_true, Bool.not_false, Bool.and_eq_true, Bool.or_eq_true, bne_iff_ne, beq_iff_eq, ne_eq, Decidable.not_not] at hc) <;> (try (exfalso; first | contradiction | omega; done)))) | (refine LS_ent (Ent.trans (Ent.trans (Ent.tailR (v := .slice A tx.length cap) 1 (by omega)) (Ent.trans (by simp only [nodM, nodC]; ((try simp only [star_assoc, emp_star, star_emp]); (repeat' (first | exact Ent.last | refine Ent.take ?_ | refine Ent.nilT ?_ | refine Ent.takeR (by first | rfl | assumption | (simp; done)) ?_ | exact Ent.refl _)))) (hv' _))) (Ent.refl _)) ?_; refine LS_h (H_callX iI rfl p2 iI) rfl ?_; intro x5; refine LS_nod fun h5 => ?_))
      exact ⟨_, ⟨h5, rfl⟩, ⟨rfl, rfl, rfl, trivial⟩, rfl, by ((try simp only [star_assoc, emp_star, star_emp]); (repeat' (first | exact Ent.last | refine Ent.take ?_ | refine Ent.nilT ?_ | refine Ent.takeR (by first | rfl | assumption | (simp; done)) ?_ | exact Ent.refl _)))⟩
    · rw [if_neg h4] at hs1
      simp only [nodM, nodC]
      repeat' (first | (show WS _ _ _ (.region 1 _ true) _ _; refine WS_drawA [0, 1, 2, 3, 4, 5, 6, 7] (by decide +kernel) rfl ?_) | (refine hK _ ?_; clear hK K) | (with_reducible (first | refine thenS_n ?_ | refine thenS_e ?_ | refine blockS_n ?_ | refine blockS_e ?_ | refine blockS_o rfl ?_ | refine thenS_r ?_ | refine blockS_r ?_ | refine use_K (by assumption) ?_)) | (first | refine DL_nilA ?_ | refine DL_nilS ?_ | refine DL_nilN ?_ | refine DL_nilE ?_ | refine DL_nilR ?_) | ((refine' DL_q rfl rfl ?zh ?_); case zh => intro F'; first | exact Q_nilCheck rfl | exact Q_fieldAddr rfl iI rfl | exact Q_load rfl iI iI rfl | exact Q_bin_f rfl rfl iI (by first | assumption | omega | decide) | exact Q_len rfl iI | exact Q_lookupE rfl rfl iI iI iI iI iI (by assumption)) | (first | refine WS_block ?_ | refine WS_skip ?_ | refine WS_ret ?_ | refine WS_exit ?_ | refine WS_label ?_) | (show WS _ _ _ (.cond _ _ _) _ _; first | refine WS_condT rfl iI ?_ | refine WS_condF rfl iI ?_ | refine WS_condH_t rfl (by assumption) ?_ | refine WS_condH_f rfl (by assumption) ?_ | (refine WS_cond rfl ?_ ?_ <;> intro hc <;> (try simp only [decide_eq_true_eq, decide_eq_false_iff_not, Bool.not_eq_eq_eq_not, Bool.not_true, Bool.not_false, Bool.and_eq_true, Bool.or_eq_true, bne_iff_ne, beq_iff_eq, ne_eq, Decidable.not_not] at hc) <;> (try (exfalso; first | contradiction | omega; done)))))
      refine ⟨_, ⟨h1, rfl⟩, ⟨rfl, rfl, rfl, trivial⟩, rfl, ?_⟩
      rw [hs1]
      refine Ent.trans ?_ (hback _)
      simp only [nodM, nodC]
      ((try simp only [star_assoc, emp_star, star_emp]); (repeat' (first | exact Ent.last | refine Ent.take ?_ | refine Ent.nilT ?_ | refine Ent.takeR (by first | rfl | assumption | (simp; done)) ?_ | exact Ent.refl _)))
  · rintro τ ⟨h2, rfl⟩
    have hrt := Nd.roomFor_texts s d htx.1
    have hnm1 : s1.names = s.names := by rw [hs1, e1]
    have hck1 : s1.clk = s.clk := by rw [hs1, e2]
    have hla1 : s1.last = s.last := by rw [hs1, e3]
    rw [← hs1] at hrt es
    have htx1 := texts_le hi1 d
    clear p1
    refine WS_lens fun hsb hwv => ?_
    refine WS_waits d hwv fun A cap R hm hback hout => ?_
    obtain ⟨tx, htxe⟩ : ∃ tx, tx = s1.texts d := ⟨_, rfl⟩
    have hput : s1.put d t = { s1 with wait := mset s1.wait d (tx ++ [t]) } := by rw [htxe]; rfl
    rw [← htxe] at hm hback hrt htx1 ⊢
    clear htxe
    have hi2 : (s1.put d t).Inv := by
      rw [hput]
      refine hi1.put d _ (by simp; omega) fun x hx => ?_
      rcases List.mem_append.1 hx with hx | hx
      · exact htx1.2 x hx
      · simp at hx; subst hx; exact ht
    have hq : srFind (s1.put d t).srs d = kfind (·.dest) s1.srs d := srFind_k _ _
    rw [hq] at es
    cases hk : kfind (·.dest) s1.srs d with
    | some k =>
      obtain ⟨x, hx, hxd⟩ := kfind_some hk
      obtain ⟨b, hb⟩ : ∃ b, h2.sb[k]? = some b := ⟨_, List.getElem?_eq_getElem (by rw [hsb]; exact (List.getElem?_eq_some_iff.1 hx).1)⟩
      have hmq : mget (qmap h2.sb s1.srs) d = some b := mget_zmap_some (key := fun x : Sr => x.dest) hsb hk hb
      rw [hk] at es
      simp only at es
      simp only [nodM, nodC]
      repeat' (first | (show WS _ _ _ (.region 5 _ true) _ _; refine WS_drawA [0, 1, 2, 3, 4, 5, 6] (by decide +kernel) rfl ?_) | (refine WS_seqK ?_; intro K hK) | (refine hK _ ?_; clear hK K) | (first | refine DL_nilA ?_ | refine DL_nilS ?_ | refine DL_nilN ?_ | refine DL_nilE ?_ | refine DL_nilR ?_) | (first | refine DL_claimS rfl ?_ | refine DL_claim rfl rfl ?_) | ((first | refine' DL_qp rfl rfl rfl ?zh ?_ | refine' DL_q rfl rfl ?zh ?_); case zh => intro F'; first | exact Q_nilCheck rfl | exact Q_fieldAddr rfl iI rfl | exact Q_load rfl iI iI rfl | exact Q_bin rfl rfl iI | exact Q_lookupE rfl rfl iI iI iI iI iI (by assumption) | exact Q_lookup_s rfl rfl iI iI iI iI iI (by assumption)) | ((refine' DL_h0 ?zh rfl rfl ?_); (case zh => exact H_mapUpdate rfl rfl rfl iI iI iI iI iI); intro g) | (first | refine WS_block ?_ | refine WS_skip ?_ | refine WS_ret ?_ | refine WS_exit ?_ | refine WS_label ?_) | (show WS _ _ _ (.cond _ _ _) _ _; first | refine WS_condT rfl iI ?_ | refine WS_condF rfl iI ?_ | refine WS_condH_t rfl (by assumption) ?_ | refine WS_condH_f rfl (by assumption) ?_ | (refine WS_cond rfl ?_ ?_ <;> intro hc <;> (try simp only [decide_eq_true_eq, decide_eq_false_iff_not, Bool.not_eq_eq_eq_not, Bool.not_true, Bool.not_false, Bool.and_eq_true, Bool.or_eq_true, bne_iff_ne, beq_iff_eq, ne_eq, Decidable.not_not] at hc) <;> (try (exfalso; first | contradiction | omega; done)))) | (refine DL_h (H_buildSliceR strCc [t] iI iI iI rfl rfl rfl rfl rfl iI rfl rfl rfl) rfl rfl rfl ?_; intro vx) | (refine DL_h (H_appendRF rfl rfl iI iI rfl iI iI strCc_one (by first | omega | (simp [be_length] <;> omega)) rfl) rfl rfl rfl ?_; intro pv) | (show WS _ _ _ (.region 4 _ true) _ _; refine WS_drawJ4 gn bn bd bt (mp u32 slV' h2.rw (wmap h2.wv s1.wait)) [0, 1, 2, 3, 4, 5, 6, 7, 8, 9, 10, 11, 12, 13, 14] 14 [10] (by decide +kernel) rfl iI iI iI iI iI ?_))
      obtain ⟨vs', hv'⟩ := hout pv (tx ++ [t])
      refine ret_none (.inr rfl) rfl ⟨(), rfl, ?_⟩
      rw [es, hput, star_assoc (nodA _ _)]
      refine Ent.trans ?_ ((hv' _).trans (Ent.nod { h2 with wv := vs' } (Ent.refl _)))
      simp only [nodM, nodC]
      ((try simp only [star_assoc, emp_star, star_emp]); (repeat' (first | exact Ent.last | refine Ent.take ?_ | refine Ent.nilT ?_ | refine Ent.takeR (by first | rfl | assumption | (simp; done)) ?_ | exact Ent.refl _)))
    | none =>
      have hmq : mget (qmap h2.sb s1.srs) d = none := mget_zmap_none (key := fun x : Sr => x.dest) hsb hk
      rw [hk] at es
      simp only at es
      have p5 := fun vs' => begin_spec w0 gn (s1.put d t) { h2 with wv := vs' } d (hq.trans hk) hi2.sr hi2.tab.tab (by show 0 ≤ s1.names ∧ s1.names ≤ _; rw [hnm1]; omega) hi2.order (by have := hi2.sent; omega) (by show s1.clk.length ≤ _; rw [hck1]; omega) (by show 0 ≤ s1.last ∧ s1.last ≤ _; rw [hla1]; omega) (by exact ⟨by have := hf1.frames; show s1.out.frames.length + 3 ≤ _; omega, by have := hf1.came; show s1.out.came.length + 3 ≤ _; omega, by have := hf1.dropped; show s1.out.dropped.length + 3 ≤ _; omega, by have := hf1.recs; show s1.recs.length + 9 * 3 ≤ _; omega, by have := hf1.journal; show s1.out.journal.length + 120 * 3 ≤ _; omega⟩)
      have ebg : Nd.ask ((s1.put d t).newSr d) (s1.put d t).srs.length ⟨d, 1, 0, false, (s1.put d t).names + 1⟩ = s.sendT d t := by rw [es]; rfl
      rw [ebg, hput] at p5
      simp only [nodM, nodC]
      repeat' (first | (show WS _ _ _ (.region 5 _ true) _ _; refine WS_drawA [0, 1, 2, 3, 4, 5, 6] (by decide +kernel) rfl ?_) | (refine WS_seqK ?_; intro K hK) | (refine hK _ ?_; clear hK K) | refine WS_region ?_ | refine LS_nil ?_ | (first | refine DL_nilA ?_ | refine DL_nilS ?_ | refine DL_nilN ?_ | refine DL_nilE ?_ | refine DL_nilR ?_) | (first | refine DL_claimS rfl ?_ | refine DL_claim rfl rfl ?_) | ((first | refine' LQ ?zh rfl ?_ | refine' DL_qp rfl rfl rfl ?zh ?_ | refine' DL_q rfl rfl ?zh ?_); case zh => intro F'; first | exact Q_nilCheck rfl | exact Q_fieldAddr rfl iI rfl | exact Q_load rfl iI iI rfl | exact Q_bin rfl rfl iI | exact Q_lookupE rfl rfl iI iI iI iI iI (by assumption) | exact Q_lookup_n rfl rfl iI iI iI iI iI (by assumption)) | ((refine' DL_h0 ?zh rfl rfl ?_); (case zh => exact H_mapUpdate rfl rfl rfl iI iI iI iI iI); intro g) | (show WS _ _ _ (.cond _ _ _) _ _; first | refine WS_condT rfl iI ?_ | refine WS_condF rfl iI ?_ | refine WS_condH_t rfl (by assumption) ?_ | refine WS_condH_f rfl (by assumption) ?_ | (refine WS_cond rfl ?_ ?_ <;> intro hc <;> (try simp only [decide_eq_true_eq, decide_eq_false_iff_not, Bool.not_eq_eq_eq_not, Bool.not_true, Bool.not_false, Bool.and_eq_true, Bool.or_eq_true, bne_iff_ne, beq_iff_eq, ne_eq, Decidable.not_not] at hc) <;> (try (exfalso; first | contradiction | omega; done)))) | (refine DL_h (H_buildSliceR strCc [t] iI iI iI rfl rfl rfl rfl rfl iI rfl rfl rfl) rfl rfl rfl ?_; intro vx) | (refine DL_h (H_appendRF rfl rfl iI iI rfl iI iI strCc_one (by first | omega | (simp [be_length] <;> omega)) rfl) rfl rfl rfl ?_; intro pv) | (show WS _ _ _ (.region 4 _ true) _ _; refine WS_drawJ4 gn bn bd bt (mp u32 slV' h2.rw (wmap h2.wv s1.wait)) [0, 1, 2, 3, 4, 5, 6, 7, 8, 9, 10, 11, 12, 13, 14] 14 [10] (by decide +kernel) rfl iI iI iI iI iI ?_) | (obtain ⟨vs', hv'⟩ := hout pv (tx ++ [t]); refine LS_ent (Ent.trans (by simp only [nodM, nodC]; ((try simp only [star_assoc, emp_star, star_emp]); (repeat' (first | exact Ent.last | refine Ent.take ?_ | refine Ent.nilT ?_ | refine Ent.takeR (by first | rfl | assumption | (simp; done)) ?_ | exact Ent.refl _)))) (hv' (cel bn tn [ptr gn 0] * (cel bd td [u32 d] * (cel bt tt [strV t] * G))))) ?_; refine LS_h (H_callX iI rfl (p5 vs') iI) rfl ?_; intro x5))
      exact ret_none (.inr rfl) rfl ⟨(), rfl, by rw [star_assoc (nodA _ _)]; ((try simp only [star_assoc, emp_star, star_emp]); (repeat' (first | exact Ent.last | refine Ent.take ?_ | refine Ent.nilT ?_ | refine Ent.takeR (by first | rfl | assumption | (simp; done)) ?_ | exact Ent.refl _)))⟩
end Go.Proofs.YtapoehkdnglahaaGreat

/- A node is told the time, that a neighbour was not reached; it sends a text; it hears a frame: the walks. -/
namespace Go.Proofs.YtapoehkdnglahaaGreat
open Go.RowKit
set_option linter.unusedVariables false
set_option linter.unusedSectionVars false
set_option linter.unusedSimpArgs false
theorem Nd.begin_fit {s : Nd} {c : Nat} (h : s.Rest c) (now : UInt64) : (s.begin now).Fit 10 := by
  have h1 := Nd.begin_recs s now h.inv.tab.tab
  have h2 := Nd.begin_jour s now h.inv.tab.tab
  have h3 := h.recs
  exact ⟨by rw [Nd.begin_frames]; simp, by rw [Nd.begin_came]; simp, by rw [Nd.begin_dropped]; simp, by omega, by omega⟩
attribute [local irreducible] WS LS OpQ OpT OpH OpTQ Spec SpecQ cel
variable (w0 : World)
set_option maxRecDepth 100000 in
set_option maxHeartbeats 16000000 in
theorem ntick_spec (gn : Nat) (s : Nd) (now : UInt64) {c : Nat} (hr : s.Rest c) (hc : c ≤ 8500) (hn : now.toNat ≤ 4611686018427387904) : Spec Tryz.prog w0 77 [ptr gn 0, u64 now] (nodI gn s) (fun x : Value × Value × Value => outA (s.tickF now).out x) (fun x => nodI gn (s.tickF now) * outR (s.tickF now).out x) := by
  have hR := hr.ready hc hn
  obtain ⟨i, hi, hT⟩ := Nd.tick_run hR
  have h1 := hT.step.recs
  have h2 := hT.step.journal
  have h3 := Nd.begin_recs s now hr.inv.tab.tab
  have h4 := Nd.begin_jour s now hr.inv.tab.tab
  have h5 := hr.recs
  have h6 := hR.clk
  have p1 := fun bn bw => does_spec w0 gn s ((s.begin now).tick now) now (by omega) hr.inv.tab.tab (by omega) (by omega) hT.inv.tab.tab 133 [ptr bn 0, ptr bw 0] _ _ (tickC_spec w0 gn (s.begin now) now hR bn bw 98 35)
  unfold Nd.tickF
  generalize ((s.begin now).tick now).done = s2 at p1 ⊢
  simp only [outA, outR] at p1 ⊢
  refine Spec.enter Tryz.func77 rfl Tryz.ntmps77 rfl fun G => ?_
  simp only [argE]
  repeat' (first | (refine WS_seqK ?_; intro K hK) | (refine hK _ ?_; clear hK K) | refine WS_region ?_ | refine LS_nil ?_ | ((refine' LQ ?zh rfl ?_); case zh => intro F'; first | exact Q_load rfl iI iI rfl | exact Q_makeFunc rfl rfl) | ((refine' LS_h ?zh rfl ?_); (case zh => first | exact H_alloc iI | exact H_boxO rfl iI); intro g) | ((refine' LS_h0 ?zh ?_); (case zh => exact H_storeAO rfl rfl iI iI iI rfl); intro g) | (first | refine WS_block ?_ | refine WS_skip ?_ | refine WS_ret ?_ | refine WS_exit ?_ | refine WS_label ?_) | (refine LS_h (H_callX iI rfl (p1 _ _) iI) rfl ?_; intro x))
  exact ret_1 (.inl rfl) rfl (RV_cell rfl iI iI rfl) ⟨x.1, rfl, by ((try simp only [star_assoc, emp_star, star_emp]); (repeat' (first | exact Ent.last | refine Ent.take ?_ | refine Ent.nilT ?_ | refine Ent.takeR (by first | rfl | assumption | (simp; done)) ?_ | exact Ent.refl _)))⟩
end Go.Proofs.YtapoehkdnglahaaGreat

/- A node is asked to send: the call. -/
namespace Go.Proofs.YtapoehkdnglahaaGreat
open Go.RowKit
set_option linter.unusedVariables false
set_option linter.unusedSectionVars false
set_option linter.unusedSimpArgs false
/-- Whether it may be sent. -/
def Nd.sendE (s : Nd) (d : UInt32) (t : Str) : Int := if 16 < t.length then 6 else if d = s.self ∨ d = 0 then 2 else 0
/-- The answer of a call that is refused. -/
def outNo : Value := .agg #[strV [], .bool false, .slice none 0 0, .slice none 0 0, .slice none 0 0]
attribute [local irreducible] WS LS OpQ OpT OpH OpTQ Spec SpecQ cel
variable (w0 : World)
set_option maxRecDepth 100000 in
set_option maxHeartbeats 16000000 in
theorem nsendT_spec (gn : Nat) (s : Nd) (now : UInt64) (d : UInt32) (t : Str) {c : Nat} (hr : s.Rest c) (hc : c ≤ 8500) (hn : now.toNat ≤ 4611686018427387904) (he : s.sendE d t = 0) : Spec Tryz.prog w0 78 [ptr gn 0, u64 now, u32 d, strV t] (nodI gn s) (fun x : Value × Value × Value => .tuple #[outA (s.sendF now d t).out x, .int .i64 0]) (fun x => nodI gn (s.sendF now d t) * outR (s.sendF now d t).out x) := by
  have ht : t.length ≤ 16 := by unfold Nd.sendE at he; split at he; cases he; omega
  have hd : d ≠ s.self ∧ d ≠ 0 := by
    unfold Nd.sendE at he
    rw [if_neg (by omega)] at he
    split at he
    · cases he
    · rename_i h; exact ⟨fun e => h (.inl e), fun e => h (.inr e)⟩
  obtain ⟨hd1, hd2⟩ := hd
  have hb := hr.inv.begin now
  obtain ⟨e1, e2, e3, e4, e5, e6⟩ := s.begin_same now
  have hs := Nd.Step.sendT8 hb d t
  have h1 := hs.recs
  have h2 := hs.journal
  have h3 := Nd.begin_recs s now hr.inv.tab.tab
  have h4 := Nd.begin_jour s now hr.inv.tab.tab
  have h5 := hr.recs
  have g1 := hr.names; have g2 := hr.clk; have g3 := hr.last
  have hi2 := hb.sendT d t ht (by rw [e4]; exact g1.1)
  have p1 := fun bn bd bt => does_spec w0 gn s ((s.begin now).sendT d t) now (by omega) hr.inv.tab.tab (by omega) (by omega) hi2.tab.tab 134 [ptr bn 0, ptr bd 0, ptr bt 0] _ _ (sendC_spec w0 gn (s.begin now) d t ht hb (by rw [e4]; omega) (by rw [e2]; omega) (by rw [e3]; omega) ((Nd.begin_fit hr now).le (by omega)) bn bd bt 98 34 9)
  unfold Nd.sendF
  generalize ((s.begin now).sendT d t).done = s2 at p1 ⊢
  simp only [outA, outR] at p1 ⊢
  refine Spec.enter Tryz.func78 rfl Tryz.ntmps78 rfl fun G => ?_
  refine WS_nodI fun h o => ?_
  have p2 := fun bn bd bt => (p1 bn bd bt).conv (X' := (cel gn 184 (nodC 0 s h o) * (rows 48 3 Rec.cells h.vr s.recs * (mp u32 u32 h.rh s.held * (tabQ h.tb s.self s.ls * restP gn s h)))) * (cel bn 98 [ptr gn 0] * (cel bd 34 [u32 d] * cel bt 9 [strV t]))) (fun Z => by rw [star_assoc, star_assoc (nodI _ _)]; exact ent_nodI h o (Ent.refl _)) (fun _ _ => Ent.refl _)
  simp only [argE, nodC] at p2 ⊢
  clear p1
  have hd1' : ¬ d = s.self := hd1
  have hd2' : ¬ d = 0 := hd2
  have htl : ¬ (16 : Int) < (t.length : Int) := by omega
  repeat' (first | (show WS _ _ _ (.region 3 _ true) _ _; refine WS_drawA [0, 1, 2, 3, 4, 5, 6, 7, 8, 9, 10] (by decide +kernel) rfl ?_) | (refine WS_seqK ?_; intro K hK) | (refine hK _ ?_; clear hK K) | refine WS_region ?_ | refine LS_nil ?_ | (first | refine DL_nilA ?_ | refine DL_nilS ?_ | refine DL_nilN ?_ | refine DL_nilE ?_ | refine DL_nilR ?_) | ((first | refine' LQ ?zh rfl ?_ | refine' DL_q rfl rfl ?zh ?_ | refine' DL_qg rfl rfl rfl ?zh ?_); case zh => intro F'; first | exact Q_move rfl | exact Q_assign rfl | exact Q_nilCheck rfl | exact Q_fieldAddr rfl iI rfl | exact Q_load rfl iI iI rfl | exact Q_bin_f rfl rfl iI (by first | assumption | omega | decide) | exact Q_pick_f rfl iI rfl | exact Q_lenS rfl iI | exact Q_makeFunc rfl rfl) | ((refine' LS_h ?zh rfl ?_); (case zh => first | exact H_alloc iI | exact H_boxO rfl iI); intro g) | ((refine' LS_h0 ?zh ?_); (case zh => exact H_storeAO rfl rfl iI iI iI rfl); intro g) | (first | refine WS_block ?_ | refine WS_skip ?_ | refine WS_ret ?_ | refine WS_exit ?_ | refine WS_label ?_) | (show WS _ _ _ (.cond _ _ _) _ _; first | refine WS_condT rfl iI ?_ | refine WS_condF rfl iI ?_ | refine WS_condH_t rfl (by assumption) ?_ | refine WS_condH_f rfl (by assumption) ?_ | (refine WS_cond rfl ?_ ?_ <;> intro hc <;> (try simp only [decide_eq_true_eq, decide_eq_false_iff_not, Bool.not_eq_eq_eq_not, Bool.not_true, Bool.not_false, Bool.and_eq_true, Bool.or_eq_true, bne_iff_ne, beq_iff_eq, ne_eq, Decidable.not_not] at hc) <;> (try (exfalso; first | contradiction | omega; done)))) | (refine LS_h (H_callX iI rfl (p2 _ _ _) iI) rfl ?_; intro x))
  exact ret_2 (.inl rfl) rfl (RV_cell rfl iI iI rfl) (RV_tmp rfl) ⟨x.1, rfl, by ((try simp only [star_assoc, emp_star, star_emp]); (repeat' (first | exact Ent.last | refine Ent.take ?_ | refine Ent.nilT ?_ | refine Ent.takeR (by first | rfl | assumption | (simp; done)) ?_ | exact Ent.refl _)))⟩
set_option maxRecDepth 100000 in
set_option maxHeartbeats 16000000 in
theorem nsendNo_spec (gn : Nat) (s : Nd) (now : UInt64) (d : UInt32) (t : Str) (he : s.sendE d t ≠ 0) : Spec Tryz.prog w0 78 [ptr gn 0, u64 now, u32 d, strV t] (nodI gn s) (fun _ : Unit => .tuple #[outNo, .int .i64 (s.sendE d t)]) (fun _ => nodI gn s) := by
  refine Spec.enter Tryz.func78 rfl Tryz.ntmps78 rfl fun G => ?_
  refine WS_nodI fun h o => ?_
  simp only [argE, nodC]
  unfold Nd.sendE at he ⊢
  by_cases ht : 16 < t.length
  · rw [if_pos ht]
    have htl : (16 : Int) < (t.length : Int) := by omega
    repeat' (first | (refine WS_seqK ?_; intro K hK) | (refine hK _ ?_; clear hK K) | (with_reducible (first | refine thenS_n ?_ | refine thenS_e ?_ | refine blockS_n ?_ | refine blockS_e ?_ | refine blockS_o rfl ?_ | refine thenS_r ?_ | refine blockS_r ?_ | refine use_K (by assumption) ?_)) | refine WS_region ?_ | refine LS_nil ?_ | ((refine' LQ ?zh rfl ?_); case zh => intro F'; first | exact Q_assign rfl | exact Q_load rfl iI iI rfl | exact Q_bin_t rfl rfl iI (by first | assumption | omega | decide) | exact Q_build iI iI rfl rfl | exact Q_lenS rfl iI) | ((refine' LS_h ?zh rfl ?_); (case zh => first | exact H_alloc iI | exact H_boxO rfl iI); intro g) | ((refine' LS_h0 ?zh ?_); (case zh => exact H_storeAO rfl rfl iI iI iI rfl); intro g) | (first | refine WS_block ?_ | refine WS_skip ?_ | refine WS_ret ?_ | refine WS_exit ?_ | refine WS_label ?_) | (show WS _ _ _ (.cond _ _ _) _ _; first | refine WS_condT rfl iI ?_ | refine WS_condF rfl iI ?_ | refine WS_condH_t rfl (by assumption) ?_ | refine WS_condH_f rfl (by assumption) ?_ | (refine WS_cond rfl ?_ ?_ <;> intro hc <;> (try simp only [decide_eq_true_eq, decide_eq_false_iff_not, Bool.not_eq_eq_eq_not, Bool.not_true, Bool.not_false, Bool.and_eq_true, Bool.or_eq_true, bne_iff_ne, beq_iff_eq, ne_eq, Decidable.not_not] at hc) <;> (try (exfalso; first | contradiction | omega; done)))))
    exact ret_2 (.inl rfl) rfl (RV_cell rfl iI iI rfl) (RV_tmp rfl) ⟨(), rfl, by refine ent_nodI h o ?_; simp only [nodC]; ((try simp only [star_assoc, emp_star, star_emp]); (repeat' (first | exact Ent.last | refine Ent.take ?_ | refine Ent.nilT ?_ | refine Ent.takeR (by first | rfl | assumption | (simp; done)) ?_ | exact Ent.refl _)))⟩
  · rw [if_neg ht] at he ⊢
    have htl : ¬ (16 : Int) < (t.length : Int) := by omega
    have hd : d = s.self ∨ d = 0 := by
      apply Classical.byContradiction
      intro hd
      rw [if_neg hd] at he
      exact he rfl
    rw [if_pos hd]
    by_cases hd1 : d = s.self
    · repeat' (first | (show WS _ _ _ (.region 3 _ true) _ _; refine WS_drawA [0, 1, 2, 3, 4, 5, 6, 7, 8, 9, 10] (by decide +kernel) rfl ?_) | (refine WS_seqK ?_; intro K hK) | (refine hK _ ?_; clear hK K) | (with_reducible (first | refine thenS_n ?_ | refine thenS_e ?_ | refine blockS_n ?_ | refine blockS_e ?_ | refine blockS_o rfl ?_ | refine thenS_r ?_ | refine blockS_r ?_ | refine use_K (by assumption) ?_)) | refine WS_region ?_ | refine LS_nil ?_ | (first | refine DL_nilA ?_ | refine DL_nilS ?_ | refine DL_nilN ?_ | refine DL_nilE ?_ | refine DL_nilR ?_) | refine DL_skip rfl rfl rfl rfl ?_ | ((first | refine' LQ ?zh rfl ?_ | refine' DL_q rfl rfl ?zh ?_); case zh => intro F'; first | exact Q_move rfl | exact Q_assign rfl | exact Q_nilCheck rfl | exact Q_fieldAddr rfl iI rfl | exact Q_load rfl iI iI rfl | exact Q_bin_t rfl rfl iI (by first | assumption | omega | decide) | exact Q_bin_f rfl rfl iI (by first | assumption | omega | decide) | exact Q_pick_t rfl iI rfl | exact Q_build iI iI rfl rfl | exact Q_lenS rfl iI) | ((refine' LS_h ?zh rfl ?_); (case zh => first | exact H_alloc iI | exact H_boxO rfl iI); intro g) | ((refine' LS_h0 ?zh ?_); (case zh => exact H_storeAO rfl rfl iI iI iI rfl); intro g) | (first | refine WS_block ?_ | refine WS_skip ?_ | refine WS_ret ?_ | refine WS_exit ?_ | refine WS_label ?_) | (show WS _ _ _ (.cond _ _ _) _ _; first | refine WS_condT rfl iI ?_ | refine WS_condF rfl iI ?_ | refine WS_condH_t rfl (by assumption) ?_ | refine WS_condH_f rfl (by assumption) ?_ | (refine WS_cond rfl ?_ ?_ <;> intro hc <;> (try simp only [decide_eq_true_eq, decide_eq_false_iff_not, Bool.not_eq_eq_eq_not, Bool.not_true, Bool.not_false, Bool.and_eq_true, Bool.or_eq_true, bne_iff_ne, beq_iff_eq, ne_eq, Decidable.not_not] at hc) <;> (try (exfalso; first | contradiction | omega; done)))))
      exact ret_2 (.inl rfl) rfl (RV_cell rfl iI iI rfl) (RV_tmp rfl) ⟨(), rfl, by refine ent_nodI h o ?_; simp only [nodC]; ((try simp only [star_assoc, emp_star, star_emp]); (repeat' (first | exact Ent.last | refine Ent.take ?_ | refine Ent.nilT ?_ | refine Ent.takeR (by first | rfl | assumption | (simp; done)) ?_ | exact Ent.refl _)))⟩
    · have hd2 : d = 0 := hd.resolve_left hd1
      repeat' (first | (show WS _ _ _ (.region 3 _ true) _ _; refine WS_drawA [0, 1, 2, 3, 4, 5, 6, 7, 8, 9, 10] (by decide +kernel) rfl ?_) | (refine WS_seqK ?_; intro K hK) | (refine hK _ ?_; clear hK K) | (with_reducible (first | refine thenS_n ?_ | refine thenS_e ?_ | refine blockS_n ?_ | refine blockS_e ?_ | refine blockS_o rfl ?_ | refine thenS_r ?_ | refine blockS_r ?_ | refine use_K (by assumption) ?_)) | refine WS_region ?_ | refine LS_nil ?_ | (first | refine DL_nilA ?_ | refine DL_nilS ?_ | refine DL_nilN ?_ | refine DL_nilE ?_ | refine DL_nilR ?_) | ((first | refine' LQ ?zh rfl ?_ | refine' DL_q rfl rfl ?zh ?_ | refine' DL_qg rfl rfl rfl ?zh ?_); case zh => intro F'; first | exact Q_move rfl | exact Q_assign rfl | exact Q_nilCheck rfl | exact Q_fieldAddr rfl iI rfl | exact Q_load rfl iI iI rfl | exact Q_bin_t rfl rfl iI (by first | assumption | omega | decide) | exact Q_bin_f rfl rfl iI (by first | assumption | omega | decide) | exact Q_pick_f rfl iI rfl | exact Q_build iI iI rfl rfl | exact Q_lenS rfl iI) | ((refine' LS_h ?zh rfl ?_); (case zh => first | exact H_alloc iI | exact H_boxO rfl iI); intro g) | ((refine' LS_h0 ?zh ?_); (case zh => exact H_storeAO rfl rfl iI iI iI rfl); intro g) | (first | refine WS_block ?_ | refine WS_skip ?_ | refine WS_ret ?_ | refine WS_exit ?_ | refine WS_label ?_) | (show WS _ _ _ (.cond _ _ _) _ _; first | refine WS_condT rfl iI ?_ | refine WS_condF rfl iI ?_ | refine WS_condH_t rfl (by assumption) ?_ | refine WS_condH_f rfl (by assumption) ?_ | (refine WS_cond rfl ?_ ?_ <;> intro hc <;> (try simp only [decide_eq_true_eq, decide_eq_false_iff_not, Bool.not_eq_eq_eq_not, Bool.not_true, Bool.not_false, Bool.and_eq_true, Bool.or_eq_true, bne_iff_ne, beq_iff_eq, ne_eq, Decidable.not_not] at hc) <;> (try (exfalso; first | contradiction | omega; done)))))
      exact ret_2 (.inl rfl) rfl (RV_cell rfl iI iI rfl) (RV_tmp rfl) ⟨(), rfl, by refine ent_nodI h o ?_; simp only [nodC]; ((try simp only [star_assoc, emp_star, star_emp]); (repeat' (first | exact Ent.last | refine Ent.take ?_ | refine Ent.nilT ?_ | refine Ent.takeR (by first | rfl | assumption | (simp; done)) ?_ | exact Ent.refl _)))⟩
end Go.Proofs.YtapoehkdnglahaaGreat

/- mesh.Node: the doors of a node. -/
namespace Go.Proofs.YtapoehkdnglahaaGreat
open Go.RowKit
set_option linter.unusedVariables false
set_option linter.unusedSectionVars false
set_option linter.unusedSimpArgs false
def mnodI (gm : Nat) (s : Nd) : HProp := hex fun gn : Nat => cel gm 159 [ptr gn 0] * nodI gn s
theorem ent_mnodI {gm : Nat} {s : Nd} {H F : HProp} (gn : Nat) (e : Ent H ((cel gm 159 [ptr gn 0] * nodI gn s) * F)) : Ent H (mnodI gm s * F) := Ent.hexI (p := fun gn : Nat => cel gm 159 [ptr gn 0] * nodI gn s) gn e
theorem Spec.mnod {P : Program} {w0 : World} {f : FuncId} {args : List Value} {gm : Nat} {s : Nd} {X : HProp} {α : Type} {res : α → Value} {post : α → HProp} (h : ∀ gn, Spec P w0 f args ((cel gm 159 [ptr gn 0] * nodI gn s) * X) res post) : Spec P w0 f args (mnodI gm s * X) res post := fun G w hs => by
  have hs1 : Sat w0 w (hex (fun gn : Nat => cel gm 159 [ptr gn 0] * nodI gn s) * (X * G)) := hs.cast (star_assoc _ _ _)
  obtain ⟨x, hs2⟩ := hs1.ex
  exact h x G w (hs2.cast (star_assoc _ _ _).symm)
theorem Spec.mnod0 {P : Program} {w0 : World} {f : FuncId} {args : List Value} {gm : Nat} {s : Nd} {α : Type} {res : α → Value} {post : α → HProp} (h : ∀ gn, Spec P w0 f args (cel gm 159 [ptr gn 0] * nodI gn s) res post) : Spec P w0 f args (mnodI gm s) res post := by
  have := Spec.mnod (X := emp) (gm := gm) (s := s) (P := P) (w0 := w0) (f := f) (args := args) (res := res) (post := post) (fun gn => by rw [star_emp]; exact h gn)
  rwa [star_emp] at this
attribute [local irreducible] WS LS OpQ OpT OpH OpTQ Spec SpecQ cel
variable (w0 : World)
set_option maxRecDepth 100000 in
set_option maxHeartbeats 8000000 in
theorem mnew_spec (self : UInt32) (h0 : self ≠ 0) (b : List UInt8) (hb : b.length ≤ 1000000) (now : UInt64) (v : Value) (X : HProp) [hX : Rdr w0 X v UInt8 1 byteC b] :
    Spec Tryz.prog w0 20 [u32 self, v, u64 now] X (fun x : Nat × (Value × Value × Value) => .tuple #[ptr x.1 0, outA (Nd.newO self b now) x.2, .int .i64 0]) (fun x => mnodI x.1 (Nd.new self b now) * (outR (Nd.newO self b now) x.2 * X)) := by
  have p1 := nnew_spec w0 self b hb now v X
  refine Spec.enter Tryz.func20 rfl Tryz.ntmps20 rfl fun G => ?_
  generalize Nd.new self b now = s at p1 ⊢
  generalize Nd.newO self b now = o at p1 ⊢
  simp only [outA, outR] at p1 ⊢
  simp only [argE]
  repeat' (first | (show WS _ _ _ (.region 4 _ true) _ _; first | refine WS_drawK [0, 1, 3, 2, 4, 5, 6] 5 [2] (by decide +kernel) rfl ?_ | refine WS_drawN 7 10 [0, 1, 3, 2, 4, 5, 6] 5 [] (by decide +kernel) rfl rfl rfl iI iI ?_) | (refine WS_seqK ?_; intro K hK) | (refine hK _ ?_; clear hK K) | refine WS_region ?_ | refine LS_nil ?_ | (first | refine DL_nilA ?_ | refine DL_nilS ?_ | refine DL_nilN ?_ | refine DL_nilE ?_ | refine DL_nilR ?_) | (first | refine DL_claimS rfl ?_ | refine DL_claim rfl rfl ?_) | ((first | refine' LQ ?zh rfl ?_ | refine' DL_qp rfl rfl rfl ?zh ?_ | refine' DL_q rfl rfl ?zh ?_); case zh => intro F'; first | exact Q_move rfl | exact Q_assign rfl | exact Q_bin_f rfl rfl iI (by first | assumption | omega) | exact Q_extract rfl rfl | exact Q_loadA rfl iI iI rfl | exact Q_build iI iI rfl rfl) | ((first | refine' LS_h ?zh rfl ?_ | refine' DL_h ?zh rfl rfl rfl ?_); (case zh => first | exact H_alloc iI | exact H_box rfl); intro g) | ((first | refine' LS_h0 ?zh ?_ | refine' DL_h0 ?zh rfl rfl ?_); (case zh => exact H_storeAO rfl rfl iI iI iI rfl); intro g) | (first | refine WS_block ?_ | refine WS_skip ?_ | refine WS_ret ?_ | refine WS_exit ?_ | refine WS_label ?_) | (show WS _ _ _ (.cond _ _ _) _ _; first | refine WS_condT rfl iI ?_ | refine WS_condF rfl iI ?_ | refine WS_condH_t rfl (by assumption) ?_ | refine WS_condH_f rfl (by assumption) ?_ | (refine WS_cond rfl ?_ ?_ <;> intro hc <;> (try simp only [decide_eq_true_eq, decide_eq_false_iff_not, Bool.not_eq_eq_eq_not, Bool.not_true, Bool.not_false, Bool.and_eq_true, Bool.or_eq_true, bne_iff_ne, beq_iff_eq, ne_eq, Decidable.not_not] at hc) <;> (try (exfalso; first | contradiction | omega; done)))) | (refine LS_h (H_callX iI rfl p1 iI) rfl ?_; intro x))
  exact ret_3 (.inl rfl) rfl (RV_tmp rfl) (RV_cell rfl iI iI rfl) (RV_tmp rfl) ⟨(_, x.2), rfl, by rw [star_assoc (mnodI _ _)]; exact ent_mnodI x.1 (by ((try simp only [star_assoc, emp_star, star_emp]); (repeat' (first | exact Ent.last | refine Ent.take ?_ | refine Ent.nilT ?_ | refine Ent.takeR (by first | rfl | assumption | (simp; done)) ?_ | exact Ent.refl _))))⟩
end Go.Proofs.YtapoehkdnglahaaGreat

