/- A part of what Circles needs. -/
import Derived.Test.YtapoehkdnglahabGreatCirclesGl
set_option maxHeartbeats 16000000
set_option linter.unusedVariables false
set_option linter.unusedSimpArgs false
set_option linter.unusedSectionVars false
namespace Go.Proofs.YtapoehkdnglahabGreat
section
open Go.RowKit
section
variable {P : Program} {w0 w : World} {F : HProp} (t t2 ty e : TypeId) {size bytes : Nat}
theorem run_append_room (T : SlT P t e size bytes) (g off n cap : Nat) (xs : List Value) (h : Sat w0 w (slc e size (.slice (some ⟨g, off, none⟩) n cap) n xs * F)) (hc0 : 0 < cap) (m : Nat) (x : Value) (news : List Value) (src : Src P w size m x news) (h1 : ∀ u ∈ news, u.oneCell' = true) (hroom : n + m ≤ cap) :
    ∃ w', (Builtin.append_ #[t, t] ty #[.slice (some ⟨g, off, none⟩) n cap, x]).run P w = .ok (.slice (some ⟨g, off, none⟩) (n + m) cap) w' ∧ Sat w0 w' (slc e size (.slice (some ⟨g, off, none⟩) (n + m) cap) (n + m) (xs ++ news) * F) := by
  obtain ⟨i, z, hi, hz, hsize, hby, hzs⟩ := T.info
  have ht := T.ht
  subst hsize
  obtain ⟨hl, hc⟩ := h.slc_cases
  have hlen : (xs ++ news).length = (n + m) * i.size := by rw [List.length_append, hl, src.length, Nat.add_mul]
  have hx0 := src.len
  rcases hc with ⟨A, e1, rfl, hF⟩ | ⟨g', off', cap', cur, fr, e1, hnc, hm, hcs, htake, hfr, hs⟩
  · cases e1; omega
  · cases e1
    have hle : (n + m) * i.size ≤ cap * i.size := Nat.mul_le_mul_right _ hroom
    have hfit : off + n * i.size + news.length ≤ cur.size := by rw [src.length]; rw [Nat.add_mul] at hle; omega
    have hst := run_storeCells_fr (P := P) g (off + n * i.size) e fr news 0 cur w hs.at_ (by omega) h1 (fun k hk1 hk2 => hfr k (by omega) (by rw [src.length] at hk2; rw [Nat.add_mul] at hle; omega))
    simp only [Nat.add_zero] at hst
    refine ⟨w.setRow g (cur.toList.take (off + n * i.size) ++ news ++ cur.toList.drop (off + n * i.size + news.length)).toArray, ?_, ?_⟩
    · have hf := src.cells w rfl
      unfold Builtin.append_
      simp [run_underlying ht, sizeOf, typeInfo, hi, hx0, hroom, hf, add_lit, hst]
    · refine Sat.slc_mk e i.size (n + m) g off cap (cur.toList.take (off + n * i.size) ++ news ++ cur.toList.drop (off + n * i.size + news.length)).toArray fr _ ?_ hlen hroom hm ?_ ?_ hfr
      · exact Sat.put hs rfl rfl rfl (setRow_heap w g cur _ e fr hs.at_) fun k _ hk => setRow_other w g k _ hk
      · simp only [List.size_toArray, List.length_append, List.length_take, List.length_drop, Array.length_toList]
        omega
      · exact take_drop_mid htake (by simpa using hfit) hl (by rw [src.length, Nat.add_mul])
theorem run_clear_past (T : SlT P t e size bytes) {z : Value} {zs : List Value} (hz0 : Zero P e z zs) (h1 : ∀ c ∈ zs, c.oneCell' = true) (g off n cap : Nat) (xs : List Value) (h : Sat w0 w (slc e size (.slice (some ⟨g, off, none⟩) n cap) n xs * F)) (hroom : n + 1 ≤ cap) :
    ∃ w', (Builtin.clear_ #[t] ty #[sliced (some ⟨g, off, none⟩) n (n + 1) cap size]).run P w = .ok (.tuple #[]) w' ∧ Sat w0 w' (slc e size (.slice (some ⟨g, off, none⟩) n cap) n xs * F) := by
  obtain ⟨i, z', hi, hz, hsize, hby, hzs⟩ := T.info
  have ht := T.ht
  have hzz : z' = z := by
    have := hz0.eq
    rw [hi, Option.map_some, hz] at this
    exact Option.some.inj (Option.some.inj this)
  subst hzz
  have hzc : z'.cells = zs.toArray := by rw [cellsL_eq, hz0.cells]
  have hzl : zs.length = size := by rw [← hzs, hzc]; simp
  obtain ⟨hl, hc⟩ := h.slc_cases
  rcases hc with ⟨A, e1, rfl, hF⟩ | ⟨g', off', cap', cur, fr, e1, hnc, hm, hcs, htake, hfr, hs⟩
  · cases e1; omega
  · cases e1
    have hle : (n + 1) * size ≤ cap * size := Nat.mul_le_mul_right _ hroom
    rw [Nat.add_mul, Nat.one_mul] at hle
    have hst := run_storeCells_fr (P := P) g (off + n * size) e fr zs 0 cur w hs.at_ (by omega) h1 (fun k hk1 hk2 => hfr k (by omega) (by omega))
    simp only [Nat.add_zero] at hst
    refine ⟨w.setRow g (cur.toList.take (off + n * size) ++ zs ++ cur.toList.drop (off + n * size + zs.length)).toArray, ?_, ?_⟩
    · have hz1 : (Builtin.zeroCells z'.cells 1).toList = zs := by
        rw [hzc]
        unfold Builtin.zeroCells
        apply List.ext_getElem
        · simp
        · intro j h1 h2
          have hj : j < zs.length := h2
          simp [Nat.mod_eq_of_lt hj, hj]
      unfold Builtin.clear_ sliced
      rw [if_neg (by omega)]
      simp [run_underlying ht, zeroValue, typeInfo, hi, hz, add_lit, hz1, hst]
    · refine Sat.slc_mk e size n g off cap (cur.toList.take (off + n * size) ++ zs ++ cur.toList.drop (off + n * size + zs.length)).toArray fr _ ?_ hl hnc hm ?_ ?_ hfr
      · exact Sat.put hs rfl rfl rfl (setRow_heap w g cur _ e fr hs.at_) fun k _ hk => setRow_other w g k _ hk
      · simp only [List.size_toArray, List.length_append, List.length_take, List.length_drop, Array.length_toList]
        omega
      · rw [← htake]
        simp only [List.append_assoc]
        rw [List.drop_append_of_le_length (by simp; omega), List.take_append_of_le_length (by simp; omega), List.drop_take, List.take_take]
        congr 1
        omega
end
section
variable {P : Program} {n : Frm} {w0 : World} {E : Env} {D : List Deferred} {H F : HProp} {α : Type} {e : TypeId} {size bytes : Nat} {f : α → List Value} {l : List α}
variable {d : Option Tmp} {t ty : TypeId} {pos : String} {after : Array Edge} {gu : Option (Nat × Bool)} {x y z : Operand}
theorem Q_slice_lhm {e2 : TypeId} {q1 q2 q3 : IntKind} {i1 i2 i3 : Int} {A : Option Addr} {m c : Nat} (hx : E.ev x = some (.slice A m c)) {y1 y2 y3 : Operand} (hy1 : E.ev y1 = some (.int q1 i1)) (hy2 : E.ev y2 = some (.int q2 i2)) (hy3 : E.ev y3 = some (.int q3 i3)) (ht : Und P t (.slice e2)) (hs2 : Siz P e2 size) (hb : 0 ≤ i1 ∧ i1 ≤ i2 ∧ i2 ≤ i3 ∧ i3 ≤ c) :
    OpQ P n w0 ⟨d, .slice t x (some y1) (some y2) (some y3), ty, pos, after, gu⟩ E H (sliced A i1.toNat i2.toNat i3.toNat size) := fun a w s hs => by
  obtain ⟨i0, hi0, hi1⟩ := Option.map_eq_some_iff.1 hs2.eq
  have hel : P.elem t = e2 := by simp [Program.elem, ht.eq]
  have ht' : P.underlying t = some (.slice (P.elem t)) := by rw [ht.eq, hel]
  have hr := run_slice_lhm (P := P) (w := w) t A m c ht' q1 q2 q3 i1 i2 i3 hb.1 hb.2.1 hb.2.2.1 hb.2.2.2
  have hz : (sizeOf e2).run P w = .ok size w := by simp [sizeOf, typeInfo, hi0, hi1]
  rw [hel, hz] at hr
  simp only [execOp, s.ev hx, s.ev hy1, s.ev hy2, s.ev hy3, Option.map_some, run_sliceAt_slice w t _ _ _ _ ht', Sem.run_bind, hr, Result.andThen_ok, Sem.run_pure]
theorem Q_slice_lh {e2 : TypeId} {q1 q2 : IntKind} {i1 i2 : Int} {A : Option Addr} {m c : Nat} (hx : E.ev x = some (.slice A m c)) {y1 y2 : Operand} (hy1 : E.ev y1 = some (.int q1 i1)) (hy2 : E.ev y2 = some (.int q2 i2)) (ht : Und P t (.slice e2)) (hs2 : Siz P e2 size) (hb : 0 ≤ i1 ∧ i1 ≤ i2 ∧ i2 ≤ c) :
    OpQ P n w0 ⟨d, .slice t x (some y1) (some y2) none, ty, pos, after, gu⟩ E H (sliced A i1.toNat i2.toNat c size) := fun a w s hs => by
  obtain ⟨i0, hi0, hi1⟩ := Option.map_eq_some_iff.1 hs2.eq
  have hel : P.elem t = e2 := by simp [Program.elem, ht.eq]
  have ht' : P.underlying t = some (.slice (P.elem t)) := by rw [ht.eq, hel]
  have hr := run_slice_lh (P := P) (w := w) t A m c ht' q1 q2 i1 i2 hb.1 hb.2.1 hb.2.2
  have hz : (sizeOf e2).run P w = .ok size w := by simp [sizeOf, typeInfo, hi0, hi1]
  rw [hel, hz] at hr
  simp only [execOp, s.ev hx, s.ev hy1, s.ev hy2, Option.map_some, Option.map_none, run_sliceAt_slice w t _ _ _ _ ht', Sem.run_bind, hr, Result.andThen_ok, Sem.run_pure]
theorem H_appendDel {g off cap : Nat} (k : Nat) (hk : k < l.length) (hx : E.ev x = some (sHead (.slice (some ⟨g, off, none⟩) l.length cap) k)) (hy : E.ev y = some (sTail size (.slice (some ⟨g, off, none⟩) l.length cap) (k + 1))) (hl : RowsOf H (.slice (some ⟨g, off, none⟩) l.length cap) α e size f l F) (hT : SlTC P t e size bytes) (hf : FixLen f size) (h1 : ∀ z, ∀ c ∈ f z, c.oneCell' = true) (hp : NeZero size) (hc : l.length ≤ cap) :
    OpH P n w0 ⟨d, .call ⟨.builtin .append, #[x, y], #[t, t]⟩, ty, pos, after, gu⟩ E H (fun _ : Unit => .slice (some ⟨g, off, none⟩) (l.length - 1) cap) (fun _ => rows e size f (.slice (some ⟨g, off, none⟩) (l.length - 1) cap) (l.eraseIdx k) * F) := by
  refine OpH.mk' (pre := rows e size f (.slice (some ⟨g, off, none⟩) l.length cap) l) (post := fun _ => rows e size f (.slice (some ⟨g, off, none⟩) (l.length - 1) cap) (l.eraseIdx k)) (fun G a w K Q s hs hK => ?_) hl.eq
  have hsrc : Src P w size (l.drop (k + 1)).length (sTail size (.slice (some ⟨g, off, none⟩) l.length cap) (k + 1)) ((l.drop (k + 1)).flatMap f) := src_of_rows ((rdr_tail' (w0 := w0) (H := rows e size f (.slice (some ⟨g, off, none⟩) l.length cap) l * G) (v := .slice (some ⟨g, off, none⟩) l.length cap) (f := f) (l := l) (k + 1)).at_ w hs) hf.eq
  have hs2 : Sat w0 w (rows e size f (sHead (.slice (some ⟨g, off, none⟩) l.length cap) k) (l.take k) * G) := (Ent.headR (H := rows e size f (.slice (some ⟨g, off, none⟩) l.length cap) l * G) (F := G) k).sat hs
  have hhd : sHead (.slice (some ⟨g, off, none⟩) l.length cap) k = .slice (some ⟨g, off, none⟩) (l.take k).length cap := by unfold sHead; simp
  rw [hhd] at hs2 hx
  unfold rows at hs2
  have htl : (l.take k).length = k := by simp; omega
  have hdl : (l.drop (k + 1)).length = l.length - 1 - k := by simp; omega
  obtain ⟨w', hr, hs'⟩ := run_append_room (P := P) t ty e hT.out g off (l.take k).length cap _ hs2 (by omega) _ _ _ hsrc (fun c hc => by obtain ⟨z, _, hz⟩ := List.mem_flatMap.1 hc; exact h1 z c hz) (by rw [htl, hdl]; omega)
  have hlen : (l.take k).length + (l.drop (k + 1)).length = l.length - 1 := by omega
  rw [hlen] at hr hs'
  have he : l.eraseIdx k = l.take k ++ l.drop (k + 1) := List.eraseIdx_eq_take_drop_succ _ _
  unfold Oper.wp execOp
  simp only [resolve, invoke, builtin, Sem.run_bind, Sem.run_pure, Result.andThen_ok, List.map_toArray, List.map_cons, List.map_nil, s.ev hx, s.ev hy, hr]
  refine hK () w' ?_
  unfold rows
  rw [he, List.flatMap_append, List.length_append, hlen]
  exact hs'
theorem H_clearPast {g off cap m lo hi : Nat} {z : Value} {zs : List Value} (hx : E.ev x = some (sliced (some ⟨g, off, none⟩) lo hi cap size)) (hm : l.length = m) (hlo : lo = m) (hhi : hi = m + 1) (hl : RowsOf H (.slice (some ⟨g, off, none⟩) m cap) α e size f l F) (hT : SlTC P t e size bytes) (hz : Zero P e z zs) (h1 : (zs.all fun c => c.oneCell') = true) (hc : m + 1 ≤ cap) :
    OpH P n w0 ⟨none, .call ⟨.builtin .clear, #[x], #[t]⟩, ty, pos, after, gu⟩ E H (fun _ : Unit => undef) (fun _ => rows e size f (.slice (some ⟨g, off, none⟩) m cap) l * F) := by
  subst hlo
  subst hhi
  subst hm
  refine OpH.mk' (pre := rows e size f (.slice (some ⟨g, off, none⟩) l.length cap) l) (post := fun _ => rows e size f (.slice (some ⟨g, off, none⟩) l.length cap) l) (fun G a w K Q s hs hK => ?_) hl.eq
  unfold rows at hs
  obtain ⟨w', hr, hs'⟩ := run_clear_past (P := P) t ty e hT.out hz (fun c hc => by simpa using List.all_eq_true.1 h1 c hc) g off l.length cap _ hs hc
  have := hK () w' hs'
  unfold Oper.wp execOp
  simp only [resolve, invoke, builtin, Sem.run_bind, Sem.run_pure, Result.andThen_ok, List.map_toArray, List.map_cons, List.map_nil, s.ev hx, hr]
  exact this
end
end

section
open Go.RowKit
def flC (f : Fl) : List Value := [.int .i64 (f.src : Int), .int .i64 (f.dst : Int), strV f.bytes]
instance : FixLen flC 3 := ⟨fun _ => rfl⟩
theorem flC_one : ∀ z, ∀ c ∈ flC z, c.oneCell' = true := by intro z c hc; simp [flC] at hc; rcases hc with rfl | rfl | rfl <;> rfl
theorem WS_someC {P : Program} {n : Frm} {w0 : World} {E : Env} {D : List Deferred} {H F : HProp} {Q : Exit → St → Prop} {c : Code} {α : Type} {e : TypeId} {size : Nat} {f : α → List Value} {l : List α} (v : Value) (hl : RowsOf H v α e size f l F) (hk : 0 < l.length) (h : ∀ g off cap, v = .slice (some ⟨g, off, none⟩) l.length cap → l.length ≤ cap → cap ≤ maxLen → WS P n w0 c Q ⟨E, D, H⟩) : WS P n w0 c Q ⟨E, D, H⟩ := fun a w g => by
  have hs := g.sat.cast hl.eq
  unfold rows at hs
  obtain ⟨_, ⟨A, _, h0, _⟩ | ⟨g', off, cap, cur, fr, hv, h1, h2, _⟩⟩ := hs.slc_cases
  · omega
  · exact h g' off cap hv h1 h2 a w g
attribute [local irreducible] WS LS OpQ OpT OpH OpTQ Spec SpecQ cel sHead sTail
variable (w0 : World)
set_option maxRecDepth 100000 in
theorem delete_spec (v : Value) (l : List Fl) (k : Nat) (hk : k < l.length) (hl : l.length ≤ 1000) : Spec Tryz.prog w0 84 [v, .int .i64 (k : Int), .int .i64 ((k : Int) + 1)] (rows 114 3 flC v l) (fun v' : Value => v') (fun v' => rows 114 3 flC v' (l.eraseIdx k)) := by
  refine Spec.enter Tryz.func84 rfl Tryz.ntmps84 rfl fun G => ?_
  refine WS_someC v iI (by omega) fun g off cap hv hc hm => ?_
  subst hv
  simp only [argE]
  have h1 : (k : Int) ≠ (k : Int) + 1 := by omega
  have hne : ¬ (k : Int) = (k : Int) + 1 := by omega
  have hk1 : k ≤ l.length := by omega
  have hk2 : k + 1 ≤ l.length := by omega
  repeat' (first | (show WS _ _ _ (.region 5 _ true) _ _; refine WS_drawK (.range 8) 6 [2, 5] (by decide +kernel) rfl ?_) | (refine WS_seqK ?_; intro K hK) | (refine hK _ ?_; clear hK K) | refine stZ ?_ | (refine s2Z ?_ ?_ <;> intro hc <;> (try simp only [cS] at hc) <;> (try (exfalso; first | contradiction | omega))) | refine sbZ ?_ | refine sqZ ?_ | ((first | refine' LQ ?zh rfl ?_ | refine' DL_qp rfl rfl rfl ?zh ?_ | refine' DL_q rfl rfl ?zh ?_); case zh => intro F'; first | exact Q_sliceR_h rfl rfl iI iI iI iI (by first | assumption | omega | (simp [be_length] <;> omega)) | exact Q_sliceR_l rfl rfl iI iI iI iI (by first | assumption | omega | (simp [be_length] <;> omega))) | ((first | refine' LQ ?zh rfl ?_ | refine' DL_q rfl rfl ?zh ?_); (case zh => intro F'; exact Q_slice_lhm rfl rfl rfl rfl iI iI (by omega))) | ((first | refine' LQ ?zh rfl ?_); (case zh => intro F'; exact Q_slice_lh rfl rfl rfl iI iI (by omega))) | (refine DL_h (H_appendDel k hk rfl rfl iI iI iI flC_one iI hc) rfl rfl rfl ?_; intro u1) | (refine LS_h0 (H_clearPast (m := l.length - 1) rfl (by rw [List.length_eraseIdx, if_pos hk]) (by simp) (by simp; omega) iI iI iI rfl (by omega)) ?_; intro g))
  exact ret_tmp (.inl rfl) rfl rfl ⟨_, rfl, finE⟩
end

section
open Go.RowKit
def ptrN (g : Nat) : Option Nd → Value
  | some _ => ptr g 0
  | none => .pointer none
def staC (s : Sta) (gn : Nat) (vj : Value) : List Value := [u32 s.addr, ptrN gn s.node, vj, .int .i64 s.tear, .bool s.armed]
def staN (gn : Nat) : Option Nd → HProp
  | some n => nodI gn n
  | none => emp
def staB (b gn : Nat) (vj : Value) (s : Sta) : HProp := cel b 118 (staC s gn vj) * (rows 5 1 byteC vj s.journal * staN gn s.node)
def staP (b : Nat) (s : Sta) : HProp := hex fun x : Nat × Value => staB b x.1 x.2 s
def stasQ (bs : List Nat) (sts : List Sta) : HProp := pure' (bs.length = sts.length) * zrow staP bs sts
abbrev SV := Option Addr × Nat × Nat
abbrev ES := Ev × SV × SV × SV
def evC (x : ES) : List Value := [.int .i64 x.1.node, .int .i64 x.1.err, strV x.1.out.journal, .bool x.1.out.replace, slV' x.2.1, slV' x.2.2.1, slV' x.2.2.2]
instance : FixLen evC 7 := ⟨fun _ => rfl⟩
theorem evC_one : ∀ z, ∀ c ∈ evC z, c.oneCell' = true := by intro z c hc; simp [evC] at hc; rcases hc with rfl | rfl | rfl | rfl | rfl | rfl | rfl <;> rfl
def svV (x : SV × SV × SV) : Value × Value × Value := (slV' x.1, slV' x.2.1, slV' x.2.2)
def evO (x : ES) : HProp := outR x.1.out (svV x.2)
def evsO : List ES → HProp
  | [] => emp
  | x :: l => evO x * evsO l
theorem evsO_append (l k : List ES) : evsO (l ++ k) = evsO l * evsO k := by
  induction l with
  | nil => rw [List.nil_append, evsO, emp_star]
  | cons x l ih => rw [List.cons_append, evsO, evsO, ih, star_assoc]
structure MH where
  vs : Value
  bs : List Nat
  r : Nat
  va : Value
  ve : Value
def mshC (m : Ms) (h : MH) : List Value := [h.vs, .map (some h.r), .bool (m.hears 0), .bool (m.hears 1), .bool (m.hears 2), .bool (m.hears 3), .bool (m.hears 4), .bool (m.hears 5), .bool (m.hears 6), .bool (m.hears 7), .bool (m.hears 8), .bool (m.hears 9), .bool (m.hears 10), .bool (m.hears 11), .bool (m.hears 12), .bool (m.hears 13), .bool (m.hears 14), .bool (m.hears 15), .bool (m.hears 16), .bool (m.hears 17), .bool (m.hears 18), .bool (m.hears 19), .bool (m.hears 20), .bool (m.hears 21), .bool (m.hears 22), .bool (m.hears 23), .bool (m.hears 24), .bool (m.hears 25), .bool (m.hears 26), .bool (m.hears 27), .bool (m.hears 28), .bool (m.hears 29), .bool (m.hears 30), .bool (m.hears 31), .bool (m.hears 32), .bool (m.hears 33), .bool (m.hears 34), .bool (m.hears 35), h.va, u64 m.now, h.ve]
def amap : Nat → List Sta → List (UInt32 × Int)
  | _, [] => []
  | k, s :: r => (s.addr, (k : Int)) :: amap (k + 1) r
theorem amap_get (a : UInt32) : ∀ (sts : List Sta) (k : Nat), mget (amap k sts) a = (stFind sts a).map fun j => ((k + j : Nat) : Int)
  | [], k => rfl
  | s :: r, k => by
    simp only [amap, mget_cons, stFind]
    split
    · simp
    · rw [amap_get a r (k + 1)]
      cases stFind r a with
      | none => rfl
      | some j =>
        show some (((k + 1 + j : Nat)) : Int) = some ((k + (j + 1) : Nat) : Int)
        congr 1; omega
def mshP (g : Nat) (m : Ms) (h : MH) (el : List ES) : HProp :=
  cel g 108 (mshC m h) * (rows 115 1 ptrC h.vs h.bs * (mp u32 i64 h.r (amap 0 m.sts) * (stasQ h.bs m.sts * (rows 114 3 flC h.va m.air * rows 68 7 evC h.ve el))))
def mshA (g : Nat) (k : MH) (m : Ms) (el : List ES) : HProp := hex fun x : Value × Value => pure' (el.map (·.1) = m.evs) * mshP g m ⟨k.vs, k.bs, k.r, x.1, x.2⟩ el
def mshI (g : Nat) (k : MH) (m : Ms) : HProp := hex fun x : Value × Value => cel g 108 (mshC m ⟨k.vs, k.bs, k.r, x.1, x.2⟩) * (rows 115 1 ptrC k.vs k.bs * (mp u32 i64 k.r (amap 0 m.sts) * (stasQ k.bs m.sts * rows 114 3 flC x.1 m.air)))
section
variable {P : Program} {n : Frm} {w0 : World} {E : Env} {D : List Deferred} {F : HProp} {ops : Array Oper} {l' : List Oper} {c : Code} {Q : Exit → St → Prop} {g : Nat} {k : MH} {m : Ms} {el : List ES}
theorem WS_msh (h : ∀ va ve, el.map (·.1) = m.evs → WS P n w0 c Q ⟨E, D, mshP g m ⟨k.vs, k.bs, k.r, va, ve⟩ el * F⟩) : WS P n w0 c Q ⟨E, D, mshA g k m el * F⟩ := by
  unfold mshA
  refine WS_hex fun x => ?_
  rw [star_assoc]
  exact WS_pure fun he => h x.1 x.2 he
theorem Ent.msh {H F : HProp} (va ve : Value) (he : el.map (·.1) = m.evs) (e : Ent H (mshP g m ⟨k.vs, k.bs, k.r, va, ve⟩ el * F)) : Ent H (mshA g k m el * F) := by
  refine Ent.hexI (p := fun x : Value × Value => pure' (el.map (·.1) = m.evs) * mshP g m ⟨k.vs, k.bs, k.r, x.1, x.2⟩ el) (va, ve) ?_
  rw [pure'_true he, emp_star]
  exact e
theorem stasQ_eq {bs : List Nat} {sts : List Sta} (h : bs.length = sts.length) : stasQ bs sts = zrow staP bs sts := by unfold stasQ; rw [pure'_true h, emp_star]
theorem stas_open {bs : List Nat} {sts : List Sta} {i b : Nat} {s : Sta} (hl : bs.length = sts.length) (hb : bs[i]? = some b) (hs : sts[i]? = some s) : ∃ R, stasQ bs sts = staP b s * R ∧ ∀ f : Sta → Sta, stasQ bs (sts.modify i f) = staP b (f s) * R := by
  obtain ⟨R, e1, e2, _⟩ := zrow_hole staP hb hs
  refine ⟨R, by rw [stasQ_eq hl, e1], fun f => ?_⟩
  have hm : sts.modify i f = sts.set i (f s) := modify_set hs f
  have hbs : bs.set i b = bs := by
    apply List.ext_getElem?
    intro j
    rw [List.getElem?_set]
    split
    · rename_i e; subst e; obtain ⟨h1, h2⟩ := List.getElem?_eq_some_iff.1 hb; simp [h1, h2]
    · rfl
  have := e2 b (f s)
  rw [hbs] at this
  rw [hm, stasQ_eq (by simpa using hl), this]
theorem WS_mlen {va ve : Value} (h : k.bs.length = m.sts.length → WS P n w0 c Q ⟨E, D, mshP g m ⟨k.vs, k.bs, k.r, va, ve⟩ el * F⟩) : WS P n w0 c Q ⟨E, D, mshP g m ⟨k.vs, k.bs, k.r, va, ve⟩ el * F⟩ := fun a w gd => by
  have e : mshP g m ⟨k.vs, k.bs, k.r, va, ve⟩ el * F = pure' (k.bs.length = m.sts.length) * (cel g 108 (mshC m ⟨k.vs, k.bs, k.r, va, ve⟩) * (rows 115 1 ptrC k.vs k.bs * (mp u32 i64 k.r (amap 0 m.sts) * (zrow staP k.bs m.sts * (rows 114 3 flC va m.air * (rows 68 7 evC ve el * F)))))) := by
    unfold mshP stasQ
    ac_rfl
  obtain ⟨h1, _⟩ := (gd.sat.cast e).pure
  exact h h1 a w gd
end
def mshS (g : Nat) (m : Ms) (k : MH) (va ve : Value) (el : List ES) (b gn : Nat) (vj : Value) (s : Sta) (R : HProp) : HProp :=
  cel g 108 (mshC m ⟨k.vs, k.bs, k.r, va, ve⟩) * (rows 115 1 ptrC k.vs k.bs * (mp u32 i64 k.r (amap 0 m.sts) * (staB b gn vj s * (R * (rows 114 3 flC va m.air * rows 68 7 evC ve el)))))
section
variable {P : Program} {n : Frm} {w0 : World} {E : Env} {D : List Deferred} {F : HProp} {c : Code} {Q : Exit → St → Prop} {g : Nat} {k : MH} {m : Ms} {el : List ES}
theorem mshP_S {va ve : Value} {b : Nat} {s : Sta} {R : HProp} (e : stasQ k.bs m.sts = staP b s * R) (Z : HProp) : mshP g m ⟨k.vs, k.bs, k.r, va, ve⟩ el * Z = hex (fun x : Nat × Value => staB b x.1 x.2 s) * (cel g 108 (mshC m ⟨k.vs, k.bs, k.r, va, ve⟩) * (rows 115 1 ptrC k.vs k.bs * (mp u32 i64 k.r (amap 0 m.sts) * (R * (rows 114 3 flC va m.air * (rows 68 7 evC ve el * Z)))))) := by
  unfold mshP
  simp only
  rw [e]
  unfold staP
  ac_rfl
theorem mshS_eq (va ve : Value) (b gn : Nat) (vj : Value) (s : Sta) (R Z : HProp) : mshS g m k va ve el b gn vj s R * Z = staB b gn vj s * (cel g 108 (mshC m ⟨k.vs, k.bs, k.r, va, ve⟩) * (rows 115 1 ptrC k.vs k.bs * (mp u32 i64 k.r (amap 0 m.sts) * (R * (rows 114 3 flC va m.air * (rows 68 7 evC ve el * Z)))))) := by
  unfold mshS
  ac_rfl
theorem WS_sta {va ve : Value} {b : Nat} {s : Sta} {R : HProp} (e : stasQ k.bs m.sts = staP b s * R) (h : ∀ gn vj, WS P n w0 c Q ⟨E, D, mshS g m k va ve el b gn vj s R * F⟩) : WS P n w0 c Q ⟨E, D, mshP g m ⟨k.vs, k.bs, k.r, va, ve⟩ el * F⟩ := by
  rw [mshP_S e]
  refine WS_hex fun x => ?_
  have := h x.1 x.2
  rw [mshS_eq] at this
  exact this
theorem Ent.sta {H : HProp} {va ve : Value} {b : Nat} {s : Sta} {R : HProp} (gn : Nat) (vj : Value) (e : stasQ k.bs m.sts = staP b s * R) (h : Ent H (mshS g m k va ve el b gn vj s R * F)) : Ent H (mshP g m ⟨k.vs, k.bs, k.r, va, ve⟩ el * F) := by
  rw [mshP_S e]
  rw [mshS_eq] at h
  exact Ent.hexI (p := fun x : Nat × Value => staB b x.1 x.2 s) (gn, vj) h
end
end

section
open Go.RowKit
theorem mset_k (ws : List (UInt32 × List Str)) (d : UInt32) (l : List Str) : mset ws d l = match kfind (·.1) ws d with | some k => ws.set k (d, l) | none => ws ++ [(d, l)] := by
  have : ∀ ws : List (UInt32 × List Str), mfind ws d = kfind (·.1) ws d := fun ws => by
    induction ws with
    | nil => rfl
    | cons x r ih => simp only [mfind, kfind]; rw [ih]
  unfold mset
  rw [this]
  cases kfind (·.1) ws d <;> rfl
theorem wait_view (r : Nat) {vs : List (Option Addr × Nat × Nat)} {ws : List (UInt32 × List Str)} (hl : vs.length = ws.length) (d : UInt32) : ∃ R, (∀ Z, Ent (waitQ r vs ws * Z) (mp u32 slV' r (wmap vs ws) * (rows 9 1 strCc (optV slV' (.slice none 0 0) (mget (wmap vs ws) d)) ((mget ws d).getD []) * (R * Z)))) ∧
    (∀ Z, Ent (mp u32 slV' r (wmap vs ws) * (rows 9 1 strCc (optV slV' (.slice none 0 0) (mget (wmap vs ws) d)) ((mget ws d).getD []) * (R * Z))) (waitQ r vs ws * Z)) ∧
    ∀ v l, ∃ vs', ∀ Z, Ent (mp u32 slV' r (mset (wmap vs ws) d v) * (rows 9 1 strCc (slV' v) l * (R * Z))) (waitQ r vs' (mset ws d l) * Z) := by
  cases hk : kfind (·.1) ws d with
  | none =>
    have h1 : mget (wmap vs ws) d = none := mget_zmap_none (key := fun x : UInt32 × List Str => x.1) hl hk
    have h2 : mget ws d = none := by rw [mget_k, hk]; rfl
    rw [h1, h2]
    refine ⟨textsP vs ws, fun Z => ?_, fun Z => ?_, fun v l => ⟨vs ++ [v], fun Z => ?_⟩⟩
    · rw [waitQ_eq hl, star_assoc]
      exact Ent.tail _ (Ent.nil _ _ _ _ _)
    · rw [waitQ_eq hl, star_assoc]
      exact Ent.tail _ (Ent.drop _ _)
    · have h3 : mset (wmap vs ws) d v = wmap (vs ++ [v]) (ws ++ [(d, l)]) := mset_zmap_none (key := fun x : UInt32 × List Str => x.1) v (d, l) rfl hl hk
      rw [h3, mset_k, hk, waitQ_eq (by simp [hl]), textsP_z, textsP_z, zrow_snoc v (d, l) hl, star_assoc, star_assoc]
      exact Ent.refl _
  | some k =>
    obtain ⟨x, hx, hxd⟩ := kfind_some hk
    obtain ⟨v0, hv⟩ : ∃ v, vs[k]? = some v := ⟨_, List.getElem?_eq_getElem (by rw [hl]; exact (List.getElem?_eq_some_iff.1 hx).1)⟩
    have h1 : mget (wmap vs ws) d = some v0 := mget_zmap_some (key := fun x : UInt32 × List Str => x.1) hl hk hv
    have h2 : mget ws d = some x.2 := by rw [mget_k, hk]; simp [hx]
    obtain ⟨F1, e1, e2, _⟩ := zrow_hole txP hv hx
    rw [h1, h2]
    refine ⟨F1, fun Z => ?_, fun Z => ?_, fun v l => ⟨vs.set k v, fun Z => ?_⟩⟩
    · rw [waitQ_eq hl, textsP_z, e1, star_assoc, star_assoc]
      exact Ent.refl _
    · rw [waitQ_eq hl, textsP_z, e1, star_assoc, star_assoc]
      exact Ent.refl _
    · have h3 : mset (wmap vs ws) d v = wmap (vs.set k v) (ws.set k (d, l)) := mset_zmap_some (key := fun x : UInt32 × List Str => x.1) v (d, l) rfl hl hk
      rw [h3, mset_k, hk, waitQ_eq (by simp [hl]), textsP_z, e2, star_assoc, star_assoc]
      exact Ent.refl _
section
variable {P : Program} {n : Frm} {w0 : World} {E : Env} {D : List Deferred} {H F F1 F2 F3 F4 : HProp} {Q : Exit → St → Prop} {l l' : List Oper}
theorem WS_drawJ4 {id : Nat} (g1 g2 g3 g4 : Nat) (L : HProp) (idx : List Nat) (cp : Nat) (bs : List Nat) {bt bt2 bt3 bt4 : TypeId} {cs cs2 cs3 cs4 : List Value} (hs : statD P l idx (inB bs) cp = true) (hl : permL l idx = some l') (hR : LimbB H g1 bt cs F1) (hR2 : LimbB F1 g2 bt2 cs2 F2) (hR3 : LimbB F2 g3 bt3 cs3 F3) (hR4 : LimbB F3 g4 bt4 cs4 F4) (hL : Own F4 L F) (h : DL P n w0 l.toArray Q D (cel g1 bt cs * (cel g2 bt2 cs2 * (cel g3 bt3 cs3 * cel g4 bt4 cs4))) L (inB bs) cp 0 false l' E F) : WS P n w0 (.region id l.toArray true) Q ⟨E, D, H⟩ :=
  WS_draw idx l' (cel g1 bt cs * (cel g2 bt2 cs2 * (cel g3 bt3 cs3 * cel g4 bt4 cs4))) L F _ cp hs (by rw [hR.eq, hR2.eq, hR3.eq, hR4.eq, hL.eq]; simp only [star_assoc]) (permL_eq hl) h
end
instance asKey_sl (A : Option Addr) (m c : Nat) : AsKey slV' (.slice A m c) (A, m, c) := ⟨rfl⟩
section
variable {P : Program} {n : Frm} {w0 : World} {E : Env} {D : List Deferred} {H F F2 : HProp} {Q : Exit → St → Prop} {x y : Code} {σ : St}
theorem WS_mid (I : St → Prop) (h : WS P n w0 x (thenS (fun σ' => ∃ τ', I τ' ∧ τ'.E.sub σ'.E ∧ τ'.D = σ'.D ∧ Ent σ'.H τ'.H) Q) σ) (hm : ∀ τ, I τ → WS P n w0 y Q τ) : WS P n w0 (.seq x y) Q σ := WS_seq (h.mono fun e σ' h => by
  cases e with
  | normal =>
    obtain ⟨τ', hI, e1, e2, e3⟩ := h
    exact fun a w g => hm τ' hI a w (g.low e1 e2 e3)
  | _ => exact h)
variable {α : Type} {e : TypeId} {size bytes : Nat} {f : α → List Value} {v u : Value} {l : List α} {d : Option Tmp} {ty t : TypeId} {pos : String} {after : Array Edge} {gu : Option (Nat × Bool)} {x' y' : Operand}
theorem H_appendRF {ys : List α} (hx : E.ev x' = some v) (hy : E.ev y' = some u) (hl : RowsOf H v α e size f l F) {f' : α → List Value} (hl2 : RowsOf F u α e size f' ys F2) (hff : f' = f) (hT : SlTC P t e size bytes) (hf : FixLen f size) (h1 : ∀ z, ∀ c ∈ f z, c.oneCell' = true) (hn : l.length + ys.length ≤ 1000000) (hby : Nat.ble bytes 1000 = true) :
    OpH P n w0 ⟨d, .call ⟨.builtin .append, #[x', y'], #[t, t]⟩, ty, pos, after, gu⟩ E H (fun p : Option Addr × Nat × Nat => slV' p) (fun p => rows e size f (slV' p) (l ++ ys) * (rows e size f u ys * F2)) := by
  subst hff
  refine ⟨rows e size f' v l * rows e size f' u ys, fun p => rows e size f' (slV' p) (l ++ ys) * rows e size f' u ys, F2, ?_, by rw [hl.eq, hl2.eq, star_assoc], fun _ => by rw [star_assoc]⟩
  have h := T_append (n := n) (w0 := w0) (E := E) (d := d) (ty := ty) (pos := pos) (after := after) (gu := gu) ys (rows e size f' u ys) hx hy hT.out (.inl hT.out.ht) hf h1 (fun w G hs => Src.own hs.p2) hn (Nat.le_of_ble_eq_true hby)
  exact fun G a w K Q s hs hK => h G a w K Q s hs fun v' w' hs' => by
    obtain ⟨A, c, rfl⟩ := rows_form (hs'.cast (star_assoc _ _ _))
    exact hK (A, (l ++ ys).length, c) w' hs'
end
def tlK (A : Option Addr) (m c : Nat) : Option Addr × Nat × Nat := match sTail 1 (.slice A m c) 1 with
  | .slice a b c => (a, b, c)
  | _ => (none, 0, 0)
instance asKey_tl (A : Option Addr) (m c : Nat) : AsKey slV' (sTail 1 (.slice A m c) 1) (tlK A m c) := ⟨rfl⟩
theorem slV_tl (A : Option Addr) (m c : Nat) : slV' (tlK A m c) = sTail 1 (.slice A m c) 1 := rfl
instance asKey_sv (p : Option Addr × Nat × Nat) : AsKey slV' (slV' p) p := ⟨rfl⟩
def nodM (g : Nat) (s : Nd) (h : NH) (m : List (UInt32 × (Option Addr × Nat × Nat))) (v : Value) (l : List Str) (R : HProp) : HProp :=
  cel g 159 (nodC 1 s h s.out) * (rows 28 3 Rec.cells h.vr s.recs * (mp u32 u32 h.rh s.held * (tabQ h.tb s.self s.ls * (outH h s.out * (mp rqV u64 h.rs s.seen * (rows 269 2 rqC h.vo s.order * (mp u32 slV' h.rw m * (rows 9 1 strCc v l * (R * (mp u32 ptrV h.rq (qmap h.sb s.srs) * (mp i64 ptrV h.ri (imap h.sb s.srs) * (srsQ g h.sb s.srs * (clockQ h.cb h.cr s.last s.clk * rows 24 1 wrd64C h.vs s.sent)))))))))))))
def restW (g : Nat) (s : Nd) (h : NH) (Z : HProp) : HProp := cel g 159 (nodC 1 s h s.out) * (rows 28 3 Rec.cells h.vr s.recs * (mp u32 u32 h.rh s.held * (tabQ h.tb s.self s.ls * (outH h s.out * (mp rqV u64 h.rs s.seen * (rows 269 2 rqC h.vo s.order * (mp u32 ptrV h.rq (qmap h.sb s.srs) * (mp i64 ptrV h.ri (imap h.sb s.srs) * (srsQ g h.sb s.srs * (clockQ h.cb h.cr s.last s.clk * (rows 24 1 wrd64C h.vs s.sent * Z)))))))))))
theorem nodP_w (g : Nat) (s : Nd) (h : NH) (Z : HProp) : nodP g s h * Z = waitQ h.rw h.wv s.wait * restW g s h Z := by
  unfold nodP nodPm restP restC restW
  ac_rfl
theorem nodM_w (g : Nat) (s : Nd) (h : NH) (m : List (UInt32 × (Option Addr × Nat × Nat))) (v : Value) (l : List Str) (R Z : HProp) : nodM g s h m v l R * Z = mp u32 slV' h.rw m * (rows 9 1 strCc v l * (R * restW g s h Z)) := by
  unfold nodM restW
  ac_rfl
theorem nodM_out {g : Nat} {s : Nd} {h : NH} {m : List (UInt32 × (Option Addr × Nat × Nat))} {v : Value} {l : List Str} {R : HProp} {vs' : List (Option Addr × Nat × Nat)} {ws' : List (UInt32 × List Str)} (e : ∀ Z, Ent (mp u32 slV' h.rw m * (rows 9 1 strCc v l * (R * Z))) (waitQ h.rw vs' ws' * Z)) (Z : HProp) : Ent (nodM g s h m v l R * Z) (nodP g { s with wait := ws' } { h with wv := vs' } * Z) := by
  rw [nodP_w, nodM_w]
  exact e _
theorem WS_waits {P : Program} {n : Frm} {w0 : World} {E : Env} {D : List Deferred} {F : HProp} {c : Code} {Q : Exit → St → Prop} {g : Nat} {s : Nd} {h : NH} (d : UInt32) (hwv : h.wv.length = s.wait.length)
    (hw : ∀ A cap R, optV slV' (.slice none 0 0) (mget (wmap h.wv s.wait) d) = .slice A (s.texts d).length cap →
      (∀ Z, Ent (nodM g s h (wmap h.wv s.wait) (.slice A (s.texts d).length cap) (s.texts d) R * Z) (nodP g s h * Z)) →
      (∀ v l, ∃ vs', ∀ Z, Ent (nodM g s h (mset (wmap h.wv s.wait) d v) (slV' v) l R * Z) (nodP g { s with wait := mset s.wait d l } { h with wv := vs' } * Z)) →
      WS P n w0 c Q ⟨E, D, nodM g s h (wmap h.wv s.wait) (.slice A (s.texts d).length cap) (s.texts d) R * F⟩) : WS P n w0 c Q ⟨E, D, nodP g s h * F⟩ := by
  obtain ⟨R, e1, e3, e2⟩ := wait_view h.rw hwv d
  intro a w gd
  have hs : Sat w0 w (nodP g s h * F) := gd.sat
  rw [nodP_w] at hs
  have hs2 := (e1 _).sat hs
  obtain ⟨A, cap, hA⟩ := rows_form (hs2.cast (star_left_comm _ _ _))
  have hA' : optV slV' (.slice none 0 0) (mget (wmap h.wv s.wait) d) = .slice A (s.texts d).length cap := hA
  rw [hA] at hs2 e3
  refine hw A cap R hA' (fun Z => ?_) (fun v l => ?_) a w ⟨gd.sees, gd.defers, hs2.cast (by rw [nodM_w]; rfl)⟩
  · rw [nodP_w, nodM_w]; exact e3 _
  obtain ⟨vs', h1⟩ := e2 v l
  exact ⟨vs', fun Z => nodM_out h1 Z⟩
end

section
open Go.RowKit
instance eqlNilPV {P : Program} {t e : TypeId} {b : Nat} [h : Und P t (.pointer e)] : BinV P .eql t (ptrV b) (.pointer none) (.bool false) := eqlNilP (a := ⟨b, 0, none⟩)
instance neqNilPV {P : Program} {t e : TypeId} {b : Nat} [h : Und P t (.pointer e)] : BinV P .neq t (ptrV b) (.pointer none) (.bool true) := neqNilP (a := ⟨b, 0, none⟩)
attribute [local irreducible] WS LS OpQ OpT OpH OpTQ Spec SpecQ cel
variable (w0 : World)
set_option maxRecDepth 100000 in
theorem sendC_spec (gn : Nat) (s : Nd) (d : UInt32) (t : Str) (ht : t.length ≤ 16) (hi : s.Inv) (hnm : 0 ≤ s.names ∧ s.names ≤ 1000000) (hck : s.clk.length ≤ 100000) (hla : 0 ≤ s.last ∧ s.last ≤ 900000000000) (hf : s.Fit 6) (bn bd bt : Nat) (tn td tt : TypeId) : Spec Tryz.prog w0 144 [ptr bn 0, ptr bd 0, ptr bt 0] (nodA gn s * (cel bn tn [ptr gn 0] * (cel bd td [u32 d] * cel bt tt [strV t]))) (fun _ : Unit => .tuple #[]) (fun _ => nodA gn (s.sendT d t) * emp) := by
  refine Spec.enter Tryz.func144 rfl Tryz.ntmps144 rfl fun G => ?_
  rw [star_assoc (nodA gn s), star_assoc (cel bn tn _), star_assoc (cel bd td _)]
  refine WS_nod fun h => ?_
  simp only [argE]
  have ok := hi.tab.tab
  have p1 := hand_spec w0 gn s h d t (by omega) ok (hf.le (by omega))
  by_cases hr : (lookT s.ls d s.now).isSome = true
  · have es : s.sendT d t = s.hand d t := by unfold Nd.sendT; rw [if_pos hr]
    rw [hr] at p1
    repeat' (first | (refine WS_seqK ?_; intro K hK) | (refine hK _ ?_; clear hK K) | refine stZ ?_ | (refine s2Z ?_ ?_ <;> intro hc <;> (try simp only [cS] at hc) <;> (try (exfalso; first | contradiction | omega))) | refine sqZ ?_ | (refine LS_h (H_callX iI rfl p1 iI) rfl ?_; intro vf))
    exact ret_none (.inl rfl) rfl ⟨(), rfl, by rw [es, star_assoc (nodA _ _)]; exact Ent.nod { h with vf := vf } (finE)⟩
  have hr' : (lookT s.ls d s.now).isSome = false := by simpa using hr
  have eh : s.hand d t = s := by
    unfold Nd.hand
    cases hl : lookT s.ls d s.now with
    | none => rfl
    | some x => rw [hl] at hr; exact absurd rfl hr
  have es := Nd.sendT_eq s d t
  rw [if_neg hr] at es
  rw [eh, hr'] at p1
  obtain ⟨s1, hs1⟩ : ∃ s1, s1 = s.roomFor d := ⟨_, rfl⟩
  have hi1 : s1.Inv := by rw [hs1]; exact hi.roomFor d
  have hf1 : s1.Fit 5 := by rw [hs1]; exact Nd.Step.fit (Nd.Step.roomFor s d) (by have := hf.frames; omega) (by have := hf.came; omega) (by have := hf.dropped; omega) (by have := hf.recs; omega) (by have := hf.journal; omega)
  obtain ⟨e1, e2, e3, e4, e5, e6, e7, _⟩ := s.roomFor_eqs d
  have htx := texts_le hi d
  repeat' (first | (show WS _ _ _ (.seq (.seq (.region 1 _ _) _) _) _ _; refine WS_mid (fun τ => ∃ h2 : NH, τ = ⟨[(0, ptr bn 0), (0 + 1, ptr bd 0), (0 + 1 + 1, ptr bt 0)], [], nodP gn s1 h2 * (cel bn tn [ptr gn 0] * (cel bd td [u32 d] * (cel bt tt [strV t] * G)))⟩) ?_ ?_) | (refine WS_seqK ?_; intro K hK) | (refine hK _ ?_; clear hK K) | refine stZ ?_ | (refine s2Z ?_ ?_ <;> intro hc <;> (try simp only [cS] at hc) <;> (try (exfalso; first | contradiction | omega))) | refine sqZ ?_ | (refine LS_h (H_callX iI rfl p1 iI) rfl ?_; intro vf))
  · obtain ⟨h1, hh1⟩ : ∃ h1 : NH, h1 = { h with vf := vf } := ⟨_, rfl⟩
    rw [← hh1]
    clear p1 hh1
    refine WS_lens fun hsb hwv => ?_
    refine WS_waits d hwv fun A cap R hm hback hout => ?_
    obtain ⟨tx, htxe⟩ : ∃ tx, tx = s.texts d := ⟨_, rfl⟩
    have hrf : s.roomFor d = if tx.length = 4 then Nd.drop { s with wait := mset s.wait d (tx.drop 1) } 6 else s := by rw [htxe]; rfl
    rw [← htxe] at hm hback htx ⊢
    rw [hrf] at hs1
    clear htxe hrf
    by_cases h4 : tx.length = 4
    · rw [if_pos h4] at hs1
      obtain ⟨vs', hv'⟩ := hout (tlK A tx.length cap) (tx.drop 1)
      have p2 := drop_A w0 gn { s with wait := mset s.wait d (tx.drop 1) } { h1 with wv := vs' } 6 ⟨by have := hf.frames; show s.out.frames.length + 1 ≤ _; omega, by have := hf.came; show s.out.came.length + 1 ≤ _; omega, by have := hf.dropped; show s.out.dropped.length + 1 ≤ _; omega, by have := hf.recs; show s.recs.length + 9 * 1 ≤ _; omega, by have := hf.journal; show s.out.journal.length + 120 * 1 ≤ _; omega⟩
      rw [← hs1] at p2
      rw [slV_tl] at hv'
      simp only [nodM, nodC]
      repeat' (first | (show WS _ _ _ (.region 1 _ true) _ _; refine WS_drawA (.range 8) (by decide +kernel) rfl ?_) | (show WS _ _ _ (.region 2 _ true) _ _; refine WS_drawK (.range 13) 12 [0, 3, 4, 5, 8, 9, 10, 11] (by decide +kernel) rfl ?_) | (refine WS_seqK ?_; intro K hK) | (refine hK _ ?_; clear hK K) | refine stZ ?_ | (refine s2Z ?_ ?_ <;> intro hc <;> (try simp only [cS] at hc) <;> (try (exfalso; first | contradiction | omega))) | refine sbZ ?_ | refine sqZ ?_ | ((first | refine' LQ ?zh rfl ?_ | refine' DL_qp rfl rfl rfl ?zh ?_ | refine' DL_q rfl rfl ?zh ?_); case zh => intro F'; first | exact Q_lookupE rfl rfl iI iI iI iI iI (by assumption) | exact Q_sliceR_l rfl rfl iI iI iI iI (by first | assumption | omega | (simp [be_length] <;> omega))) | ((refine' DL_h0 ?zh rfl rfl ?_); (case zh => exact H_mapUpdate rfl rfl rfl iI iI iI iI iI); intro g) | (refine LS_ent (Ent.trans (Ent.trans (Ent.tailR (v := .slice A tx.length cap) 1 (by omega)) (Ent.trans (by simp only [nodM, nodC]; exact finE) (hv' _))) (Ent.refl _)) ?_; refine LS_h (H_callX iI rfl p2 iI) rfl ?_; intro x5; refine LS_nod fun h5 => ?_))
      exact ⟨_, ⟨h5, rfl⟩, ⟨rfl, rfl, rfl, trivial⟩, rfl, finE⟩
    · rw [if_neg h4] at hs1
      simp only [nodM, nodC]
      repeat' (first | (show WS _ _ _ (.region 1 _ true) _ _; refine WS_drawA (.range 8) (by decide +kernel) rfl ?_) | (refine hK _ ?_; clear hK K) | refine stZ ?_ | (refine s2Z ?_ ?_ <;> intro hc <;> (try simp only [cS] at hc) <;> (try (exfalso; first | contradiction | omega))) | refine sbZ ?_ | refine sqZ ?_ | ((refine' DL_q rfl rfl ?zh ?_); case zh => intro F'; exact Q_lookupE rfl rfl iI iI iI iI iI (by assumption)))
      refine ⟨_, ⟨h1, rfl⟩, ⟨rfl, rfl, rfl, trivial⟩, rfl, ?_⟩
      rw [hs1]
      refine Ent.trans ?_ (hback _)
      simp only [nodM, nodC]
      exact finE
  · rintro τ ⟨h2, rfl⟩
    have hrt := Nd.roomFor_texts s d htx.1
    have hnm1 : s1.names = s.names := by rw [hs1, e1]
    have hck1 : s1.clk = s.clk := by rw [hs1, e2]
    have hla1 : s1.last = s.last := by rw [hs1, e3]
    rw [← hs1] at hrt es
    have htx1 := texts_le hi1 d
    clear p1
    refine WS_lens fun hsb hwv => ?_
    refine WS_waits d hwv fun A cap R hm hback hout => ?_
    obtain ⟨tx, htxe⟩ : ∃ tx, tx = s1.texts d := ⟨_, rfl⟩
    have hput : s1.put d t = { s1 with wait := mset s1.wait d (tx ++ [t]) } := by rw [htxe]; rfl
    rw [← htxe] at hm hback hrt htx1 ⊢
    clear htxe
    have hi2 : (s1.put d t).Inv := by
      rw [hput]
      refine hi1.put d _ (by simp; omega) fun x hx => ?_
      rcases List.mem_append.1 hx with hx | hx
      · exact htx1.2 x hx
      · simp at hx; subst hx; exact ht
    have hq : srFind (s1.put d t).srs d = kfind (·.dest) s1.srs d := srFind_k _ _
    rw [hq] at es
    cases hk : kfind (·.dest) s1.srs d with
    | some k =>
      obtain ⟨x, hx, hxd⟩ := kfind_some hk
      obtain ⟨b, hb⟩ : ∃ b, h2.sb[k]? = some b := ⟨_, List.getElem?_eq_getElem (by rw [hsb]; exact (List.getElem?_eq_some_iff.1 hx).1)⟩
      have hmq : mget (qmap h2.sb s1.srs) d = some b := mget_zmap_some (key := fun x : Sr => x.dest) hsb hk hb
      rw [hk] at es
      simp only at es
      simp only [nodM, nodC]
      repeat' (first | (show WS _ _ _ (.region 5 _ true) _ _; refine WS_drawA (.range 7) (by decide +kernel) rfl ?_) | (refine WS_seqK ?_; intro K hK) | (refine hK _ ?_; clear hK K) | refine stZ ?_ | (refine s2Z ?_ ?_ <;> intro hc <;> (try simp only [cS] at hc) <;> (try (exfalso; first | contradiction | omega))) | refine sqZ ?_ | ((first | refine' DL_qp rfl rfl rfl ?zh ?_ | refine' DL_q rfl rfl ?zh ?_); case zh => intro F'; first | exact Q_bin rfl rfl iI | exact Q_lookupE rfl rfl iI iI iI iI iI (by assumption) | exact Q_lookup_s rfl rfl iI iI iI iI iI (by assumption)) | ((refine' DL_h0 ?zh rfl rfl ?_); (case zh => exact H_mapUpdate rfl rfl rfl iI iI iI iI iI); intro g) | (refine DL_h (H_buildSliceR strCc [t] iI iI iI rfl rfl rfl rfl rfl iI rfl rfl rfl) rfl rfl rfl ?_; intro vx) | (refine DL_h (H_appendRF rfl rfl iI iI rfl iI iI strCc_one (by first | omega | (simp [be_length] <;> omega)) rfl) rfl rfl rfl ?_; intro pv) | (show WS _ _ _ (.region 4 _ true) _ _; refine WS_drawJ4 gn bn bd bt (mp u32 slV' h2.rw (wmap h2.wv s1.wait)) [0, 1, 2, 3, 4, 5, 6, 7, 8, 9, 10, 11, 12, 13, 14] 14 [10] (by decide +kernel) rfl iI iI iI iI iI ?_))
      obtain ⟨vs', hv'⟩ := hout pv (tx ++ [t])
      refine ret_none (.inr rfl) rfl ⟨(), rfl, ?_⟩
      rw [es, hput, star_assoc (nodA _ _)]
      refine Ent.trans ?_ ((hv' _).trans (Ent.nod { h2 with wv := vs' } (Ent.refl _)))
      simp only [nodM, nodC]
      exact finE
    | none =>
      have hmq : mget (qmap h2.sb s1.srs) d = none := mget_zmap_none (key := fun x : Sr => x.dest) hsb hk
      rw [hk] at es
      simp only at es
      have p5 := fun vs' => begin_spec w0 gn (s1.put d t) { h2 with wv := vs' } d (hq.trans hk) hi2.sr hi2.tab.tab (by show 0 ≤ s1.names ∧ s1.names ≤ _; rw [hnm1]; omega) hi2.order (by have := hi2.sent; omega) (by show s1.clk.length ≤ _; rw [hck1]; omega) (by show 0 ≤ s1.last ∧ s1.last ≤ _; rw [hla1]; omega) (by exact ⟨by have := hf1.frames; show s1.out.frames.length + 3 ≤ _; omega, by have := hf1.came; show s1.out.came.length + 3 ≤ _; omega, by have := hf1.dropped; show s1.out.dropped.length + 3 ≤ _; omega, by have := hf1.recs; show s1.recs.length + 9 * 3 ≤ _; omega, by have := hf1.journal; show s1.out.journal.length + 120 * 3 ≤ _; omega⟩)
      have ebg : Nd.ask ((s1.put d t).newSr d) (s1.put d t).srs.length ⟨d, 1, 0, false, (s1.put d t).names + 1⟩ = s.sendT d t := by rw [es]; rfl
      rw [ebg, hput] at p5
      simp only [nodM, nodC]
      repeat' (first | (show WS _ _ _ (.region 5 _ true) _ _; refine WS_drawA (.range 7) (by decide +kernel) rfl ?_) | (refine WS_seqK ?_; intro K hK) | (refine hK _ ?_; clear hK K) | refine stZ ?_ | (refine s2Z ?_ ?_ <;> intro hc <;> (try simp only [cS] at hc) <;> (try (exfalso; first | contradiction | omega))) | refine sqZ ?_ | ((first | refine' LQ ?zh rfl ?_ | refine' DL_qp rfl rfl rfl ?zh ?_ | refine' DL_q rfl rfl ?zh ?_); case zh => intro F'; first | exact Q_bin rfl rfl iI | exact Q_lookupE rfl rfl iI iI iI iI iI (by assumption) | exact Q_lookup_n rfl rfl iI iI iI iI iI (by assumption)) | ((refine' DL_h0 ?zh rfl rfl ?_); (case zh => exact H_mapUpdate rfl rfl rfl iI iI iI iI iI); intro g) | (refine DL_h (H_buildSliceR strCc [t] iI iI iI rfl rfl rfl rfl rfl iI rfl rfl rfl) rfl rfl rfl ?_; intro vx) | (refine DL_h (H_appendRF rfl rfl iI iI rfl iI iI strCc_one (by first | omega | (simp [be_length] <;> omega)) rfl) rfl rfl rfl ?_; intro pv) | (show WS _ _ _ (.region 4 _ true) _ _; refine WS_drawJ4 gn bn bd bt (mp u32 slV' h2.rw (wmap h2.wv s1.wait)) [0, 1, 2, 3, 4, 5, 6, 7, 8, 9, 10, 11, 12, 13, 14] 14 [10] (by decide +kernel) rfl iI iI iI iI iI ?_) | (obtain ⟨vs', hv'⟩ := hout pv (tx ++ [t]); refine LS_ent (Ent.trans (by simp only [nodM, nodC]; exact finE) (hv' (cel bn tn [ptr gn 0] * (cel bd td [u32 d] * (cel bt tt [strV t] * G))))) ?_; refine LS_h (H_callX iI rfl (p5 vs') iI) rfl ?_; intro x5))
      exact ret_none (.inr rfl) rfl ⟨(), rfl, by rw [star_assoc (nodA _ _)]; exact finE⟩
end

section
open Go.RowKit
theorem Nd.begin_fit {s : Nd} {c : Nat} (h : s.Rest c) (now : UInt64) : (s.begin now).Fit 10 := by
  have h1 := Nd.begin_recs s now h.inv.tab.tab
  have h2 := Nd.begin_jour s now h.inv.tab.tab
  have h3 := h.recs
  exact ⟨by rw [Nd.begin_frames]; simp, by rw [Nd.begin_came]; simp, by rw [Nd.begin_dropped]; simp, by omega, by omega⟩
attribute [local irreducible] WS LS OpQ OpT OpH OpTQ Spec SpecQ cel
variable (w0 : World)
set_option maxRecDepth 100000 in
theorem ntick_spec (gn : Nat) (s : Nd) (now : UInt64) {c : Nat} (hr : s.Rest c) (hc : c ≤ 8500) (hn : now.toNat ≤ 4611686018427387904) : Spec Tryz.prog w0 87 [ptr gn 0, u64 now] (nodI gn s) (fun x : Value × Value × Value => outA (s.tickF now).out x) (fun x => nodI gn (s.tickF now) * outR (s.tickF now).out x) := by
  have hR := hr.ready hc hn
  obtain ⟨i, hi, hT⟩ := Nd.tick_run hR
  have h1 := hT.step.recs
  have h2 := hT.step.journal
  have h3 := Nd.begin_recs s now hr.inv.tab.tab
  have h4 := Nd.begin_jour s now hr.inv.tab.tab
  have h5 := hr.recs
  have h6 := hR.clk
  have p1 := fun bn bw => does_spec w0 gn s ((s.begin now).tick now) now (by omega) hr.inv.tab.tab (by omega) (by omega) hT.inv.tab.tab 142 [ptr bn 0, ptr bw 0] _ _ (tickC_spec w0 gn (s.begin now) now hR bn bw 90 24)
  unfold Nd.tickF
  generalize ((s.begin now).tick now).done = s2 at p1 ⊢
  simp only [outA, outR] at p1 ⊢
  refine Spec.enter Tryz.func87 rfl Tryz.ntmps87 rfl fun G => ?_
  simp only [argE]
  repeat' (first | (refine WS_seqK ?_; intro K hK) | (refine hK _ ?_; clear hK K) | refine stZ ?_ | refine sqZ ?_ | (refine shZ ?_; intro g) | (refine s0Z ?_; intro g) | (refine LS_h (H_callX iI rfl (p1 _ _) iI) rfl ?_; intro x))
  exact ret_1 (.inl rfl) rfl (RV_cell rfl iI iI rfl) ⟨x.1, rfl, finE⟩
set_option maxRecDepth 100000 in
theorem nbroken_spec (gn : Nat) (s : Nd) (now : UInt64) (nb : UInt32) {c : Nat} (hr : s.Rest c) : Spec Tryz.prog w0 136 [ptr gn 0, u64 now, u32 nb] (nodI gn s) (fun x : Value × Value × Value => outA (s.brkF now nb).out x) (fun x => nodI gn (s.brkF now nb) * outR (s.brkF now nb).out x) := by
  have hb := hr.inv.begin now
  have hs := Nd.Step.brk (s.begin now) nb
  have h1 := hs.recs
  have h2 := hs.journal
  have h3 := Nd.begin_recs s now hr.inv.tab.tab
  have h4 := Nd.begin_jour s now hr.inv.tab.tab
  have h5 := hr.recs
  have p1 := fun bn bx => does_spec w0 gn s ((s.begin now).brk nb) now (by omega) hr.inv.tab.tab (by omega) (by omega) (hb.brk nb).tab.tab 193 [ptr bn 0, ptr bx 0] _ _ (brkC_spec w0 gn (s.begin now) nb hb.tab.tab ((Nd.begin_fit hr now).le (by omega)) bn bx 90 26)
  unfold Nd.brkF
  generalize ((s.begin now).brk nb).done = s2 at p1 ⊢
  simp only [outA, outR] at p1 ⊢
  refine Spec.enter Tryz.func136 rfl Tryz.ntmps136 rfl fun G => ?_
  simp only [argE]
  repeat' (first | (refine WS_seqK ?_; intro K hK) | (refine hK _ ?_; clear hK K) | refine stZ ?_ | refine sqZ ?_ | (refine shZ ?_; intro g) | (refine s0Z ?_; intro g) | (refine LS_h (H_callX iI rfl (p1 _ _) iI) rfl ?_; intro x))
  exact ret_1 (.inl rfl) rfl (RV_cell rfl iI iI rfl) ⟨x.1, rfl, finE⟩
end

section
open Go.RowKit
def Nd.sendE (s : Nd) (d : UInt32) (t : Str) : Int := if 16 < t.length then 6 else if d = s.self ∨ d = 0 then 2 else 0
def outNo : Value := .agg #[strV [], .bool false, .slice none 0 0, .slice none 0 0, .slice none 0 0]
attribute [local irreducible] WS LS OpQ OpT OpH OpTQ Spec SpecQ cel
variable (w0 : World)
set_option maxRecDepth 100000 in
theorem nsendT_spec (gn : Nat) (s : Nd) (now : UInt64) (d : UInt32) (t : Str) {c : Nat} (hr : s.Rest c) (hc : c ≤ 8500) (hn : now.toNat ≤ 4611686018427387904) (he : s.sendE d t = 0) : Spec Tryz.prog w0 89 [ptr gn 0, u64 now, u32 d, strV t] (nodI gn s) (fun x : Value × Value × Value => .tuple #[outA (s.sendF now d t).out x, .int .i64 0]) (fun x => nodI gn (s.sendF now d t) * outR (s.sendF now d t).out x) := by
  have ht : t.length ≤ 16 := by unfold Nd.sendE at he; split at he; cases he; omega
  have hd : d ≠ s.self ∧ d ≠ 0 := by
    unfold Nd.sendE at he
    rw [if_neg (by omega)] at he
    split at he
    · cases he
    · rename_i h; exact ⟨fun e => h (.inl e), fun e => h (.inr e)⟩
  obtain ⟨hd1, hd2⟩ := hd
  have hb := hr.inv.begin now
  obtain ⟨e1, e2, e3, e4, e5, e6⟩ := s.begin_same now
  have hs := Nd.Step.sendT8 hb d t
  have h1 := hs.recs
  have h2 := hs.journal
  have h3 := Nd.begin_recs s now hr.inv.tab.tab
  have h4 := Nd.begin_jour s now hr.inv.tab.tab
  have h5 := hr.recs
  have g1 := hr.names; have g2 := hr.clk; have g3 := hr.last
  have hi2 := hb.sendT d t ht (by rw [e4]; exact g1.1)
  have p1 := fun bn bd bt => does_spec w0 gn s ((s.begin now).sendT d t) now (by omega) hr.inv.tab.tab (by omega) (by omega) hi2.tab.tab 144 [ptr bn 0, ptr bd 0, ptr bt 0] _ _ (sendC_spec w0 gn (s.begin now) d t ht hb (by rw [e4]; omega) (by rw [e2]; omega) (by rw [e3]; omega) ((Nd.begin_fit hr now).le (by omega)) bn bd bt 90 26 9)
  unfold Nd.sendF
  generalize ((s.begin now).sendT d t).done = s2 at p1 ⊢
  simp only [outA, outR] at p1 ⊢
  refine Spec.enter Tryz.func89 rfl Tryz.ntmps89 rfl fun G => ?_
  refine WS_nodI fun h o => ?_
  have p2 := fun bn bd bt => (p1 bn bd bt).conv (X' := (cel gn 159 (nodC 0 s h o) * (rows 28 3 Rec.cells h.vr s.recs * (mp u32 u32 h.rh s.held * (tabQ h.tb s.self s.ls * restP gn s h)))) * (cel bn 90 [ptr gn 0] * (cel bd 26 [u32 d] * cel bt 9 [strV t]))) (fun Z => by rw [star_assoc, star_assoc (nodI _ _)]; exact ent_nodI h o (Ent.refl _)) (fun _ _ => Ent.refl _)
  simp only [argE, nodC] at p2 ⊢
  clear p1
  have hd1' : ¬ d = s.self := hd1
  have hd2' : ¬ d = 0 := hd2
  have htl : ¬ (16 : Int) < (t.length : Int) := by omega
  repeat' (first | (show WS _ _ _ (.region 3 _ true) _ _; refine WS_drawA (.range 11) (by decide +kernel) rfl ?_) | (refine WS_seqK ?_; intro K hK) | (refine hK _ ?_; clear hK K) | refine stZ ?_ | (refine s2Z ?_ ?_ <;> intro hc <;> (try simp only [cS] at hc) <;> (try (exfalso; first | contradiction | omega))) | refine sbZ ?_ | refine sqZ ?_ | (refine shZ ?_; intro g) | (refine s0Z ?_; intro g) | (refine LS_h (H_callX iI rfl (p2 _ _ _) iI) rfl ?_; intro x))
  exact ret_2 (.inl rfl) rfl (RV_cell rfl iI iI rfl) (RV_tmp rfl) ⟨x.1, rfl, finE⟩
set_option maxRecDepth 100000 in
theorem nsendNo_spec (gn : Nat) (s : Nd) (now : UInt64) (d : UInt32) (t : Str) (he : s.sendE d t ≠ 0) : Spec Tryz.prog w0 89 [ptr gn 0, u64 now, u32 d, strV t] (nodI gn s) (fun _ : Unit => .tuple #[outNo, .int .i64 (s.sendE d t)]) (fun _ => nodI gn s) := by
  refine Spec.enter Tryz.func89 rfl Tryz.ntmps89 rfl fun G => ?_
  refine WS_nodI fun h o => ?_
  simp only [argE, nodC]
  unfold Nd.sendE at he ⊢
  by_cases ht : 16 < t.length
  · rw [if_pos ht]
    have htl : (16 : Int) < (t.length : Int) := by omega
    repeat' (first | (refine WS_seqK ?_; intro K hK) | (refine hK _ ?_; clear hK K) | refine stZ ?_ | (refine s2Z ?_ ?_ <;> intro hc <;> (try simp only [cS] at hc) <;> (try (exfalso; first | contradiction | omega))) | refine sbZ ?_ | refine sqZ ?_ | (refine shZ ?_; intro g) | (refine s0Z ?_; intro g))
    exact ret_2 (.inl rfl) rfl (RV_cell rfl iI iI rfl) (RV_tmp rfl) ⟨(), rfl, by refine ent_nodI h o ?_; simp only [nodC]; exact finE⟩
  · rw [if_neg ht] at he ⊢
    have htl : ¬ (16 : Int) < (t.length : Int) := by omega
    have hd : d = s.self ∨ d = 0 := by
      apply Classical.byContradiction
      intro hd
      rw [if_neg hd] at he
      exact he rfl
    rw [if_pos hd]
    by_cases hd1 : d = s.self
    · repeat' (first | (show WS _ _ _ (.region 3 _ true) _ _; refine WS_drawA (.range 11) (by decide +kernel) rfl ?_) | (refine WS_seqK ?_; intro K hK) | (refine hK _ ?_; clear hK K) | refine stZ ?_ | (refine s2Z ?_ ?_ <;> intro hc <;> (try simp only [cS] at hc) <;> (try (exfalso; first | contradiction | omega))) | refine sbZ ?_ | refine sqZ ?_ | (refine shZ ?_; intro g) | (refine s0Z ?_; intro g))
      exact ret_2 (.inl rfl) rfl (RV_cell rfl iI iI rfl) (RV_tmp rfl) ⟨(), rfl, by refine ent_nodI h o ?_; simp only [nodC]; exact finE⟩
    · have hd2 : d = 0 := hd.resolve_left hd1
      repeat' (first | (show WS _ _ _ (.region 3 _ true) _ _; refine WS_drawA (.range 11) (by decide +kernel) rfl ?_) | (refine WS_seqK ?_; intro K hK) | (refine hK _ ?_; clear hK K) | refine stZ ?_ | (refine s2Z ?_ ?_ <;> intro hc <;> (try simp only [cS] at hc) <;> (try (exfalso; first | contradiction | omega))) | refine sbZ ?_ | refine sqZ ?_ | (refine shZ ?_; intro g) | (refine s0Z ?_; intro g))
      exact ret_2 (.inl rfl) rfl (RV_cell rfl iI iI rfl) (RV_tmp rfl) ⟨(), rfl, by refine ent_nodI h o ?_; simp only [nodC]; exact finE⟩
end

section
open Go.RowKit
attribute [local irreducible] WS LS OpQ OpT OpH OpTQ Spec SpecQ cel
variable (w0 : World)
set_option maxRecDepth 100000 in
theorem request_spec (gn : Nat) (s : Nd) (h : NH) (src : UInt32) (p : Pk) (hp : p.Read) (v : Value) (ok : TabOk s.ls) (ho : s.order.length ≤ 16) (hf : s.Fit 1) : Spec Tryz.prog w0 118 [ptr gn 0, u32 src, p.val v] (nodP gn s h * rows 180 2 lostC v p.lost) (fun _ : Unit => .tuple #[]) (fun _ => nodA gn (s.req src p)) := by
  refine Spec.enter Tryz.func118 rfl Tryz.ntmps118 rfl fun G => ?_
  refine WS_form v iI fun A c hv => ?_
  subst hv
  obtain ⟨hp1, hp2, hp3, hp4, hp5⟩ := hp
  obtain ⟨ttl, kind, hops, unknown, id, dest, destSeq, from_, fromSeq, life, lost, payload⟩ := p
  simp only [Pk.val, Pk.cells, argE] at *
  have p1 := drop_A w0 gn s h 1 hf
  have hsv : optV u64 (.int .u64 0) (mget s.seen (⟨from_, id⟩ : Rq)) = u64 (seenAt s.seen ⟨from_, id⟩) := by unfold seenAt; cases mget s.seen (⟨from_, id⟩ : Rq) <;> rfl
  by_cases h1 : from_ = s.self
  · have es : s.req src ⟨ttl, kind, hops, unknown, id, dest, destSeq, from_, fromSeq, life, lost, payload⟩ = s.drop 1 := by unfold Nd.req; rw [if_pos (.inl h1)]
    simp only [nodP, nodPm, nodC, outH, restP] at p1 ⊢
    repeat' (first | (show WS _ _ _ (.region 2 _ true) _ _; refine WS_drawA (.range 20) (by decide +kernel) rfl ?_) | (refine WS_seqK ?_; intro K hK) | (refine hK _ ?_; clear hK K) | refine stZ ?_ | (refine s2Z ?_ ?_ <;> intro hc <;> (try simp only [cS] at hc) <;> (try (exfalso; first | contradiction | omega))) | refine sbZ ?_ | refine sqZ ?_ | (refine shZ ?_; intro g) | (refine s0Z ?_; intro g) | (refine LS_h (H_callX iI rfl p1 iI) rfl ?_; intro x1))
    exact ret_none (.inl rfl) rfl ⟨(), rfl, by rw [es]; exact finE⟩
  by_cases h2 : s.now < seenAt s.seen ⟨from_, id⟩
  · have es : s.req src ⟨ttl, kind, hops, unknown, id, dest, destSeq, from_, fromSeq, life, lost, payload⟩ = s.drop 1 := by unfold Nd.req; rw [if_pos (.inr h2)]
    simp only [nodP, nodPm, nodC, outH, restP, restC] at p1 ⊢
    repeat' (first | (show WS _ _ _ (.region 2 _ true) _ _; refine WS_drawA (.range 20) (by decide +kernel) rfl ?_) | (refine WS_seqK ?_; intro K hK) | (refine hK _ ?_; clear hK K) | refine stZ ?_ | (refine s2Z ?_ ?_ <;> intro hc <;> (try simp only [cS] at hc) <;> (try (exfalso; first | contradiction | omega))) | refine sbZ ?_ | refine sqZ ?_ | ((first | refine' LQ ?zh rfl ?_ | refine' DL_q rfl rfl ?zh ?_ | refine' DL_qg rfl rfl rfl ?zh ?_); case zh => intro F'; exact Q_lookupE rfl rfl iI iI iI iI iI (by assumption)) | (refine shZ ?_; intro g) | (refine s0Z ?_; intro g) | (refine LS_h (H_callX iI rfl p1 iI) rfl ?_; intro x1))
    exact ret_none (.inl rfl) rfl ⟨(), rfl, by rw [es]; exact finE⟩
  clear p1
  obtain ⟨s1, hs1⟩ : ∃ s1 : Nd, s1 = s.remember ⟨from_, id⟩ := ⟨_, rfl⟩
  have hf1 : s1.Fit 1 := by rw [hs1]; exact hf.remember _
  have ok1 : TabOk s1.ls := by rw [hs1, (s.remember_eqs _).1]; exact ok
  have p2 := remember_spec w0 gn s h ⟨from_, id⟩ ho
  have p3 := fun vo => soon_spec w0 gn s1 { h with vo := vo }
  have p4 := update_spec w0 h.tb s1.self s1.ls ok1 (Ln.learned from_ fromSeq (min (hops + 1) 255) src s1.soon) rfl rfl (by simp only [Ln.learned]; omega)
  have p6 := fun ls1 => use_spec w0 h.tb s1.self ls1 from_ s1.soon
  rw [← hs1] at p2
  have hcd := updT_code s1.self s1.ls (Ln.learned from_ fromSeq (min (hops + 1) 255) src s1.soon)
  have okU := ok1.upd s1.self (Ln.learned from_ fromSeq (min (hops + 1) 255) src s1.soon) (by simp only [Ln.learned]; omega)
  have es : s.req src ⟨ttl, kind, hops, unknown, id, dest, destSeq, from_, fromSeq, life, lost, payload⟩ = if (updT s1.self s1.ls (Ln.learned from_ fromSeq (min (hops + 1) 255) src s1.soon)).1 = 4 then Nd.drop { s1 with ls := (updT s1.self s1.ls (Ln.learned from_ fromSeq (min (hops + 1) 255) src s1.soon)).2 } 2 else Nd.req2 { s1 with ls := if (updT s1.self s1.ls (Ln.learned from_ fromSeq (min (hops + 1) 255) src s1.soon)).1 = 3 then useT (updT s1.self s1.ls (Ln.learned from_ fromSeq (min (hops + 1) 255) src s1.soon)).2 from_ s1.soon else (updT s1.self s1.ls (Ln.learned from_ fromSeq (min (hops + 1) 255) src s1.soon)).2 } ⟨ttl, kind, hops, unknown, id, dest, destSeq, from_, fromSeq, life, lost, payload⟩ := by
    unfold Nd.req
    simp only
    rw [if_neg (by rintro (e | e); exact h1 e; exact h2 e), ← hs1]
    rfl
  generalize hu : updT s1.self s1.ls (Ln.learned from_ fromSeq (min (hops + 1) 255) src s1.soon) = u at p4 hcd okU es
  obtain ⟨e, ls1⟩ := u
  simp only at p4 hcd okU es
  simp only [Ln.learned, routeC] at p4
  have p5 := fun vo => drop_A w0 gn { s1 with ls := ls1 } { h with vo := vo } 2 (hf1.ls ls1)
  rw [es]
  clear es hu
  simp only [nodP, nodPm, nodC, outH, restP, restC, rqV, rqC] at p2 p3 p5 ⊢
  by_cases he4 : e = 4
  · rw [if_pos he4]
    subst he4
    repeat' (first | (show WS _ _ _ (.region 2 _ true) _ _; refine WS_drawA (.range 20) (by decide +kernel) rfl ?_) | (show WS _ _ _ (.region 6 _ true) _ _; refine WS_drawK (.range 14) 13 [3, 5, 7] (by decide +kernel) rfl ?_) | (refine WS_seqK ?_; intro K hK) | (refine hK _ ?_; clear hK K) | refine stZ ?_ | (refine s2Z ?_ ?_ <;> intro hc <;> (try simp only [cS] at hc) <;> (try (exfalso; first | contradiction | omega))) | refine sbZ ?_ | refine sqZ ?_ | ((first | refine' LQ ?zh rfl ?_ | refine' DL_qp rfl rfl rfl ?zh ?_ | refine' DL_q rfl rfl ?zh ?_ | refine' DL_qg rfl rfl rfl ?zh ?_); case zh => intro F'; exact Q_lookupE rfl rfl iI iI iI iI iI (by assumption)) | (refine shZ ?_; intro g) | (refine s0Z ?_; intro g) | (refine LS_h (H_callX iI rfl p2 iI) rfl ?_; intro vo; replace p3 := p3 vo; replace p5 := p5 vo) | (refine DL_callS iI rfl p3 iI rfl ?_) | (refine DL_h (H_callX iI rfl p4 iI) rfl rfl rfl ?_; intro x4) | (refine LS_h (H_callX iI rfl p5 iI) rfl ?_; intro x5))
    exact ret_none (.inl rfl) rfl ⟨(), rfl, finE⟩
  rw [if_neg he4]
  clear p5
  obtain ⟨ls2, hls2⟩ : ∃ ls2, ls2 = if e = 3 then useT ls1 from_ s1.soon else ls1 := ⟨_, rfl⟩
  have ok2 : TabOk ls2 := by rw [hls2]; split; exact okU.use _ _; exact okU
  obtain ⟨s2, hs2⟩ : ∃ s2 : Nd, s2 = { s1 with ls := ls2 } := ⟨_, rfl⟩
  have ok2' : TabOk s2.ls := by rw [hs2]; exact ok2
  have hf2 : s2.Fit 1 := by rw [hs2]; exact hf1.ls _
  rw [← hls2, ← hs2]
  have q1 := drop_A w0 gn s2
  by_cases he3 : e = 3
  all_goals
    first | rw [if_pos he3] at hls2; subst he3 | rw [if_neg he3] at hls2
    repeat' (first | (show WS _ _ _ (.region 2 _ true) _ _; refine WS_drawA (.range 20) (by decide +kernel) rfl ?_) | (show WS _ _ _ (.region 6 _ true) _ _; refine WS_drawK (.range 14) 13 [3, 5, 7] (by decide +kernel) rfl ?_) | (show WS _ _ _ (.region 10 _ true) _ _; refine WS_drawK (.range 9) 8 [3, 5] (by decide +kernel) rfl ?_) | (refine WS_seqK ?_; intro K hK) | (refine hK _ ?_; clear hK K) | refine stZ ?_ | (refine s2Z ?_ ?_ <;> intro hc <;> (try simp only [cS] at hc) <;> (try (exfalso; first | contradiction | omega))) | refine sbZ ?_ | refine sqZ ?_ | ((first | refine' LQ ?zh rfl ?_ | refine' DL_qp rfl rfl rfl ?zh ?_ | refine' DL_q rfl rfl ?zh ?_ | refine' DL_qg rfl rfl rfl ?zh ?_); case zh => intro F'; exact Q_lookupE rfl rfl iI iI iI iI iI (by assumption)) | ((first | refine' LS_h ?zh rfl ?_ | refine' DL_h ?zh rfl rfl rfl ?_); (case zh => exact H_alloc iI); intro g) | (refine s0Z ?_; intro g) | (refine LS_h (H_box rfl) rfl ?_; intro gp) | (refine LS_h (H_callX iI rfl p2 iI) rfl ?_; intro vo; replace p3 := p3 vo) | (refine DL_callS iI rfl p3 iI rfl ?_) | (refine DL_h (H_callX iI rfl p4 iI) rfl rfl rfl ?_; intro x4) | (refine DL_h (H_callX iI rfl (p6 ls1) iI) rfl rfl rfl ?_; intro x5))
    obtain ⟨h1, hh1⟩ : ∃ h1 : NH, h1 = { h with vo := vo } := ⟨_, rfl⟩
    refine WS_ent (H' := nodP gn s2 h1 * (cel gp 44 [.int .i64 ttl, .int .i64 kind, .int .i64 hops, .bool unknown, u32 id, u32 dest, u32 destSeq, u32 from_, u32 fromSeq, u32 life, .slice A lost.length c, strV payload] * (rows 180 2 lostC (.slice A lost.length c) lost * G))) (by rw [hs2, hh1, hls2]; simp only [nodP, nodPm, nodC, outH, restP, restC]; exact finE) ?_
    clear p2 p3 p4 p6 hh1 hs2 hls2 hsv
    by_cases hd : dest = s2.self
    · obtain ⟨s3, hs3⟩ : ∃ s3 : Nd, s3 = { s2 with seq := if unknown then s2.seq else max s2.seq destSeq } := ⟨_, rfl⟩
      have a1 := answer_spec w0 gn s3 h1 ⟨0, 0, 0, false, 0, dest, s3.seq, from_, 0, 6000, [], []⟩ rfl (by simp [i64R]) (by simp) (by rw [hs3]; exact ok2') (by rw [hs3]; exact ⟨hf2.frames, hf2.came, hf2.dropped, hf2.recs, hf2.journal⟩)
      have es2 : s2.req2 ⟨ttl, kind, hops, unknown, id, dest, destSeq, from_, fromSeq, life, lost, payload⟩ = s3.answer ⟨0, 0, 0, false, 0, dest, s3.seq, from_, 0, 6000, [], []⟩ := by unfold Nd.req2; simp only; rw [if_pos hd, hs3]
      cases unknown
      all_goals
        simp only [Bool.false_eq_true, if_false, if_true] at hs3
        rw [hs3] at a1
        simp only [nodP, nodPm, nodC, outH, restP, Pk.val, Pk.cells] at a1 ⊢
        repeat' (first | (show WS _ _ _ (.region 11 _ true) _ _; refine WS_drawA (.range 7) (by decide +kernel) rfl ?_) | (show WS _ _ _ (.region 13 _ true) _ _; first | refine WS_drawK (.range 11) 10 [4, 6, 7] (by decide +kernel) rfl ?_ | refine WS_drawN 0 5 (.range 11) 10 [4] (by decide +kernel) rfl rfl rfl iI iI ?_) | (show WS _ _ _ (.region 14 _ true) _ _; refine WS_drawK (.range 11) 10 [4, 6, 8] (by decide +kernel) rfl ?_) | (refine WS_seqK ?_; intro K hK) | (refine hK _ ?_; clear hK K) | refine stZ ?_ | (refine s2Z ?_ ?_ <;> intro hc <;> (try simp only [cS] at hc) <;> (try (exfalso; first | contradiction | omega))) | refine sbZ ?_ | refine sqZ ?_ | (refine s0Z ?_; intro g) | (refine DL_h (H_callX iI rfl a1 iI) rfl rfl rfl ?_; intro x6))
        exact ret_none (.inl rfl) rfl ⟨(), rfl, by rw [es2, hs3]; exact finE⟩
    by_cases hA : ∃ x, lookT s2.ls dest s2.now = some x ∧ (unknown = true ∨ destSeq ≤ x.seq)
    · obtain ⟨x, hx, hc⟩ := hA
      have es2 : s2.req2 ⟨ttl, kind, hops, unknown, id, dest, destSeq, from_, fromSeq, life, lost, payload⟩ = s2.ans2 ⟨ttl, kind, hops, unknown, id, dest, destSeq, from_, fromSeq, life, lost, payload⟩ x := by unfold Nd.req2; simp only; rw [if_neg hd, hx]; simp only; rw [if_pos hc]
      obtain ⟨ls3, hls3⟩ : ∃ ls3, ls3 = match lookT s2.ls from_ s2.now with | some b => befT s2.ls dest b.next | none => s2.ls := ⟨_, rfl⟩
      obtain ⟨s3, hs3⟩ : ∃ s3 : Nd, s3 = { s2 with ls := befT ls3 from_ x.next } := ⟨_, rfl⟩
      have ok3 : TabOk s3.ls := by rw [hs3]; refine TabOk.bef ?_ _ _; rw [hls3]; split; exact ok2'.bef _ _; exact ok2'
      have a1 := find_spec w0 h1.tb s2.self s2.ls ok2' dest s2.now
      have a2 := find_spec w0 h1.tb s2.self s2.ls ok2' from_ s2.now
      have a4 := before_spec w0 h1.tb s2.self ls3 from_ x.next
      have hxm := (lookT_mem hx)
      have hxh := ok2'.hops x hxm
      have a5 := answer_spec w0 gn s3 h1 ⟨0, 0, x.hops, false, 0, dest, x.seq, from_, 0, (x.expires - s3.now).toUInt32, [], []⟩ rfl (by simp only [i64R]; omega) (by simp) ok3 (by rw [hs3]; exact hf2.ls _)
      have es3 : s2.ans2 ⟨ttl, kind, hops, unknown, id, dest, destSeq, from_, fromSeq, life, lost, payload⟩ x = s3.answer ⟨0, 0, x.hops, false, 0, dest, x.seq, from_, 0, (x.expires - s3.now).toUInt32, [], []⟩ := by unfold Nd.ans2; rw [hs3, hls3]; rfl
      rw [hs3] at a5
      have es4 := es2.trans (es3.trans (by rw [hs3]))
      clear es2 es3
      cases hy : lookT s2.ls from_ s2.now with
      | none =>
        simp only [hy] at hls3
        subst hls3
        simp only [nodP, nodPm, nodC, outH, restP, Pk.val, Pk.cells] at a5 ⊢
        simp only [hx, hy, findV, findH, routeC] at a1 a2
        cases unknown with
        | true =>
          repeat' (first | (show WS _ _ _ (.region 11 _ true) _ _; refine WS_drawA (.range 7) (by decide +kernel) rfl ?_) | (show WS _ _ _ (.region 15 _ true) _ _; first | refine WS_drawR2 0 5 (.range 17) (by decide +kernel) rfl rfl rfl iI iI ?_ | refine WS_drawK (.range 17) 10 [3, 5, 9] (by decide +kernel) rfl ?_) | (show WS _ _ _ (.region 17 _ true) _ _; first | refine WS_drawR2 0 5 (.range 17) (by decide +kernel) rfl rfl rfl iI iI ?_ | refine WS_drawK (.range 17) 10 [3, 5, 9] (by decide +kernel) rfl ?_) | (show WS _ _ _ (.region 20 _ true) _ _; refine WS_drawK (.range 9) 8 [3, 5, 7] (by decide +kernel) rfl ?_) | (show WS _ _ _ (.region 21 _ true) _ _; refine WS_drawK (.range 19) 18 [2, 4, 6, 8, 10, 14, 16] (by decide +kernel) rfl ?_) | (refine WS_seqK ?_; intro K hK) | (refine hK _ ?_; clear hK K) | refine stZ ?_ | (refine s2Z ?_ ?_ <;> intro hc <;> (try simp only [cS] at hc) <;> (try (exfalso; first | contradiction | omega))) | (refine DL_alloc iI rfl ?_; intro g) | refine sbZ ?_ | refine sqZ ?_ | ((first | refine' LQ ?zh rfl ?_ | refine' DL_qp rfl rfl rfl ?zh ?_ | refine' DL_q rfl rfl ?zh ?_); case zh => intro F'; exact Q_conv32 rfl iI iI iI) | ((refine' DL_q rfl rfl ?zh ?_); case zh => intro F'; exact Q_bin rfl rfl iI) | (refine s0Z ?_; intro g) | (refine DL_h (H_callX iI rfl a1 iI) rfl rfl rfl ?_; intro x1; clear a1) | (refine DL_h (H_callX iI rfl a2 iI) rfl rfl rfl ?_; intro x2; clear a2) | (refine DL_h (H_callX iI rfl a4 iI) rfl rfl rfl ?_; intro x4) | (refine DL_h (H_callX iI rfl a5 iI) rfl rfl rfl ?_; intro x5))
          exact ret_none (.inl rfl) rfl ⟨(), rfl, by rw [es4]; exact finE⟩
        | false =>
          have hcc : destSeq ≤ x.seq := by simpa using hc
          repeat' (first | (show WS _ _ _ (.region 11 _ true) _ _; refine WS_drawA (.range 7) (by decide +kernel) rfl ?_) | (show WS _ _ _ (.region 15 _ true) _ _; first | refine WS_drawR2 0 5 (.range 17) (by decide +kernel) rfl rfl rfl iI iI ?_ | refine WS_drawK (.range 17) 10 [3, 5, 9] (by decide +kernel) rfl ?_) | (show WS _ _ _ (.region 17 _ true) _ _; first | refine WS_drawR2 0 5 (.range 17) (by decide +kernel) rfl rfl rfl iI iI ?_ | refine WS_drawK (.range 17) 10 [3, 5, 9] (by decide +kernel) rfl ?_) | (show WS _ _ _ (.region 20 _ true) _ _; refine WS_drawK (.range 9) 8 [3, 5, 7] (by decide +kernel) rfl ?_) | (show WS _ _ _ (.region 21 _ true) _ _; refine WS_drawK (.range 19) 18 [2, 4, 6, 8, 10, 14, 16] (by decide +kernel) rfl ?_) | (refine WS_seqK ?_; intro K hK) | (refine hK _ ?_; clear hK K) | refine stZ ?_ | (refine s2Z ?_ ?_ <;> intro hc <;> (try simp only [cS] at hc) <;> (try (exfalso; first | contradiction | omega))) | (refine DL_alloc iI rfl ?_; intro g) | refine sbZ ?_ | refine sqZ ?_ | ((first | refine' LQ ?zh rfl ?_ | refine' DL_qp rfl rfl rfl ?zh ?_ | refine' DL_q rfl rfl ?zh ?_); case zh => intro F'; exact Q_conv32 rfl iI iI iI) | ((refine' DL_q rfl rfl ?zh ?_); case zh => intro F'; exact Q_bin rfl rfl iI) | (refine s0Z ?_; intro g) | (refine DL_h (H_callX iI rfl a1 iI) rfl rfl rfl ?_; intro x1; clear a1) | (refine DL_h (H_callX iI rfl a2 iI) rfl rfl rfl ?_; intro x2; clear a2) | (refine DL_h (H_callX iI rfl a4 iI) rfl rfl rfl ?_; intro x4) | (refine DL_h (H_callX iI rfl a5 iI) rfl rfl rfl ?_; intro x5))
          exact ret_none (.inl rfl) rfl ⟨(), rfl, by rw [es4]; exact finE⟩
      | some y =>
        simp only [hy] at hls3
        have a3 := before_spec w0 h1.tb s2.self s2.ls dest y.next
        rw [← hls3] at a3
        simp only [nodP, nodPm, nodC, outH, restP, Pk.val, Pk.cells] at a5 ⊢
        simp only [hx, hy, findV, findH, routeC] at a1 a2
        cases unknown with
        | true =>
          repeat' (first | (show WS _ _ _ (.region 11 _ true) _ _; refine WS_drawA (.range 7) (by decide +kernel) rfl ?_) | (show WS _ _ _ (.region 15 _ true) _ _; first | refine WS_drawR2 0 5 (.range 17) (by decide +kernel) rfl rfl rfl iI iI ?_ | refine WS_drawK (.range 17) 10 [3, 5, 9] (by decide +kernel) rfl ?_) | (show WS _ _ _ (.region 17 _ true) _ _; first | refine WS_drawR2 0 5 (.range 17) (by decide +kernel) rfl rfl rfl iI iI ?_ | refine WS_drawK (.range 17) 10 [3, 5, 9] (by decide +kernel) rfl ?_) | (show WS _ _ _ (.region 19 _ true) _ _; refine WS_drawK (.range 9) 8 [3, 5, 7] (by decide +kernel) rfl ?_) | (show WS _ _ _ (.region 20 _ true) _ _; refine WS_drawK (.range 9) 8 [3, 5, 7] (by decide +kernel) rfl ?_) | (show WS _ _ _ (.region 21 _ true) _ _; refine WS_drawK (.range 19) 18 [2, 4, 6, 8, 10, 14, 16] (by decide +kernel) rfl ?_) | (refine WS_seqK ?_; intro K hK) | (refine hK _ ?_; clear hK K) | refine stZ ?_ | (refine s2Z ?_ ?_ <;> intro hc <;> (try simp only [cS] at hc) <;> (try (exfalso; first | contradiction | omega))) | (refine DL_alloc iI rfl ?_; intro g) | refine sbZ ?_ | refine sqZ ?_ | ((first | refine' LQ ?zh rfl ?_ | refine' DL_qp rfl rfl rfl ?zh ?_ | refine' DL_q rfl rfl ?zh ?_); case zh => intro F'; exact Q_conv32 rfl iI iI iI) | ((refine' DL_q rfl rfl ?zh ?_); case zh => intro F'; exact Q_bin rfl rfl iI) | (refine s0Z ?_; intro g) | (refine DL_h (H_callX iI rfl a1 iI) rfl rfl rfl ?_; intro x1; clear a1) | (refine DL_h (H_callX iI rfl a2 iI) rfl rfl rfl ?_; intro x2; clear a2) | (refine DL_h (H_callX iI rfl a3 iI) rfl rfl rfl ?_; intro x3) | (refine DL_h (H_callX iI rfl a4 iI) rfl rfl rfl ?_; intro x4) | (refine DL_h (H_callX iI rfl a5 iI) rfl rfl rfl ?_; intro x5))
          exact ret_none (.inl rfl) rfl ⟨(), rfl, by rw [es4]; exact finE⟩
        | false =>
          have hcc : destSeq ≤ x.seq := by simpa using hc
          repeat' (first | (show WS _ _ _ (.region 11 _ true) _ _; refine WS_drawA (.range 7) (by decide +kernel) rfl ?_) | (show WS _ _ _ (.region 15 _ true) _ _; first | refine WS_drawR2 0 5 (.range 17) (by decide +kernel) rfl rfl rfl iI iI ?_ | refine WS_drawK (.range 17) 10 [3, 5, 9] (by decide +kernel) rfl ?_) | (show WS _ _ _ (.region 17 _ true) _ _; first | refine WS_drawR2 0 5 (.range 17) (by decide +kernel) rfl rfl rfl iI iI ?_ | refine WS_drawK (.range 17) 10 [3, 5, 9] (by decide +kernel) rfl ?_) | (show WS _ _ _ (.region 19 _ true) _ _; refine WS_drawK (.range 9) 8 [3, 5, 7] (by decide +kernel) rfl ?_) | (show WS _ _ _ (.region 20 _ true) _ _; refine WS_drawK (.range 9) 8 [3, 5, 7] (by decide +kernel) rfl ?_) | (show WS _ _ _ (.region 21 _ true) _ _; refine WS_drawK (.range 19) 18 [2, 4, 6, 8, 10, 14, 16] (by decide +kernel) rfl ?_) | (refine WS_seqK ?_; intro K hK) | (refine hK _ ?_; clear hK K) | refine stZ ?_ | (refine s2Z ?_ ?_ <;> intro hc <;> (try simp only [cS] at hc) <;> (try (exfalso; first | contradiction | omega))) | (refine DL_alloc iI rfl ?_; intro g) | refine sbZ ?_ | refine sqZ ?_ | ((first | refine' LQ ?zh rfl ?_ | refine' DL_qp rfl rfl rfl ?zh ?_ | refine' DL_q rfl rfl ?zh ?_); case zh => intro F'; exact Q_conv32 rfl iI iI iI) | ((refine' DL_q rfl rfl ?zh ?_); case zh => intro F'; exact Q_bin rfl rfl iI) | (refine s0Z ?_; intro g) | (refine DL_h (H_callX iI rfl a1 iI) rfl rfl rfl ?_; intro x1; clear a1) | (refine DL_h (H_callX iI rfl a2 iI) rfl rfl rfl ?_; intro x2; clear a2) | (refine DL_h (H_callX iI rfl a3 iI) rfl rfl rfl ?_; intro x3) | (refine DL_h (H_callX iI rfl a4 iI) rfl rfl rfl ?_; intro x4) | (refine DL_h (H_callX iI rfl a5 iI) rfl rfl rfl ?_; intro x5))
          exact ret_none (.inl rfl) rfl ⟨(), rfl, by rw [es4]; exact finE⟩
    have es2 : s2.req2 ⟨ttl, kind, hops, unknown, id, dest, destSeq, from_, fromSeq, life, lost, payload⟩ = s2.req3 ⟨ttl, kind, hops, unknown, id, dest, destSeq, from_, fromSeq, life, lost, payload⟩ := by
      unfold Nd.req2
      simp only
      rw [if_neg hd]
      cases hx : lookT s2.ls dest s2.now with
      | none => rfl
      | some x => simp only; rw [if_neg (fun hc => hA ⟨x, hx, hc⟩)]
    have a1 := find_spec w0 h1.tb s2.self s2.ls ok2' dest s2.now
    by_cases ht : ttl = 1
    · have es3 := es2.trans (show s2.req3 ⟨ttl, kind, hops, unknown, id, dest, destSeq, from_, fromSeq, life, lost, payload⟩ = s2.drop 4 by unfold Nd.req3; simp only; rw [if_pos ht])
      have a6 := q1 h1 4 hf2
      simp only [nodP, nodPm, nodC, outH, restP] at a6 ⊢
      cases hx : lookT s2.ls dest s2.now with
      | none =>
        simp only [hx, findV, findH, routeC] at a1
        repeat' (first | (show WS _ _ _ (.region 11 _ true) _ _; refine WS_drawA (.range 7) (by decide +kernel) rfl ?_) | (show WS _ _ _ (.region 15 _ true) _ _; first | refine WS_drawR2 0 5 (.range 17) (by decide +kernel) rfl rfl rfl iI iI ?_ | refine WS_drawK (.range 17) 10 [3, 5, 9] (by decide +kernel) rfl ?_) | (refine WS_seqK ?_; intro K hK) | (refine hK _ ?_; clear hK K) | refine stZ ?_ | (refine s2Z ?_ ?_ <;> intro hc <;> (try simp only [cS] at hc) <;> (try (exfalso; first | contradiction | omega))) | (refine DL_alloc iI rfl ?_; intro g) | refine sbZ ?_ | refine sqZ ?_ | (refine s0Z ?_; intro g) | (refine DL_h (H_callX iI rfl a1 iI) rfl rfl rfl ?_; intro x1; clear a1) | (refine LS_h (H_callX iI rfl a6 iI) rfl ?_; intro x5))
        exact ret_none (.inl rfl) rfl ⟨(), rfl, by rw [es3]; exact finE⟩
      | some x =>
        obtain rfl : unknown = false := by cases unknown; rfl; exact absurd ⟨x, hx, .inl rfl⟩ hA
        have hcc : ¬ destSeq ≤ x.seq := fun e => hA ⟨x, hx, .inr e⟩
        simp only [hx, findV, findH, routeC] at a1
        repeat' (first | (show WS _ _ _ (.region 11 _ true) _ _; refine WS_drawA (.range 7) (by decide +kernel) rfl ?_) | (show WS _ _ _ (.region 15 _ true) _ _; first | refine WS_drawR2 0 5 (.range 17) (by decide +kernel) rfl rfl rfl iI iI ?_ | refine WS_drawK (.range 17) 10 [3, 5, 9] (by decide +kernel) rfl ?_) | (refine WS_seqK ?_; intro K hK) | (refine hK _ ?_; clear hK K) | refine stZ ?_ | (refine s2Z ?_ ?_ <;> intro hc <;> (try simp only [cS] at hc) <;> (try (exfalso; first | contradiction | omega))) | (refine DL_alloc iI rfl ?_; intro g) | refine sbZ ?_ | refine sqZ ?_ | (refine s0Z ?_; intro g) | (refine DL_h (H_callX iI rfl a1 iI) rfl rfl rfl ?_; intro x1; clear a1) | (refine LS_h (H_callX iI rfl a6 iI) rfl ?_; intro x5))
        exact ret_none (.inl rfl) rfl ⟨(), rfl, by rw [es3]; exact finE⟩
    cases hg : lget s2.ls dest with
    | none =>
      have es3 := es2.trans (show s2.req3 ⟨ttl, kind, hops, unknown, id, dest, destSeq, from_, fromSeq, life, lost, payload⟩ = s2.send 0 ⟨ttl - 1, kind, min (hops + 1) 255, unknown, id, dest, destSeq, from_, fromSeq, life, lost, payload⟩ by unfold Nd.req3; simp only; rw [if_neg ht, hg]; rfl)
      have a5 := number_spec w0 h1.tb s2.self s2.ls dest
      have a6 := send_A w0 gn s2 h1 0 ⟨ttl - 1, kind, min (hops + 1) 255, unknown, id, dest, destSeq, from_, fromSeq, life, lost, payload⟩ ⟨by simp only [i64R] at *; omega, by simpa only [i64R] using hp2, by simp only [i64R] at *; omega, by simp only; omega, by simp only; omega⟩ (.slice A lost.length c) rfl (rows 180 2 lostC (.slice A lost.length c) lost) (rdr_bare _ _ _ _ _) hf2
      simp only [hg, numT, Option.isSome_none] at a5
      simp only [nodP, nodPm, nodC, outH, restP, Pk.val, Pk.cells] at a6 ⊢
      cases hx : lookT s2.ls dest s2.now with
      | none =>
        simp only [hx, findV, findH, routeC] at a1
        repeat' (first | (show WS _ _ _ (.region 11 _ true) _ _; refine WS_drawA (.range 7) (by decide +kernel) rfl ?_) | (show WS _ _ _ (.region 15 _ true) _ _; first | refine WS_drawR2 0 5 (.range 17) (by decide +kernel) rfl rfl rfl iI iI ?_ | refine WS_drawK (.range 17) 10 [3, 5, 9] (by decide +kernel) rfl ?_) | (show WS _ _ _ (.region 26 _ true) _ _; refine WS_drawK (.range 12) 6 [3, 5] (by decide +kernel) rfl ?_) | (refine WS_seqK ?_; intro K hK) | (refine hK _ ?_; clear hK K) | refine stZ ?_ | (refine s2Z ?_ ?_ <;> intro hc <;> (try simp only [cS] at hc) <;> (try (exfalso; first | contradiction | omega))) | (refine DL_alloc iI rfl ?_; intro g) | refine sbZ ?_ | refine sqZ ?_ | (refine s0Z ?_; intro g) | (refine DL_h (H_callX iI rfl a1 iI) rfl rfl rfl ?_; intro x1; clear a1) | (refine DL_h (H_callX iI rfl a5 iI) rfl rfl rfl ?_; intro x4) | (refine LS_h (H_callX iI rfl a6 iI) rfl ?_; intro x5))
        exact ret_none (.inr rfl) rfl ⟨(), rfl, by rw [es3]; exact finE⟩
      | some x =>
        obtain rfl : unknown = false := by cases unknown; rfl; exact absurd ⟨x, hx, .inl rfl⟩ hA
        have hcc : ¬ destSeq ≤ x.seq := fun e => hA ⟨x, hx, .inr e⟩
        simp only [hx, findV, findH, routeC] at a1
        repeat' (first | (show WS _ _ _ (.region 11 _ true) _ _; refine WS_drawA (.range 7) (by decide +kernel) rfl ?_) | (show WS _ _ _ (.region 15 _ true) _ _; first | refine WS_drawR2 0 5 (.range 17) (by decide +kernel) rfl rfl rfl iI iI ?_ | refine WS_drawK (.range 17) 10 [3, 5, 9] (by decide +kernel) rfl ?_) | (show WS _ _ _ (.region 26 _ true) _ _; refine WS_drawK (.range 12) 6 [3, 5] (by decide +kernel) rfl ?_) | (refine WS_seqK ?_; intro K hK) | (refine hK _ ?_; clear hK K) | refine stZ ?_ | (refine s2Z ?_ ?_ <;> intro hc <;> (try simp only [cS] at hc) <;> (try (exfalso; first | contradiction | omega))) | (refine DL_alloc iI rfl ?_; intro g) | refine sbZ ?_ | refine sqZ ?_ | (refine s0Z ?_; intro g) | (refine DL_h (H_callX iI rfl a1 iI) rfl rfl rfl ?_; intro x1; clear a1) | (refine DL_h (H_callX iI rfl a5 iI) rfl rfl rfl ?_; intro x4) | (refine LS_h (H_callX iI rfl a6 iI) rfl ?_; intro x5))
        exact ret_none (.inr rfl) rfl ⟨(), rfl, by rw [es3]; exact finE⟩
    | some l =>
      have es3 := es2.trans (show s2.req3 ⟨ttl, kind, hops, unknown, id, dest, destSeq, from_, fromSeq, life, lost, payload⟩ = s2.send 0 ⟨ttl - 1, kind, min (hops + 1) 255, false, id, dest, max destSeq l.seq, from_, fromSeq, life, lost, payload⟩ by unfold Nd.req3; simp only; rw [if_neg ht, hg]; rfl)
      have a5 := number_spec w0 h1.tb s2.self s2.ls dest
      have a6 := send_A w0 gn s2 h1 0 ⟨ttl - 1, kind, min (hops + 1) 255, false, id, dest, max destSeq l.seq, from_, fromSeq, life, lost, payload⟩ ⟨by simp only [i64R] at *; omega, by simpa only [i64R] using hp2, by simp only [i64R] at *; omega, by simp only; omega, by simp only; omega⟩ (.slice A lost.length c) rfl (rows 180 2 lostC (.slice A lost.length c) lost) (rdr_bare _ _ _ _ _) hf2
      simp only [hg, numT, Option.isSome_some] at a5
      simp only [nodP, nodPm, nodC, outH, restP, Pk.val, Pk.cells] at a6 ⊢
      cases hx : lookT s2.ls dest s2.now with
      | none =>
        simp only [hx, findV, findH, routeC] at a1
        repeat' (first | (show WS _ _ _ (.region 11 _ true) _ _; refine WS_drawA (.range 7) (by decide +kernel) rfl ?_) | (show WS _ _ _ (.region 15 _ true) _ _; first | refine WS_drawR2 0 5 (.range 17) (by decide +kernel) rfl rfl rfl iI iI ?_ | refine WS_drawK (.range 17) 10 [3, 5, 9] (by decide +kernel) rfl ?_) | (show WS _ _ _ (.region 26 _ true) _ _; refine WS_drawK (.range 12) 6 [3, 5] (by decide +kernel) rfl ?_) | (refine WS_seqK ?_; intro K hK) | (refine hK _ ?_; clear hK K) | refine stZ ?_ | (refine s2Z ?_ ?_ <;> intro hc <;> (try simp only [cS] at hc) <;> (try (exfalso; first | contradiction | omega))) | (refine DL_alloc iI rfl ?_; intro g) | refine sbZ ?_ | refine sqZ ?_ | (refine s0Z ?_; intro g) | (refine DL_h (H_callX iI rfl a1 iI) rfl rfl rfl ?_; intro x1; clear a1) | (refine DL_h (H_callX iI rfl a5 iI) rfl rfl rfl ?_; intro x4) | (refine LS_h (H_callX iI rfl a6 iI) rfl ?_; intro x5))
        exact ret_none (.inr rfl) rfl ⟨(), rfl, by rw [es3]; exact finE⟩
      | some x =>
        obtain rfl : unknown = false := by cases unknown; rfl; exact absurd ⟨x, hx, .inl rfl⟩ hA
        have hcc : ¬ destSeq ≤ x.seq := fun e => hA ⟨x, hx, .inr e⟩
        simp only [hx, findV, findH, routeC] at a1
        repeat' (first | (show WS _ _ _ (.region 11 _ true) _ _; refine WS_drawA (.range 7) (by decide +kernel) rfl ?_) | (show WS _ _ _ (.region 15 _ true) _ _; first | refine WS_drawR2 0 5 (.range 17) (by decide +kernel) rfl rfl rfl iI iI ?_ | refine WS_drawK (.range 17) 10 [3, 5, 9] (by decide +kernel) rfl ?_) | (show WS _ _ _ (.region 26 _ true) _ _; refine WS_drawK (.range 12) 6 [3, 5] (by decide +kernel) rfl ?_) | (refine WS_seqK ?_; intro K hK) | (refine hK _ ?_; clear hK K) | refine stZ ?_ | (refine s2Z ?_ ?_ <;> intro hc <;> (try simp only [cS] at hc) <;> (try (exfalso; first | contradiction | omega))) | (refine DL_alloc iI rfl ?_; intro g) | refine sbZ ?_ | refine sqZ ?_ | (refine s0Z ?_; intro g) | (refine DL_h (H_callX iI rfl a1 iI) rfl rfl rfl ?_; intro x1; clear a1) | (refine DL_h (H_callX iI rfl a5 iI) rfl rfl rfl ?_; intro x4) | (refine LS_h (H_callX iI rfl a6 iI) rfl ?_; intro x5))
        exact ret_none (.inr rfl) rfl ⟨(), rfl, by rw [es3]; exact finE⟩
end

end Go.Proofs.YtapoehkdnglahabGreat

