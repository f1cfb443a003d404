/- Proved: 'mesh/meshkeep.Once' returns true, whatever the input, and leaves it alone; there are no conditions. -/
import Derived.Test.YtapoehkdnglahabGreatOnceGq
set_option linter.unusedVariables false
set_option linter.unusedSimpArgs false
set_option linter.unusedSectionVars false
namespace Go.Proofs.YtapoehkdnglahabGreat
section
structure SentAt (l : List OpD) (q : Nat) (t : Str) (d s : UInt32) (k : Nat) (o : OpD) (A B : Nat) : Prop where
  few : k < 250
  at_ : l[k]? = some o
  text : t = [UInt8.ofNat k]
  kind : o.kind = 2
  a : o.a = A
  b : o.b = B
  al : A < q
  bl : B < q
  dest : d = adr B
  src : s = adr A
def Sent (l : List OpD) (q : Nat) (t : Str) (d s : UInt32) : Prop := ∃ k o A B, SentAt l q t d s k o A B
def cam (c : Nat → Nat) (n : Nat) : List Int := (List.range n).map fun k => ((c k : Nat) : Int)
theorem cam_len (c : Nat → Nat) (n : Nat) : (cam c n).length = n := by simp [cam]
theorem cam_zero (n : Nat) : List.replicate n (0 : Int) = cam (fun _ => 0) n := by
  apply List.ext_getElem?
  intro i
  simp only [cam, List.getElem?_map, List.getElem?_replicate]
  by_cases h : i < n
  · simp [h]
  · rw [if_neg h, List.getElem?_eq_none (by simp; omega)]; rfl
theorem cam_get (c : Nat → Nat) {n k : Nat} (h : k < n) : (cam c n)[k]? = some ((c k : Nat) : Int) := by simp [cam, h]
def inc (c : Nat → Nat) (k : Nat) : Nat → Nat := fun j => if j = k then c j + 1 else c j
theorem cam_set (c : Nat → Nat) {n k : Nat} (h : k < n) : (cam c n).set k (((c k : Nat) : Int) + 1) = cam (inc c k) n := by
  apply List.ext_getElem?
  intro j
  rw [List.getElem?_set]
  by_cases e : k = j
  · subst e
    rw [if_pos rfl, cam_len, if_pos h, cam_get _ h]
    simp [inc]
  · rw [if_neg e]
    simp only [cam, List.getElem?_map]
    by_cases hj : j < n
    · simp [hj, inc, Ne.symm e]
    · rw [List.getElem?_eq_none (by simp; omega)]; rfl
structure OncI (l : List OpD) (q i : Nat) (m : Ms) (rest : List Ev) (more : List (UInt32 × Str)) (c : Nat → Nat) : Prop where
  on : m.On (Sent l q)
  cnt : ∀ k, k < 256 → m.waits [UInt8.ofNat k] + airN [UInt8.ofNat k] m.air + (evN [UInt8.ofNat k] rest + camN [UInt8.ofNat k] more) + c k ≤ if k < i then 1 else 0
theorem ofNat_inj {i j : Nat} (hi : i < 256) (hj : j < 256) (h : UInt8.ofNat i = UInt8.ofNat j) : i = j := by
  have := congrArg UInt8.toNat h
  simp at this
  omega
theorem OncI.new (l : List OpD) (q : Nat) : OncI l q 0 (Ms.new (adrs q)) [] [] (fun _ => 0) := by
  obtain ⟨h1, h2⟩ := Ms.On.new (T := Sent l q) (adrs q)
  refine ⟨h1, fun k _ => ?_⟩
  have := h2 [UInt8.ofNat k]
  unfold Ms.full at this
  have e1 : evN [UInt8.ofNat k] [] = 0 := rfl
  have e2 : camN [UInt8.ofNat k] [] = 0 := rfl
  simp only [Nat.not_lt_zero, if_false, e1, e2]
  omega
theorem OncI.skip {l : List OpD} {q i : Nat} {m : Ms} {c : Nat → Nat} (h : OncI l q i m [] [] c) : OncI l q (i + 1) m [] [] c := ⟨h.on, fun k hk => Nat.le_trans (h.cnt k hk) (by split <;> split <;> omega)⟩
theorem OncI.step {l : List OpD} {q i : Nat} {m : Ms} {c : Nat → Nat} (h : OncI l q i m [] [] c) (hl : l.length ≤ 250) (ha : m.sts.map (·.addr) = (List.range q).map adr) {o : OpD} (ho : l[i]? = some o) (h6 : o.kind ≠ 6) (h8 : o.kind ≠ 8) {o' : OpD} (e1 : o'.kind = o.kind) (e2 : o'.a = o.a) (e3 : o'.b = o.b) (e4 : o'.text = [UInt8.ofNat i]) : OncI l q (i + 1) (m.do_ o') (m.do_ o').evs [] c := by
  have hi := (List.getElem?_eq_some_iff.1 ho).1
  have hat : ∀ (j : Nat) a, (m.sts.map (·.addr))[j]? = some a → j < q ∧ a = adr j := fun j a hj => by
    rw [ha, List.getElem?_map] at hj
    cases hr : (List.range q)[j]? with
    | none => rw [hr] at hj; cases hj
    | some x =>
      rw [hr] at hj
      obtain ⟨h2, h3⟩ := List.getElem?_eq_some_iff.1 hr
      rw [List.getElem_range] at h3
      subst h3
      rw [List.length_range] at h2
      exact ⟨h2, (Option.some.inj hj).symm⟩
  have hL := Ms.Led.do_ h.on o' (by rw [e1]; exact h6) (by rw [e1]; exact h8) fun A B a b k2 kA kB hA hB => by
    obtain ⟨q1, q2⟩ := hat A a hA
    obtain ⟨q3, q4⟩ := hat B b hB
    exact ⟨i, o, A, B, by omega, ho, e4, by rw [← e1]; exact k2, by rw [← e2]; exact kA, by rw [← e3]; exact kB, q1, q3, q4, q2⟩
  refine ⟨hL.on, fun k hk => ?_⟩
  have h1 := hL.full [UInt8.ofNat k]
  have h2 := h.cnt k hk
  have h3 : Ms.full { m with evs := [] } [UInt8.ofNat k] = m.waits [UInt8.ofNat k] + airN [UInt8.ofNat k] m.air + 0 := rfl
  have h4 : (m.do_ o').full [UInt8.ofNat k] = (m.do_ o').waits [UInt8.ofNat k] + airN [UInt8.ofNat k] (m.do_ o').air + evN [UInt8.ofNat k] (m.do_ o').evs := rfl
  have h5 : sends o' [UInt8.ofNat k] ≤ if k = i then 1 else 0 := by
    unfold sends
    split
    · rename_i hh
      have := hh.2
      rw [e4] at this
      simp only [List.cons.injEq, and_true] at this
      rw [if_pos (ofNat_inj (by omega) hk this).symm]
      exact Nat.le_refl _
    · exact Nat.zero_le _
  have e1 : evN [UInt8.ofNat k] [] = 0 := rfl
  have e2 : camN [UInt8.ofNat k] [] = 0 := rfl
  rw [e1, e2] at h2
  rw [e2]
  split at h2 <;> split at h5 <;> split <;> omega
theorem OncI.event {l : List OpD} {q i : Nat} {m : Ms} {e : Ev} {r : List Ev} {c : Nat → Nat} (h : OncI l q i m (e :: r) [] c) : OncI l q i m r e.out.came c := ⟨h.on, fun k hk => by
  have := h.cnt k hk
  have e1 : evN [UInt8.ofNat k] (e :: r) = camN [UInt8.ofNat k] e.out.came + evN [UInt8.ofNat k] r := by simp [evN]
  have e2 : camN [UInt8.ofNat k] [] = 0 := rfl
  rw [e1, e2] at this
  omega⟩
theorem OncI.text {l : List OpD} {q i : Nat} {m : Ms} {r : List Ev} {y : UInt32 × Str} {ys : List (UInt32 × Str)} {c : Nat → Nat} (h : OncI l q i m r (y :: ys) c) {k : Nat} (hk : k < 256) (hy : y.2 = [UInt8.ofNat k]) : OncI l q i m r ys (inc c k) ∧ c k + 1 ≤ 1 := by
  have e1 : ∀ x, camN x (y :: ys) = camN x ys + if y.2 = x then 1 else 0 := fun x => by
    unfold camN; rw [List.countP_cons]; simp
  refine ⟨⟨h.on, fun j hj => ?_⟩, ?_⟩
  · have := h.cnt j hj
    rw [e1] at this
    unfold inc
    by_cases e : j = k
    · subst e
      rw [if_pos rfl]
      rw [if_pos hy] at this
      omega
    · rw [if_neg e]; omega
  · have := h.cnt k hk
    rw [e1, if_pos hy] at this
    split at this <;> omega
theorem OncI.came {l : List OpD} {q i : Nat} {m : Ms} {r : List Ev} {c : Nat → Nat} {ys : List (UInt32 × Str)} (h : OncI l q i m r ys c) (ha : m.sts.map (·.addr) = (List.range q).map adr) (hq : q ≤ 6) {e : Ev} (he : e ∈ m.evs) {y : UInt32 × Str} (hy : y ∈ e.out.came) : ∃ k o A B, SentAt l q y.2 (adr B) y.1 k o A B ∧ e.node = B := by
  obtain ⟨j, h1, a, h2, h3⟩ := h.on.evs e he y hy
  obtain ⟨k, o, A, B, hs⟩ := h3
  rw [ha, List.getElem?_map] at h2
  cases hr : (List.range q)[j]? with
  | none => rw [hr] at h2; cases h2
  | some x =>
    rw [hr] at h2
    obtain ⟨g2, g3⟩ := List.getElem?_eq_some_iff.1 hr
    rw [List.getElem_range] at g3
    subst g3
    rw [List.length_range] at g2
    have e2 : a = adr j := (Option.some.inj h2).symm
    have e3 : j = B := adr_inj (by omega) (by have := hs.bl; omega) (e2.symm.trans hs.dest)
    subst e3
    refine ⟨k, o, A, j, ?_, h1⟩
    have hd := hs.dest
    rw [hd] at hs
    exact hs
end

section
open Go.RowKit
theorem b8_of (i : Nat) : b8 (i : Int) = UInt8.ofNat i := by
  unfold b8
  apply UInt8.toNat_inj.1
  simp
  omega
theorem evsO_at {es : List ES} {j : Nat} {e : ES} (h : es[j]? = some e) : evsO es = evsO (es.take j) * (evO e * evsO (es.drop (j + 1))) := by
  have h1 : es = es.take j ++ (e :: es.drop (j + 1)) := by
    obtain ⟨h2, h3⟩ := List.getElem?_eq_some_iff.1 h
    conv => lhs; rw [← List.take_append_drop j es, List.drop_eq_getElem_cons h2, h3]
  conv => lhs; rw [h1, evsO_append, evsO]
theorem WS_lenC {P : Program} {n : Frm} {w0 : World} {E : Env} {D : List Deferred} {H F : HProp} {Q : Exit → St → Prop} {c : Code} {α : Type} {e : TypeId} {size : Nat} {f : α → List Value} {l : List α} (v : Value) (hl : RowsOf H v α e size f l F) (h : l.length ≤ maxLen → (∀ A k q, v = .slice A k q → k = l.length) → WS P n w0 c Q ⟨E, D, H⟩) : WS P n w0 c Q ⟨E, D, H⟩ := fun a w g => by
  have hs := g.sat.cast hl.eq
  unfold rows at hs
  obtain ⟨_, ⟨A, hv, h0, _⟩ | ⟨g', off, cap, cur, fr, hv, h1, h2, _⟩⟩ := hs.slc_cases
  · exact h (by omega) (fun A' k q e => by rw [hv] at e; cases e; exact h0.symm) a w g
  · exact h (by omega) (fun A' k q e => by rw [hv] at e; cases e; rfl) a w g
attribute [local irreducible] WS LS OpQ OpT OpH OpTQ Spec SpecQ cel
variable (w0 : World)
set_option maxRecDepth 100000 in
set_option maxHeartbeats 32000000 in
theorem once_law (n : Int) (hn : -9223372036854775808 ≤ n ∧ n ≤ 9223372036854775807) (v : Value) (l : List OpD) (hok : OpsOk l) (X : HProp) [hX : Rdr w0 X v OpD 6 opC l] :
    Spec Tryz.prog w0 6 [.int .i64 n, v] X (fun _ : Unit => .bool true) (fun _ => X) := by
  refine Spec.enter Tryz.func6 rfl Tryz.ntmps6 rfl fun G => ?_
  have p1 := keepPick_spec w0 n 5 hn (by omega)
  obtain ⟨pk, hpk, hpk4⟩ : ∃ pk : Nat, (if n < 0 then -(n + 1) else n) % 5 = (pk : Int) ∧ pk ≤ 4 := by
    refine ⟨((if n < 0 then -(n + 1) else n) % 5).toNat, ?_, ?_⟩ <;> split <;> omega
  rw [hpk] at p1
  have p2 := keepRow_spec w0 (pk + 2) (by omega)
  rw [show ((pk + 2 : Nat) : Int) = 2 + (pk : Int) by omega] at p2
  simp only [argE]
  by_cases hbig : (250 : Int) < (l.length : Int)
  · repeat' (first | (refine WS_seqK ?_; intro K hK) | (refine hK _ ?_; clear hK K) | refine stZ ?_ | (refine s2Z ?_ ?_ <;> intro hc <;> (try simp only [cS] at hc) <;> (try (exfalso; first | contradiction | omega))) | refine sbZ ?_ | ((refine' LQ ?zh rfl ?_); case zh => intro F'; first | exact Q_move rfl | exact Q_assign rfl | exact Q_addI rfl rfl (by omega) | exact Q_pick_f rfl iI rfl | exact Q_lenR rfl iI iI) | ((refine' LQ ?zh rfl ?_); case zh => intro F'; exact Q_bin rfl rfl iI) | (refine LS_h (H_callX iI rfl p1 ⟨emp_star.symm⟩) rfl ?_; intro u1) | (refine LS_h (H_callX iI rfl p2 ⟨emp_star.symm⟩) rfl ?_; intro x))
    exact ret_tmp (.inl rfl) rfl rfl ⟨(), rfl, finE⟩
  · repeat' (first | (refine WS_seqK ?_; intro K hK) | (refine hK _ ?_; clear hK K) | refine stZ ?_ | (refine s2Z ?_ ?_ <;> intro hc <;> (try simp only [cS] at hc) <;> (try (exfalso; first | contradiction | omega))) | refine sbZ ?_ | ((refine' LQ ?zh rfl ?_); case zh => intro F'; first | exact Q_move rfl | exact Q_assign rfl | exact Q_addI rfl rfl (by omega) | exact Q_pick_f rfl iI rfl | exact Q_lenR rfl iI iI) | ((refine' LQ ?zh rfl ?_); case zh => intro F'; exact Q_bin rfl rfl iI) | (refine LS_h (H_callX iI rfl p1 ⟨emp_star.symm⟩) rfl ?_; intro u1) | (refine LS_h (H_callX iI rfl p2 ⟨emp_star.symm⟩) rfl ?_; intro x) | (refine LS_h (H_makeSlice intC (0 : Int) rfl rfl iI iI iI rfl rfl (by omega) rfl) rfl ?_; intro vc))
    rw [cam_zero]
    refine WS_loop (fun kk τ => ∃ (i : Nat) (m : Ms) (c : Nat → Nat), i + kk = l.length ∧ BndI (pk + 2) i m ∧ OncI l (pk + 2) i m [] [] c ∧ τ = ⟨[(8, .int .i64 (i : Int)), (7, vc), (6, ptr x.1 0), (5, .int .i64 (2 + (pk : Int))), (1, v), (0, .int .i64 n)], [], mshI x.1 x.2 m * (rows 3 1 intC vc (cam c l.length) * (X * G))⟩) ?_ ?_
    · exact ⟨l.length, _, ⟨0, _, _, by omega, BndI.new (by omega), OncI.new l (pk + 2), rfl⟩, ⟨rfl, rfl, rfl, rfl, rfl, rfl, trivial⟩, rfl, finE⟩
    · rintro kk τ ⟨i, m, c, hik, hI, hO, rfl⟩
      rcases Nat.lt_or_ge i l.length with hlt | hge
      · have h1 : (i : Int) < (l.length : Int) := by omega
        obtain ⟨o, ho⟩ : ∃ o, l[i]? = some o := ⟨_, List.getElem?_eq_getElem hlt⟩
        have hon := hok.n o (List.mem_of_getElem? ho)
        by_cases h6 : o.kind = 6
        · repeat' (first | (refine WS_seqK ?_; intro K hK) | (refine hK _ ?_; clear hK K) | refine stZ ?_ | (refine s2Z ?_ ?_ <;> intro hc <;> (try simp only [cS] at hc) <;> (try (exfalso; first | contradiction | omega))) | refine sbZ ?_ | ((refine' LQ ?zh rfl ?_); case zh => intro F'; first | exact Q_move rfl | exact Q_assign rfl | exact Q_fieldAddr rfl iI rfl | exact Q_load rfl iI iI rfl | exact Q_addI rfl rfl (by omega) | exact Q_pick_t rfl iI rfl | exact Q_index rfl rfl iI iI iI iI (by first | assumption | omega | (simp [be_length] <;> omega)) | exact Q_loadRA rfl iI iI iI (by assumption) | exact Q_lenR rfl iI iI) | (refine shZ ?_; intro g) | ((refine' LS_h0 ?zh ?_); (case zh => exact H_storeA rfl rfl iI iI (by first | rfl | (simp only [List.all_cons, List.all_nil, *]; rfl)) rfl); intro g))
          exact ⟨kk - 1, _, by omega, ⟨i + 1, m, c, by omega, hI.skip, hO.skip, rfl⟩, ⟨rfl, rfl, rfl, rfl, rfl, rfl, trivial⟩, rfl, finE⟩
        by_cases h8 : o.kind = 8
        · repeat' (first | (refine WS_seqK ?_; intro K hK) | (refine hK _ ?_; clear hK K) | refine stZ ?_ | (refine s2Z ?_ ?_ <;> intro hc <;> (try simp only [cS] at hc) <;> (try (exfalso; first | contradiction | omega))) | refine sbZ ?_ | ((refine' LQ ?zh rfl ?_); case zh => intro F'; first | exact Q_move rfl | exact Q_assign rfl | exact Q_fieldAddr rfl iI rfl | exact Q_load rfl iI iI rfl | exact Q_addI rfl rfl (by omega) | exact Q_pick_f rfl iI rfl | exact Q_index rfl rfl iI iI iI iI (by first | assumption | omega | (simp [be_length] <;> omega)) | exact Q_loadRA rfl iI iI iI (by assumption) | exact Q_lenR rfl iI iI) | (refine shZ ?_; intro g) | ((refine' LS_h0 ?zh ?_); (case zh => exact H_storeA rfl rfl iI iI (by first | rfl | (simp only [List.all_cons, List.all_nil, *]; rfl)) rfl); intro g))
          exact ⟨kk - 1, _, by omega, ⟨i + 1, m, c, by omega, hI.skip, hO.skip, rfl⟩, ⟨rfl, rfl, rfl, rfl, rfl, rfl, trivial⟩, rfl, finE⟩
        · have ho' : OpD.Ok ⟨o.kind, o.a, o.b, o.n, o.on, [b8 (i : Int)]⟩ := ⟨hon, fun _ => by simp⟩
          have hI2 := hI.step (by omega) ho'
          have hO2 := hO.step (by omega) hI.addrs ho h6 h8 (o' := ⟨o.kind, o.a, o.b, o.n, o.on, [b8 (i : Int)]⟩) rfl rfl rfl (by rw [b8_of])
          have p3 := mdo_spec w0 x.1 x.2 m ⟨o.kind, o.a, o.b, o.n, o.on, [b8 (i : Int)]⟩ i hI.fine (by omega) (by have := hI.now; omega) ho'
          simp only [opA] at p3
          generalize m.do_ ⟨o.kind, o.a, o.b, o.n, o.on, [b8 (i : Int)]⟩ = m2 at *
          repeat' (first | (refine WS_seqK ?_; intro K hK) | (refine hK _ ?_; clear hK K) | refine stZ ?_ | (refine s2Z ?_ ?_ <;> intro hc <;> (try simp only [cS] at hc) <;> (try (exfalso; first | contradiction | omega))) | refine sbZ ?_ | ((refine' LQ ?zh rfl ?_); case zh => intro F'; first | exact Q_move rfl | exact Q_assign rfl | exact Q_fieldAddr rfl iI rfl | exact Q_load rfl iI iI rfl | exact Q_pick_f rfl iI rfl | exact Q_loadA rfl iI iI rfl | exact Q_index rfl rfl iI iI iI iI (by first | assumption | omega | (simp [be_length] <;> omega)) | exact Q_loadRA rfl iI iI iI (by assumption) | exact Q_lenR rfl iI iI | exact Q_convS rfl iI rfl iI iI iI | exact Q_conv8 rfl iI iI) | (refine shZ ?_; intro g) | ((refine' LS_h ?zh rfl ?_); (case zh => exact H_buildB iI iI iI rfl rfl rfl rfl rfl iI rfl rfl); intro g) | (refine s0Z ?_; intro g) | ((refine' LS_h0 ?zh ?_); (case zh => exact H_storeA rfl rfl iI iI (by first | rfl | (simp only [List.all_cons, List.all_nil, *]; rfl)) rfl); intro g) | (refine LS_h (H_callX iI rfl p3 iI) rfl ?_; intro x3; refine LS_pureI iI ?_; intro hmap))
          obtain ⟨v3, es⟩ := x3
          simp only at hmap
          refine WS_lenC v3 iI fun hes _ => ?_
          have hesb : es.length ≤ 9223372036854775807 := Nat.le_trans hes (by decide)
          refine WS_loop (fun kk2 τ => ∃ (j : Nat) (c2 : Nat → Nat), j + kk2 = es.length ∧ OncI l (pk + 2) (i + 1) m2 (m2.evs.drop j) [] c2 ∧ τ = ⟨[(11, .int .i64 (j : Int)), (10, v3), (8, .int .i64 (i : Int)), (7, vc), (6, ptr x.1 0), (5, .int .i64 (2 + (pk : Int))), (1, v), (0, .int .i64 n)], [], mshI x.1 x.2 m2 * (rows 68 7 evC v3 es * (evsO es * (rows 3 1 intC vc (cam c2 l.length) * (X * G))))⟩) ?_ ?_
          · exact ⟨es.length, _, ⟨0, c, by omega, by simpa using hO2, rfl⟩, ⟨rfl, rfl, rfl, rfl, rfl, rfl, rfl, rfl, trivial⟩, rfl, finE⟩
          · rintro kk2 τ ⟨j, c2, hjk, hO3, rfl⟩
            rcases Nat.lt_or_ge j es.length with hjlt | hjge
            · have hj1 : (j : Int) < (es.length : Int) := by omega
              obtain ⟨e, he⟩ : ∃ e, es[j]? = some e := ⟨_, List.getElem?_eq_getElem hjlt⟩
              have hev : m2.evs[j]? = some e.1 := by rw [← hmap, List.getElem?_map, he]; rfl
              have hdrop : m2.evs.drop j = e.1 :: m2.evs.drop (j + 1) := by
                obtain ⟨a1, a2⟩ := List.getElem?_eq_some_iff.1 hev
                rw [List.drop_eq_getElem_cons a1, a2]
              rw [hdrop] at hO3
              have hO4 := hO3.event
              have hem := List.mem_of_getElem? hev
              rw [evsO_at he]
              simp only [evO, outR, svV, star_assoc]
              refine WS_lenC (slV' e.2.2.1) iI fun hcs hcl' => ?_
              have hcl : e.2.2.1.2.1 = e.1.out.came.length := hcl' _ _ _ rfl
              have hcb : e.1.out.came.length ≤ 9223372036854775807 := Nat.le_trans hcs (by decide)
              repeat' (first | (refine WS_seqK ?_; intro K hK) | (refine hK _ ?_; clear hK K) | refine stZ ?_ | (refine s2Z ?_ ?_ <;> intro hc <;> (try simp only [cS] at hc) <;> (try (exfalso; first | contradiction | omega))) | refine sbZ ?_ | ((refine' LQ ?zh rfl ?_); case zh => intro F'; first | exact Q_move rfl | exact Q_assign rfl | exact Q_lenR rfl iI iI))
              refine WS_loop (fun kk3 τ => ∃ (t : Nat) (c3 : Nat → Nat), t + kk3 = e.1.out.came.length ∧ OncI l (pk + 2) (i + 1) m2 (m2.evs.drop (j + 1)) (e.1.out.came.drop t) c3 ∧ τ = ⟨[(12, .int .i64 (t : Int)), (11, .int .i64 (j : Int)), (10, v3), (8, .int .i64 (i : Int)), (7, vc), (6, ptr x.1 0), (5, .int .i64 (2 + (pk : Int))), (1, v), (0, .int .i64 n)], [], mshI x.1 x.2 m2 * (rows 68 7 evC v3 es * (evsO (es.take j) * (rows 48 2 txtC (slV' e.2.1) e.1.out.frames * (rows 70 2 txtC (slV' e.2.2.1) e.1.out.came * (rows 166 1 intC (slV' e.2.2.2) e.1.out.dropped * (evsO (es.drop (j + 1)) * (rows 3 1 intC vc (cam c3 l.length) * (X * G))))))))⟩) ?_ ?_
              · exact ⟨e.1.out.came.length, _, ⟨0, c2, by omega, by simpa using hO4, rfl⟩, ⟨rfl, rfl, rfl, rfl, rfl, rfl, rfl, rfl, rfl, trivial⟩, rfl, finE⟩
              · rintro kk3 τ ⟨t, c3, htk, hO5, rfl⟩
                rcases Nat.lt_or_ge t e.1.out.came.length with htlt | htge
                · have ht1 : (t : Int) < (e.2.2.1.2.1 : Int) := by omega
                  obtain ⟨y, hy⟩ : ∃ y, e.1.out.came[t]? = some y := ⟨_, List.getElem?_eq_getElem htlt⟩
                  have hym := List.mem_of_getElem? hy
                  have hcd : e.1.out.came.drop t = y :: e.1.out.came.drop (t + 1) := by
                    obtain ⟨a1, a2⟩ := List.getElem?_eq_some_iff.1 hy
                    rw [List.drop_eq_getElem_cons a1, a2]
                  rw [hcd] at hO5
                  obtain ⟨k, o2, Aa, Bb, hS, hnode⟩ := hO5.came hI2.addrs (by omega) hem (y := y) hym
                  obtain ⟨sfew, sat, stext, skind, sa, sb, sal, sbl, sdest, ssrc⟩ := hS
                  obtain ⟨hO6, hc1⟩ := hO5.text (k := k) (by omega) stext
                  obtain ⟨b, hb⟩ : ∃ b : UInt8, b = UInt8.ofNat k := ⟨_, rfl⟩
                  have hbk : b.toNat = k := by rw [hb]; simp; omega
                  rw [← hb] at stext
                  subst hbk
                  have hl1 : ((y.2.length : Nat) : Int) = 1 := by rw [stext]; rfl
                  have hkl : b.toNat < l.length := (List.getElem?_eq_some_iff.1 sat).1
                  have hk1 : ¬ (l.length : Int) ≤ (b.toNat : Int) := by omega
                  have hz0 : y.2[0]? = some b := by rw [stext]; rfl
                  have hnb : o2.b = e.1.node := by rw [sb, hnode]
                  have hkc : b.toNat < (cam c3 l.length).length := by rw [cam_len]; exact hkl
                  have hkc2 : b.toNat < ((cam c3 l.length).set b.toNat (((c3 b.toNat : Nat) : Int) + 1)).length := by rw [List.length_set]; exact hkc
                  have hcam : (cam c3 l.length)[b.toNat]? = some ((c3 b.toNat : Nat) : Int) := cam_get c3 hkl
                  have hset2 := cam_set c3 hkl
                  have hset : ((cam c3 l.length).set b.toNat (((c3 b.toNat : Nat) : Int) + 1))[b.toNat]? = some (((c3 b.toNat : Nat) : Int) + 1) := by rw [List.getElem?_set, if_pos rfl, cam_len, if_pos hkl]
                  have hc0 : c3 b.toNat = 0 := by omega
                  have hle1 : ¬ (1 : Int) < ((c3 b.toNat : Nat) : Int) + 1 := by omega
                  have hyf : UInt32.ofNat (10 * Aa + 10) = y.1 := ssrc.symm
                  have hnn : ¬ ((10 : Int) * o2.a + 10 < 0) := by omega
                  repeat' (first | (show WS _ _ _ (.region 23 _ true) _ _; refine WS_drawA (.range 38) (by decide +kernel) rfl ?_) | (refine WS_seqK ?_; intro K hK) | (refine hK _ ?_; clear hK K) | refine stZ ?_ | (refine s2Z ?_ ?_ <;> intro hc <;> (try simp only [cS] at hc) <;> (try (exfalso; first | contradiction | omega))) | ((first | refine' LQ ?zh rfl ?_ | refine' DL_q rfl rfl ?zh ?_ | refine' DL_qg rfl rfl rfl ?zh ?_); case zh => intro F'; first | exact Q_move rfl | exact Q_assign rfl | exact Q_fieldAddr rfl iI rfl | exact Q_load rfl iI iI rfl | exact Q_bin_t rfl rfl iI (by first | assumption | omega | decide | rfl) | exact Q_bin_f rfl rfl iI (by first | assumption | omega | decide | rfl) | exact Q_bin_nf rfl rfl iI (by first | assumption | omega | decide | rfl) | exact Q_addI rfl rfl (by omega) | exact Q_pick_f rfl iI rfl | exact Q_len rfl iI | exact Q_lenS rfl iI | exact Q_index rfl rfl iI iI iI iI (by first | assumption | omega | (simp [be_length] <;> omega)) | exact Q_fieldR rfl iI iI rfl (by first | assumption | omega | (simp [be_length] <;> omega)) | exact Q_loadR rfl iI iI iI (by assumption) rfl | exact Q_loadRA rfl iI iI iI (by assumption) | exact Q_lenR rfl iI iI | exact Q_convI8 rfl iI iI | exact Q_indexS rfl rfl iI iI (by assumption) | exact Q_mulI rfl rfl (by omega)) | (refine shZ ?_; intro g) | ((refine' LS_h0 ?zh ?_); (case zh => exact H_storeA rfl rfl iI iI (by first | rfl | (simp only [List.all_cons, List.all_nil, *]; rfl)) rfl); intro g) | (refine' DL_qg rfl rfl rfl ?zh ?_; (case zh => intro F'; exact Q_convT32 (10 * Aa + 10) rfl (by omega) (by omega) iI iI)) | (refine LS_h0 (H_storeR (z := ((c3 b.toNat : Nat) : Int)) (((c3 b.toNat : Nat) : Int) + 1) rfl rfl iI iI iI rfl (by assumption) rfl) ?_; intro g))
                  --LOOK
                  exact ⟨kk3 - 1, _, by omega, ⟨t + 1, inc c3 b.toNat, by omega, hO6, rfl⟩, ⟨rfl, rfl, rfl, rfl, rfl, rfl, rfl, rfl, rfl, trivial⟩, rfl, by rw [← hset2]; exact finE⟩
                · have ht1 : ¬ (t : Int) < (e.2.2.1.2.1 : Int) := by omega
                  have hO7 : OncI l (pk + 2) (i + 1) m2 (m2.evs.drop (j + 1)) [] c3 := by
                    rw [List.drop_eq_nil_of_le htge] at hO5; exact hO5
                  repeat' (first | (refine WS_seqK ?_; intro K hK) | (refine hK _ ?_; clear hK K) | refine stZ ?_ | (refine s2Z ?_ ?_ <;> intro hc <;> (try simp only [cS] at hc) <;> (try (exfalso; first | contradiction | omega))) | refine sbZ ?_ | ((refine' LQ ?zh rfl ?_); case zh => intro F'; first | exact Q_move rfl | exact Q_assign rfl | exact Q_addI rfl rfl (by omega) | exact Q_len rfl iI | exact Q_index rfl rfl iI iI iI iI (by first | assumption | omega | (simp [be_length] <;> omega)) | exact Q_fieldR rfl iI iI rfl (by first | assumption | omega | (simp [be_length] <;> omega)) | exact Q_loadR rfl iI iI iI (by assumption) rfl))
                  refine ⟨kk2 - 1, _, by omega, ⟨j + 1, c3, by omega, hO7, rfl⟩, ⟨rfl, rfl, rfl, rfl, rfl, rfl, rfl, rfl, trivial⟩, rfl, finE⟩
            · have hj1 : ¬ (j : Int) < (es.length : Int) := by omega
              have hO8 : OncI l (pk + 2) (i + 1) m2 [] [] c2 := by
                have hlen := congrArg List.length hmap
                rw [List.length_map] at hlen
                rw [List.drop_eq_nil_of_le (by omega)] at hO3; exact hO3
              repeat' (first | (refine WS_seqK ?_; intro K hK) | (refine hK _ ?_; clear hK K) | refine stZ ?_ | (refine s2Z ?_ ?_ <;> intro hc <;> (try simp only [cS] at hc) <;> (try (exfalso; first | contradiction | omega))) | refine sbZ ?_ | ((refine' LQ ?zh rfl ?_); case zh => intro F'; first | exact Q_move rfl | exact Q_assign rfl | exact Q_addI rfl rfl (by omega) | exact Q_lenR rfl iI iI))
              exact ⟨kk - 1, _, by omega, ⟨i + 1, m2, c2, by omega, hI2, hO8, rfl⟩, ⟨rfl, rfl, rfl, rfl, rfl, rfl, trivial⟩, rfl, finE⟩
      · obtain rfl : i = l.length := by omega
        have h1 : ¬ (l.length : Int) < (l.length : Int) := by omega
        repeat' (first | (refine WS_seqK ?_; intro K hK) | (refine hK _ ?_; clear hK K) | refine stZ ?_ | (refine s2Z ?_ ?_ <;> intro hc <;> (try simp only [cS] at hc) <;> (try (exfalso; first | contradiction | omega))) | refine sbZ ?_ | ((refine' LQ ?zh rfl ?_); case zh => intro F'; first | exact Q_move rfl | exact Q_assign rfl | exact Q_lenR rfl iI iI))
        exact ret_tmp (.inl rfl) rfl rfl ⟨(), rfl, finE⟩
end

end Go.Proofs.YtapoehkdnglahabGreat
namespace Go.Proofs.YtapoehkdnglahabGreat.once
open Go.ChangeShapes Go.WideShapes Go.ChangeAt Go.RowKit Go.Proofs.YtapoehkdnglahabGreat

theorem own : ownKnob Tryz.prog.godebug = none := by kernel_rfl
set_option maxRecDepth 100000 in
theorem lifted (os : Os) (started : os.Started) (H : Type) (enc : TypeId × Value → H) :
    ReturnsInHanded {} Tryz.checked os 6 .any (Rows.onceSpec.pre6 enc Tryz.prog Tryz.f6 Rows.onceRow.domain false) (Rows.onceSpec.post enc Tryz.prog Tryz.f6 false true false false) := by
  refine returnsInHanded_of_change (C := Tryz.checked) own started (by kernel_rfl) Tryz.func6
    (ChangeSpec.witness6 (enc := enc) (C := Tryz.checked) false ⟨#[], #[.int .i64 0, .slice none 0 0], []⟩ 8 (by kernel_rfl) (by kernel_rfl) (by kernel_rfl) (by kernel_rfl)) ?_
  intro W base args ds gs before hval0 hW hcnd _
  have hval : ∀ (j : Nat) t v, Tryz.f6.params[j]? = some t → args[j]? = some v → Value.okWide Tryz.prog W .any base t v := hval0
  have hW' := hW
  obtain ⟨p, q, hA0, hV, rfl, hfz, hnd⟩ := hW
  have hA : DataW.TrodAll enc Tryz.prog W 0 (fun _ => true) true Tryz.f6.params.toList args.toList ds p := hA0
  rw [Tryz.params6] at hA hval
  clear hA0 hval0
  obtain ⟨v0, r0, d0, e0, p0, q0, hargs, rfl, rfl, h0, hA⟩ := trodAll_cons hA
  obtain ⟨v1, r1, d1, e1, p1, q1, rfl, rfl, rfl, h1, hA⟩ := trodAll_cons hA
  obtain ⟨rfl, rfl, rfl⟩ := trodAll_nil hA
  obtain rfl : args = #[v0, v1] := by cases args; simp_all
  obtain ⟨rfl, rfl⟩ := trodVars_none hV
  simp only [List.append_nil] at hW'
  have hlt0 : ∀ x ∈ p0, x.block < W.heap.size := fun x hx => by simpa using hW'.lt x (by simp [hx])
  have hb0 : ∀ (W' : World), Below W.heap.size W W' → DataW.Trod enc Tryz.prog W' 0 (fun b => decide (b < W.heap.size)) true 3 v0 d0 p0 := fun W' hn => Below.trod laid (by kernel_rfl) (of_decide_eq_true (by kernel_rfl)) h0 hn hlt0
  have hlt1 : ∀ x ∈ p1, x.block < W.heap.size := fun x hx => by simpa using hW'.lt x (by simp [hx])
  have hb1 : ∀ (W' : World), Below W.heap.size W W' → DataW.Trod enc Tryz.prog W' 0 (fun b => decide (b < W.heap.size)) true 58 v1 d1 p1 := fun W' hn => Below.trod laid (by kernel_rfl) (of_decide_eq_true (by kernel_rfl)) h1 hn hlt1
  have main : Calls Tryz.prog 6 #[v0, v1] W fun e w' => e = .returned (.bool true) ∧ Below W.heap.size W w' := by
    obtain ⟨n, rfl⟩ := okWide_int Tryz.underlying3 (hval 0 3 v0 rfl rfl)
    obtain ⟨x, hx, hn⟩ := dec_arg (dec_i64 Tryz.underlying3) h0
    obtain rfl : n = x := by simpa [Value.cells, i64C] using hx
    obtain ⟨A, n0, c0, rfl⟩ := okWide_slice Tryz.underlying58 (hval 1 58 v1 rfl rfl)
    obtain ⟨l, hR, hl⟩ := arg_slice (f := opC) (size := 6) (fun _ => rfl) (by decide) Tryz.underlying58 (by kernel_rfl) dec_op h1
    have hR' := hR.rdr
    exact (once_law W n hn _ l ⟨fun o ho => hl o ho⟩ (old W)).law
  refine main.mono fun e W' ⟨he, hb⟩ => ?_
  subst he
  refine ⟨_, rfl, _, _, _, [], p0 ++ (p1), [], hW', ?_, ?_, rfl, hb.frame _, fun h => by cases h⟩
  · exact trodAll_mk1 (shut_bool Tryz.underlying4 _)
  · exact trodAll_cons_mk (hb0 _ hb) (trodAll_mk1 (hb1 _ hb))

theorem over : Rows.onceRow.holds Tryz.pinned (OpenSpec.ofChange Rows.onceSpec) :=
  OpenClaim.holds_of_wide 6 Tryz.f6 rfl rfl rfl rfl rfl rfl rfl ⟨rfl, rfl, rfl, rfl, rfl⟩ rfl rfl rfl rfl rfl (by kernel_rfl) Tryz.func6 (by kernel_rfl)
    (of_decide_eq_true (by kernel_rfl)) (by unfold Func.isWrapper; first | (rw [if_pos (by decide +kernel)]; kernel_rfl) | (rw [if_neg (by decide +kernel)]; exact ⟨rfl, rfl⟩))
    (fun os started H enc _ => lifted os started H enc)

theorem proved : Rows.OnceSaid := over
end Go.Proofs.YtapoehkdnglahabGreat.once

