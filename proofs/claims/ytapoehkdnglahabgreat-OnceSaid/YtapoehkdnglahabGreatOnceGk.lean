/- A part of what Once needs. -/
import Derived.Test.YtapoehkdnglahabGreatOnceGj
set_option linter.unusedVariables false
set_option linter.unusedSimpArgs false
set_option linter.unusedSectionVars false
namespace Go.Proofs.YtapoehkdnglahabGreat
section
open Go.RowKit
section
variable {κ ν α : Type} [DecidableEq κ]
def zmap (key : α → κ) (bs : List ν) (ss : List α) : List (κ × ν) := List.zipWith (fun b s => (key s, b)) bs ss
def kfind (key : α → κ) : List α → κ → Option Nat
  | [], _ => none
  | x :: r, d => if key x = d then some 0 else (kfind key r d).map (· + 1)
variable {key : α → κ}
theorem kfind_some : ∀ {ss : List α} {d : κ} {k : Nat}, kfind key ss d = some k → ∃ x, ss[k]? = some x ∧ key x = d
  | [], _, _, h => by cases h
  | x :: r, d, k, h => by
    simp only [kfind] at h
    split at h
    · rename_i e; cases h; exact ⟨x, rfl, e⟩
    · cases hr : kfind key r d with
      | none => rw [hr] at h; cases h
      | some j => rw [hr] at h; cases h; obtain ⟨y, h1, h2⟩ := kfind_some hr; exact ⟨y, by simpa using h1, h2⟩
theorem kfind_none : ∀ {ss : List α} {d : κ}, kfind key ss d = none ↔ ∀ x ∈ ss, key x ≠ d
  | [], _ => by simp [kfind]
  | x :: r, d => by
    simp only [kfind]
    split
    · rename_i e; simp [e]
    · rename_i e
      rw [Option.map_eq_none_iff, kfind_none]
      simp [e]
theorem kfind_at : ∀ {ss : List α} {k : Nat} {x : α}, (ss.map key).Nodup → ss[k]? = some x → kfind key ss (key x) = some k
  | [], _, _, _, h => by simp at h
  | y :: r, 0, x, _, h => by simp at h; subst h; simp [kfind]
  | y :: r, k + 1, x, hn, h => by
    rw [List.map_cons, List.nodup_cons] at hn
    have hx : r[k]? = some x := by simpa using h
    have ih := kfind_at hn.2 hx
    simp only [kfind]
    rw [if_neg (fun e => hn.1 (by rw [e]; exact List.mem_map_of_mem (List.mem_of_getElem? hx))), ih]; rfl
theorem mfind_zmap : ∀ (bs : List ν) (ss : List α) (d : κ), bs.length = ss.length → mfind (zmap key bs ss) d = kfind key ss d
  | [], [], _, _ => rfl
  | b :: bs, s :: ss, d, h => by
    have ih := mfind_zmap bs ss d (by simpa using h)
    show (if key s = d then some 0 else (mfind (zmap key bs ss) d).map (· + 1)) = _
    rw [ih]; rfl
  | [], _ :: _, _, h => by simp at h
  | _ :: _, [], _, h => by simp at h
theorem zmap_get {bs : List ν} {ss : List α} {k : Nat} {b : ν} {x : α} (hb : bs[k]? = some b) (hx : ss[k]? = some x) : (zmap key bs ss)[k]? = some (key x, b) := by
  simp [zmap, List.getElem?_zipWith, hb, hx]
theorem mget_zmap_some {bs : List ν} {ss : List α} {d : κ} {k : Nat} {b : ν} (hl : bs.length = ss.length) (hk : kfind key ss d = some k) (hb : bs[k]? = some b) : mget (zmap key bs ss) d = some b := by
  obtain ⟨x, hx, _⟩ := kfind_some hk
  unfold mget
  rw [mfind_zmap bs ss d hl, hk]
  simp [zmap_get hb hx]
theorem mget_zmap_none {bs : List ν} {ss : List α} {d : κ} (hl : bs.length = ss.length) (hk : kfind key ss d = none) : mget (zmap key bs ss) d = none := by
  unfold mget
  rw [mfind_zmap bs ss d hl, hk]
theorem zmap_erase (bs : List ν) (ss : List α) (k : Nat) : (zmap key bs ss).eraseIdx k = zmap key (bs.eraseIdx k) (ss.eraseIdx k) := by
  induction bs generalizing ss k with
  | nil => simp [zmap]
  | cons b bs ih =>
    cases ss with
    | nil => simp [zmap]
    | cons s ss =>
      cases k with
      | zero => rfl
      | succ k =>
        have := ih ss k
        simp only [zmap, List.zipWith_cons_cons, List.eraseIdx_cons_succ] at this ⊢
        rw [this]
theorem mdel_zmap {bs : List ν} {ss : List α} {d : κ} {k : Nat} (hl : bs.length = ss.length) (hk : kfind key ss d = some k) : mdel (zmap key bs ss) d = zmap key (bs.eraseIdx k) (ss.eraseIdx k) := by
  unfold mdel
  rw [mfind_zmap bs ss d hl, hk]
  exact zmap_erase _ _ _
theorem mdel_zmap_none {bs : List ν} {ss : List α} {d : κ} (hl : bs.length = ss.length) (hk : kfind key ss d = none) : mdel (zmap key bs ss) d = zmap key bs ss := by
  unfold mdel
  rw [mfind_zmap bs ss d hl, hk]
theorem mset_zmap_none {bs : List ν} {ss : List α} {d : κ} (b : ν) (x : α) (hx : key x = d) (hl : bs.length = ss.length) (hk : kfind key ss d = none) : mset (zmap key bs ss) d b = zmap key (bs ++ [b]) (ss ++ [x]) := by
  unfold mset
  rw [mfind_zmap bs ss d hl, hk]
  simp only [zmap]
  rw [List.zipWith_append hl, ← hx]; rfl
theorem mset_zmap_some {bs : List ν} {ss : List α} {d : κ} {k : Nat} (b : ν) (x : α) (hx : key x = d) (hl : bs.length = ss.length) (hk : kfind key ss d = some k) : mset (zmap key bs ss) d b = zmap key (bs.set k b) (ss.set k x) := by
  unfold mset
  rw [mfind_zmap bs ss d hl, hk]
  obtain ⟨y, hy, hd⟩ := kfind_some hk
  have hlt := (List.getElem?_eq_some_iff.1 hy).1
  apply List.ext_getElem?
  intro j
  simp only [zmap, List.getElem?_zipWith, List.getElem?_set, List.length_zipWith]
  by_cases e : k = j
  · subst e; simp [hlt, hl, hx]
  · simp [e]
theorem zmap_set {bs : List ν} {ss : List α} {k : Nat} {x y : α} (hx : ss[k]? = some x) (hk : key y = key x) : zmap key bs (ss.set k y) = zmap key bs ss := by
  apply List.ext_getElem?
  intro j
  simp only [zmap, List.getElem?_zipWith, List.getElem?_set]
  by_cases e : k = j
  · subst e
    have hlt := (List.getElem?_eq_some_iff.1 hx).1
    simp only [if_true, hlt, hx]
    cases bs[k]? <;> simp [hk]
  · simp [e]
def zrow (p : ν → α → HProp) : List ν → List α → HProp
  | b :: bs, s :: ss => p b s * zrow p bs ss
  | _, _ => emp
variable {p : ν → α → HProp}
theorem zrow_hole (p : ν → α → HProp) : ∀ {bs : List ν} {ss : List α} {k : Nat} {b : ν} {x : α}, bs[k]? = some b → ss[k]? = some x →
    ∃ F, zrow p bs ss = p b x * F ∧ (∀ b' x', zrow p (bs.set k b') (ss.set k x') = p b' x' * F) ∧ zrow p (bs.eraseIdx k) (ss.eraseIdx k) = F
  | b0 :: bs, s0 :: ss, 0, b, x, hb, hx => by
    simp at hb hx; subst hb; subst hx
    exact ⟨zrow p bs ss, rfl, fun _ _ => rfl, rfl⟩
  | b0 :: bs, s0 :: ss, k + 1, b, x, hb, hx => by
    obtain ⟨F, h1, h2, h3⟩ := zrow_hole p (bs := bs) (ss := ss) (k := k) (by simpa using hb) (by simpa using hx)
    exact ⟨p b0 s0 * F, by rw [zrow, h1, star_left_comm], fun b' x' => by rw [List.set_cons_succ, List.set_cons_succ, zrow, h2, star_left_comm], by rw [List.eraseIdx_cons_succ, List.eraseIdx_cons_succ, zrow, h3]⟩
  | [], _, _, _, _, hb, _ => by simp at hb
  | _ :: _, [], _, _, _, _, hl => by simp at hl
theorem zrow_snoc : ∀ {bs : List ν} {ss : List α} (b : ν) (x : α), bs.length = ss.length → zrow p (bs ++ [b]) (ss ++ [x]) = p b x * zrow p bs ss
  | [], [], b, x, _ => rfl
  | b0 :: bs, s0 :: ss, b, x, h => by
    show p b0 s0 * zrow p (bs ++ [b]) (ss ++ [x]) = _
    rw [zrow_snoc b x (by simpa using h), star_left_comm]; rfl
  | [], _ :: _, _, _, h => by simp at h
  | _ :: _, [], _, _, h => by simp at h
end
theorem srFind_k (ss : List Sr) (d : UInt32) : srFind ss d = kfind (·.dest) ss d := by
  unfold srFind
  induction ss with
  | nil => rfl
  | cons x r ih => rw [List.findIdx?_cons]; simp only [kfind, decide_eq_true_eq]; rw [ih]
theorem nmFind_k (ss : List Sr) (d : Int) : nmFind ss d = kfind (·.name) ss d := by
  unfold nmFind
  induction ss with
  | nil => rfl
  | cons x r ih => rw [List.findIdx?_cons]; simp only [kfind, decide_eq_true_eq]; rw [ih]
theorem qmap_z (bs : List Nat) (ss : List Sr) : qmap bs ss = zmap (·.dest) bs ss := rfl
theorem imap_z (bs : List Nat) (ss : List Sr) : imap bs ss = zmap (·.name) bs ss := rfl
def srP (g : Nat) (b : Nat) (s : Sr) : HProp := cel b 247 (srC g b s)
theorem srsP_z (g : Nat) : ∀ (bs : List Nat) (ss : List Sr), srsP g bs ss = zrow (srP g) bs ss
  | [], [] => rfl
  | [], _ :: _ => rfl
  | _ :: _, [] => rfl
  | b :: bs, s :: ss => by unfold srsP zrow; rw [srsP_z g bs ss]; rfl
def txP (v : Option Addr × Nat × Nat) (w : UInt32 × List Str) : HProp := rows 9 1 strCc (slV' v) w.2
theorem textsP_z : ∀ (vs : List (Option Addr × Nat × Nat)) (ws : List (UInt32 × List Str)), textsP vs ws = zrow txP vs ws
  | [], [] => rfl
  | [], _ :: _ => rfl
  | _ :: _, [] => rfl
  | v :: vs, w :: ws => by unfold textsP zrow; rw [textsP_z vs ws]; rfl
theorem mget_k (ws : List (UInt32 × List Str)) (d : UInt32) : mget ws d = ((kfind (·.1) ws d).bind (ws[·]?)).map (·.2) := by
  have : ∀ ws : List (UInt32 × List Str), mfind ws d = kfind (·.1) ws d := fun ws => by
    induction ws with
    | nil => rfl
    | cons x r ih => simp only [mfind, kfind]; rw [ih]
  unfold mget
  rw [this]
  cases hk : kfind (·.1) ws d with
  | none => rfl
  | some k =>
    obtain ⟨x, hx, _⟩ := kfind_some hk
    simp [hx]
end

section
open Go.RowKit
theorem srsQ_eq {g : Nat} {bs : List Nat} {ss : List Sr} (h : bs.length = ss.length) : srsQ g bs ss = srsP g bs ss := by unfold srsQ; rw [pure'_true h, emp_star]
theorem waitQ_eq {r : Nat} {vs : List (Option Addr × Nat × Nat)} {ws : List (UInt32 × List Str)} (h : vs.length = ws.length) : waitQ r vs ws = mp u32 slV' r (wmap vs ws) * textsP vs ws := by unfold waitQ; rw [pure'_true h, emp_star]
theorem WS_lens {P : Program} {n : Frm} {w0 : World} {E : Env} {D : List Deferred} {F : HProp} {c : Code} {Q : Exit → St → Prop} {mu : Int} {g : Nat} {s : Nd} {h : NH} (hw : h.sb.length = s.srs.length → h.wv.length = s.wait.length → WS P n w0 c Q ⟨E, D, nodPm mu g s h * F⟩) : WS P n w0 c Q ⟨E, D, nodPm mu g s h * F⟩ := fun a w gd => by
  have e : nodPm mu g s h * F = pure' (h.sb.length = s.srs.length) * (pure' (h.wv.length = s.wait.length) * ((cel g 159 (nodC mu s h s.out) * (rows 28 3 Rec.cells h.vr s.recs * (mp u32 u32 h.rh s.held * (tabQ h.tb s.self s.ls * (outH h s.out * (mp rqV u64 h.rs s.seen * (rows 269 2 rqC h.vo s.order * (mp u32 slV' h.rw (wmap h.wv s.wait) * textsP h.wv s.wait * (mp u32 ptrV h.rq (qmap h.sb s.srs) * (mp i64 ptrV h.ri (imap h.sb s.srs) * (srsP g h.sb s.srs * (clockQ h.cb h.cr s.last s.clk * rows 24 1 wrd64C h.vs s.sent)))))))))))) * F)) := by
    unfold nodPm restP restC waitQ srsQ
    ac_rfl
  obtain ⟨h1, hs⟩ := (gd.sat.cast e).pure
  exact hw h1 hs.pure.1 a w gd
structure SrOk (s : Nd) : Prop where
  dests : (s.srs.map (·.dest)).Nodup
  names : (s.srs.map (·.name)).Nodup
  each : ∀ x ∈ s.srs, 0 ≤ x.ttl ∧ x.ttl ≤ 8 ∧ 0 ≤ x.retries ∧ x.retries ≤ 2 ∧ x.name ≤ s.names
theorem SrOk.dest {s : Nd} (h : SrOk s) {k : Nat} {x : Sr} (hx : s.srs[k]? = some x) : kfind (·.dest) s.srs x.dest = some k := kfind_at (key := fun x : Sr => x.dest) h.dests hx
theorem SrOk.name {s : Nd} (h : SrOk s) {k : Nat} {x : Sr} (hx : s.srs[k]? = some x) : kfind (·.name) s.srs x.name = some k := kfind_at (key := fun x : Sr => x.name) h.names hx
theorem busyN_succ {now : UInt64} {l : List UInt64} {j : Nat} {a : UInt64} (h : l[j]? = some a) : busyN now (l.take (j + 1)) = busyN now (l.take j) + (if now < a + 1000 then 1 else 0) := by
  rw [List.take_add_one, h, Option.toList_some]
  unfold busyN
  rw [List.filter_append, List.length_append]
  by_cases hc : now < a + 1000
  · rw [if_pos hc, List.filter_cons, if_pos (decide_eq_true hc)]; rfl
  · rw [if_neg hc, List.filter_cons, if_neg (by simpa using hc)]; rfl
theorem busyN_le (now : UInt64) (l : List UInt64) : busyN now l ≤ l.length := List.length_filter_le _ _
attribute [local irreducible] WS LS OpQ OpT OpH OpTQ Spec SpecQ cel
variable (w0 : World)
set_option maxRecDepth 100000 in
set_option maxHeartbeats 8000000 in
theorem busy_spec (gn : Nat) (s : Nd) (h : NH) (hl : s.sent.length ≤ 1000) : Spec Tryz.prog w0 226 [ptr gn 0] (cel gn 159 (nodC 1 s h s.out) * rows 24 1 wrd64C h.vs s.sent) (fun _ : Unit => .bool (decide (5 ≤ busyN s.now s.sent))) (fun _ => cel gn 159 (nodC 1 s h s.out) * rows 24 1 wrd64C h.vs s.sent) := by
  refine Spec.enter Tryz.func226 rfl Tryz.ntmps226 rfl fun G => ?_
  obtain ⟨vs, hvs⟩ : ∃ v, v = h.vs := ⟨_, rfl⟩
  rw [← hvs]
  refine WS_form vs iI fun A cap hv => ?_
  rw [hvs]
  rw [hvs] at hv
  simp only [argE, nodC, hv]
  repeat' (first | (refine WS_seqK ?_; intro K hK) | (refine hK _ ?_; clear hK K) | refine stZ ?_ | ((refine' LQ ?zh rfl ?_); case zh => intro F'; first | exact Q_move rfl | exact Q_assign rfl | exact Q_nilCheck rfl | exact Q_fieldAddr rfl iI rfl | exact Q_load rfl iI iI rfl | exact Q_len rfl iI))
  refine WS_loop (fun k τ => ∃ j : Nat, j + k = s.sent.length ∧ τ = ⟨[(11, .int .i64 (j : Int)), (10, .int .i64 (s.sent.length : Int)), (9, .slice A s.sent.length cap), (3, .int .i64 (busyN s.now (s.sent.take j) : Int)), (0, ptr gn 0)], [], cel gn 159 (nodC 1 s h s.out) * (rows 24 1 wrd64C (.slice A s.sent.length cap) s.sent * G)⟩) ?_ ?_
  · exact ⟨s.sent.length, _, ⟨0, by omega, rfl⟩, ⟨rfl, rfl, rfl, rfl, rfl, trivial⟩, rfl, by simp only [nodC, hv]; exact finE⟩
  · rintro k τ ⟨j, hjk, rfl⟩
    simp only [nodC, hv]
    rcases Nat.lt_or_ge j s.sent.length with hlt | hge
    · obtain ⟨z, hz⟩ : ∃ z, s.sent[j]? = some z := ⟨_, List.getElem?_eq_getElem hlt⟩
      have hb := busyN_succ (now := s.now) hz
      have hbl := busyN_le s.now (s.sent.take j)
      rw [List.length_take] at hbl
      generalize busyN s.now (s.sent.take j) = q at *
      by_cases hc : s.now < z + 1000
      · rw [if_pos hc] at hb
        repeat' (first | (refine WS_seqK ?_; intro K hK) | (refine hK _ ?_; clear hK K) | refine stZ ?_ | (refine s2Z ?_ ?_ <;> intro hc <;> (try simp only [cS] at hc) <;> (try (exfalso; first | contradiction | omega))) | refine sbZ ?_ | ((refine' LQ ?zh rfl ?_); case zh => intro F'; first | exact Q_move rfl | exact Q_assign rfl | exact Q_nilCheck rfl | exact Q_fieldAddr rfl iI rfl | exact Q_load rfl iI iI rfl | exact Q_addI rfl rfl (by omega) | exact Q_index rfl rfl iI iI iI iI (by first | assumption | omega | (simp [be_length] <;> omega)) | exact Q_loadR rfl iI iI iI (by assumption) rfl) | ((refine' LQ ?zh rfl ?_); case zh => intro F'; exact Q_bin rfl rfl iI))
        exact ⟨k - 1, _, by omega, ⟨j + 1, by omega, rfl⟩, ⟨rfl, rfl, rfl, by rw [hb]; rfl, rfl, trivial⟩, rfl, by simp only [nodC, hv]; exact finE⟩
      · rw [if_neg hc] at hb
        repeat' (first | (refine WS_seqK ?_; intro K hK) | (refine hK _ ?_; clear hK K) | refine stZ ?_ | (refine s2Z ?_ ?_ <;> intro hc <;> (try simp only [cS] at hc) <;> (try (exfalso; first | contradiction | omega))) | refine sbZ ?_ | ((refine' LQ ?zh rfl ?_); case zh => intro F'; first | exact Q_move rfl | exact Q_assign rfl | exact Q_nilCheck rfl | exact Q_fieldAddr rfl iI rfl | exact Q_load rfl iI iI rfl | exact Q_addI rfl rfl (by omega) | exact Q_index rfl rfl iI iI iI iI (by first | assumption | omega | (simp [be_length] <;> omega)) | exact Q_loadR rfl iI iI iI (by assumption) rfl) | ((refine' LQ ?zh rfl ?_); case zh => intro F'; exact Q_bin rfl rfl iI))
        exact ⟨k - 1, _, by omega, ⟨j + 1, by omega, rfl⟩, ⟨rfl, rfl, rfl, by rw [hb]; rfl, rfl, trivial⟩, rfl, by simp only [nodC, hv]; exact finE⟩
    · obtain rfl : j = s.sent.length := by omega
      rw [List.take_of_length_le (Nat.le_refl _)]
      by_cases hc : (5 : Int) ≤ (busyN s.now s.sent : Int)
      · repeat' (first | (refine WS_seqK ?_; intro K hK) | (refine hK _ ?_; clear hK K) | refine stZ ?_ | (refine s2Z ?_ ?_ <;> intro hc <;> (try simp only [cS] at hc) <;> (try (exfalso; first | contradiction | omega))) | refine sbZ ?_ | ((refine' LQ ?zh rfl ?_); case zh => intro F'; first | exact Q_move rfl | exact Q_assign rfl))
        exact ret_tmp (.inl rfl) rfl rfl ⟨(), by rw [decide_eq_true (by omega)], finE⟩
      · repeat' (first | (refine WS_seqK ?_; intro K hK) | (refine hK _ ?_; clear hK K) | refine stZ ?_ | (refine s2Z ?_ ?_ <;> intro hc <;> (try simp only [cS] at hc) <;> (try (exfalso; first | contradiction | omega))) | refine sbZ ?_ | ((refine' LQ ?zh rfl ?_); case zh => intro F'; first | exact Q_move rfl | exact Q_assign rfl))
        exact ret_tmp (.inl rfl) rfl rfl ⟨(), by rw [decide_eq_false (by omega)], finE⟩
set_option maxRecDepth 100000 in
set_option maxHeartbeats 8000000 in
theorem further_spec (gn b : Nat) (x : Sr) (h : 0 ≤ x.ttl ∧ x.ttl ≤ 8 ∧ 0 ≤ x.retries ∧ x.retries ≤ 2) : Spec Tryz.prog w0 225 [ptr b 0] (cel b 247 (srC gn b x)) (fun _ : Unit => .bool x.further.isSome) (fun _ => cel b 247 (srC gn b (x.further.getD x))) := by
  refine Spec.enter Tryz.func225 rfl Tryz.ntmps225 rfl fun G => ?_
  simp only [argE, srC]
  unfold Sr.further
  by_cases h1 : x.ttl < 5
  · simp only [if_pos h1, Option.isSome_some, Option.getD_some]
    repeat' (first | (refine WS_seqK ?_; intro K hK) | (refine hK _ ?_; clear hK K) | refine stZ ?_ | (refine s2Z ?_ ?_ <;> intro hc <;> (try simp only [cS] at hc) <;> (try (exfalso; first | contradiction | omega))) | refine sbZ ?_ | ((refine' LQ ?zh rfl ?_); case zh => intro F'; first | exact Q_move rfl | exact Q_assign rfl | exact Q_nilCheck rfl | exact Q_fieldAddr rfl iI rfl | exact Q_load rfl iI iI rfl | exact Q_addI rfl rfl (by omega)) | (refine s0Z ?_; intro g))
    exact ret_tmp (.inl rfl) rfl rfl ⟨(), rfl, finE⟩
  · simp only [if_neg h1]
    by_cases h2 : x.ttl < 8
    · simp only [if_pos h2, Option.isSome_some, Option.getD_some]
      repeat' (first | (refine WS_seqK ?_; intro K hK) | (refine hK _ ?_; clear hK K) | refine stZ ?_ | (refine s2Z ?_ ?_ <;> intro hc <;> (try simp only [cS] at hc) <;> (try (exfalso; first | contradiction | omega))) | refine sbZ ?_ | ((refine' LQ ?zh rfl ?_); case zh => intro F'; first | exact Q_move rfl | exact Q_assign rfl | exact Q_nilCheck rfl | exact Q_fieldAddr rfl iI rfl | exact Q_load rfl iI iI rfl) | (refine s0Z ?_; intro g))
      exact ret_tmp (.inl rfl) rfl rfl ⟨(), rfl, finE⟩
    · simp only [if_neg h2]
      by_cases h3 : x.retries < 2
      · simp only [if_pos h3, Option.isSome_some, Option.getD_some]
        repeat' (first | (refine WS_seqK ?_; intro K hK) | (refine hK _ ?_; clear hK K) | refine stZ ?_ | (refine s2Z ?_ ?_ <;> intro hc <;> (try simp only [cS] at hc) <;> (try (exfalso; first | contradiction | omega))) | refine sbZ ?_ | ((refine' LQ ?zh rfl ?_); case zh => intro F'; first | exact Q_move rfl | exact Q_assign rfl | exact Q_nilCheck rfl | exact Q_fieldAddr rfl iI rfl | exact Q_load rfl iI iI rfl | exact Q_addI rfl rfl (by omega)) | (refine s0Z ?_; intro g))
        exact ret_tmp (.inl rfl) rfl rfl ⟨(), rfl, finE⟩
      · simp only [if_neg h3, Option.isSome_none, Option.getD_none]
        repeat' (first | (refine WS_seqK ?_; intro K hK) | (refine hK _ ?_; clear hK K) | refine stZ ?_ | (refine s2Z ?_ ?_ <;> intro hc <;> (try simp only [cS] at hc) <;> (try (exfalso; first | contradiction | omega))) | refine sbZ ?_ | ((refine' LQ ?zh rfl ?_); case zh => intro F'; first | exact Q_move rfl | exact Q_assign rfl | exact Q_nilCheck rfl | exact Q_fieldAddr rfl iI rfl | exact Q_load rfl iI iI rfl))
        exact ret_tmp (.inl rfl) rfl rfl ⟨(), rfl, finE⟩
set_option maxRecDepth 100000 in
set_option maxHeartbeats 8000000 in
theorem stop_spec (gn : Nat) (s : Nd) (h : NH) (ok : SrOk s) {k b : Nat} {x : Sr} (hx : s.srs[k]? = some x) (hb : h.sb[k]? = some b) : Spec Tryz.prog w0 215 [ptr b 0] (nodP gn s h) (fun _ : Unit => .tuple #[]) (fun _ => nodP gn (s.stop k) { h with sb := h.sb.eraseIdx k }) := by
  have h1 := ok.dest hx
  have h2 := ok.name hx
  refine Spec.enter Tryz.func215 rfl Tryz.ntmps215 rfl fun G => ?_
  refine WS_lens fun hsb hwv => ?_
  obtain ⟨F, e1, _, e3⟩ := zrow_hole (srP gn) hb hx
  have hsb' : (h.sb.eraseIdx k).length = (s.srs.eraseIdx k).length := by rw [List.length_eraseIdx, List.length_eraseIdx, hsb]
  have d1 : mdel (qmap h.sb s.srs) x.dest = qmap (h.sb.eraseIdx k) (s.srs.eraseIdx k) := mdel_zmap (key := fun x : Sr => x.dest) hsb h1
  have d2 : mdel (imap h.sb s.srs) x.name = imap (h.sb.eraseIdx k) (s.srs.eraseIdx k) := mdel_zmap (key := fun x : Sr => x.name) hsb h2
  simp only [nodP, nodPm, nodC, outH, restP, restC, Nd.stop, srsQ_eq hsb, srsQ_eq hsb', srsP_z, e1, e3]
  simp only [argE, srP, srC]
  rw [← d1, ← d2]
  repeat' (first | (show WS _ _ _ (.region 0 _ true) _ _; refine WS_drawK (.range 12) 11 [3, 6, 10] (by decide +kernel) rfl ?_) | (show WS _ _ _ (.region 1 _ true) _ _; refine WS_drawK (.range 12) 11 [3, 6, 10] (by decide +kernel) rfl ?_) | (refine WS_seqK ?_; intro K hK) | (refine hK _ ?_; clear hK K) | refine stZ ?_ | ((first | refine' DL_qp rfl rfl rfl ?zh ?_ | refine' DL_q rfl rfl ?zh ?_); case zh => intro F'; first | exact Q_move rfl | exact Q_nilCheck rfl | exact Q_fieldAddr rfl iI rfl | exact Q_load rfl iI iI rfl) | ((refine' DL_h0 ?zh rfl rfl ?_); (case zh => exact H_delete rfl rfl iI iI iI iI); intro g))
  exact ret_none (.inr rfl) rfl ⟨(), rfl, finE⟩
end

section
open Go.RowKit
attribute [local irreducible] WS LS OpQ OpT OpH OpTQ Spec SpecQ cel
variable (w0 : World)
set_option maxRecDepth 100000 in
set_option maxHeartbeats 16000000 in
theorem remember_spec (gn : Nat) (s : Nd) (h : NH) (r : Rq) (hl : s.order.length ≤ 16) : Spec Tryz.prog w0 170 [ptr gn 0, rqV r] (nodP gn s h) (fun _ : Value => .tuple #[]) (fun vo => nodP gn (s.remember r) { h with vo := vo }) := by
  refine Spec.enter Tryz.func170 rfl Tryz.ntmps170 rfl fun G => ?_
  obtain ⟨tb, vr, rh, rs, vo, rw', rq, ri, cb, cr, vs, vf, vc, vd, sb, wv⟩ := h
  obtain ⟨R, hR⟩ : ∃ R : HProp, R = rows 28 3 Rec.cells vr s.recs * (mp u32 u32 rh s.held * (tabQ tb s.self s.ls * (outH ⟨tb, vr, rh, rs, vo, rw', rq, ri, cb, cr, vs, vf, vc, vd, sb, wv⟩ s.out * (waitQ rw' wv s.wait * (mp u32 ptrV rq (qmap sb s.srs) * (mp i64 ptrV ri (imap sb s.srs) * (srsQ gn sb s.srs * (clockQ cb cr s.last s.clk * (rows 24 1 wrd64C vs s.sent * G))))))))) := ⟨_, rfl⟩
  refine WS_ent (H' := cel gn 159 (nodC 1 s ⟨tb, vr, rh, rs, vo, rw', rq, ri, cb, cr, vs, vf, vc, vd, sb, wv⟩ s.out) * (mp rqV u64 rs s.seen * (rows 269 2 rqC vo s.order * R))) (by rw [hR]; unfold nodP nodPm restP restC; exact finE) ?_
  have fin : ∀ (vo' : Value) (m' : List (Rq × UInt64)) (l' : List Rq) (Z : HProp), Ent (cel gn 159 (nodC 1 s ⟨tb, vr, rh, rs, vo', rw', rq, ri, cb, cr, vs, vf, vc, vd, sb, wv⟩ s.out) * (mp rqV u64 rs m' * (rows 269 2 rqC vo' l' * (R * Z)))) (nodP gn { s with seen := m', order := l' } ⟨tb, vr, rh, rs, vo', rw', rq, ri, cb, cr, vs, vf, vc, vd, sb, wv⟩ * G) := by
    intro vo' m' l' Z
    rw [hR]
    have e1 : outH ⟨tb, vr, rh, rs, vo', rw', rq, ri, cb, cr, vs, vf, vc, vd, sb, wv⟩ s.out = outH ⟨tb, vr, rh, rs, vo, rw', rq, ri, cb, cr, vs, vf, vc, vd, sb, wv⟩ s.out := rfl
    unfold nodP nodPm restP restC
    simp only [nodC, e1]
    exact finE
  refine WS_form vo iI fun A cap hv => ?_
  subst hv
  simp only [nodC, argE, rqV, rqC] at *
  repeat' (first | (refine WS_seqK ?_; intro K hK) | (refine hK _ ?_; clear hK K) | refine stZ ?_ | ((refine' LQ ?zh rfl ?_); case zh => intro F'; first | exact Q_move rfl | exact Q_assign rfl | exact Q_nilCheck rfl | exact Q_fieldAddr rfl iI rfl | exact Q_load rfl iI iI rfl | exact Q_len rfl iI) | (refine shZ ?_; intro g) | (refine LS_q (Q_sliceR_hm rfl rfl rfl rfl iI iI iI iI (Nat.zero_le _)) rfl ?_))
  have e0 : sCut (.slice A s.order.length cap) 0 = .slice A 0 0 := by simp [sCut]
  rw [e0]
  revert g; intro gb
  refine WS_ent (Ent.nil _ 269 2 rqC A) ?_
  obtain ⟨vo, hvo⟩ : ∃ v : Value, v = .slice A s.order.length cap := ⟨_, rfl⟩
  rw [← hvo]
  refine WS_loop (fun k τ => ∃ (j : Nat) (vk : Value), j + k = s.order.length ∧ τ = ⟨[(20, .int .i64 (j : Int)), (19, .int .i64 (s.order.length : Int)), (18, vo), (4, vk), (3, ptr gb 0), (0, ptr gn 0)], [], cel gb 269 [u32 r.src, u32 r.id] * (cel gn 159 (nodC 1 s ⟨tb, vr, rh, rs, vo, rw', rq, ri, cb, cr, vs, vf, vc, vd, sb, wv⟩ s.out) * (mp rqV u64 rs (remAll s.now s.seen (s.order.take j)).1 * (rows 269 2 rqC vk (remAll s.now s.seen (s.order.take j)).2 * (rows 269 2 rqC vo s.order * R))))⟩) ?_ ?_
  · exact ⟨s.order.length, _, ⟨0, _, by omega, rfl⟩, ⟨rfl, rfl, rfl, rfl, rfl, rfl, trivial⟩, rfl, by simp only [List.take_zero, remAll, List.foldl_nil, nodC]; exact finE⟩
  · rintro k τ ⟨j, vk, hjk, rfl⟩
    rcases Nat.lt_or_ge j s.order.length with hlt | hge
    · obtain ⟨⟨xs, xi⟩, hz⟩ : ∃ z, s.order[j]? = some z := ⟨_, List.getElem?_eq_getElem hlt⟩
      have htk : remAll s.now s.seen (s.order.take (j + 1)) = remStep s.now (remAll s.now s.seen (s.order.take j)) ⟨xs, xi⟩ := by rw [List.take_add_one, hz, Option.toList_some, remAll_snoc]
      have hpl := remAll_length s.now s.seen (s.order.take j)
      rw [List.length_take] at hpl
      generalize remAll s.now s.seen (s.order.take j) = p at *
      obtain ⟨m, q⟩ := p
      simp only [remStep] at htk hpl
      simp only [nodC, rqC]
      cases hg : mget m (⟨xs, xi⟩ : Rq) with
      | none =>
        have hsn : ¬ s.now < seenAt m ⟨xs, xi⟩ := by simp [seenAt, hg]
        have hn0 : ¬ s.now < 0 := UInt64.not_lt.2 (UInt64.zero_le)
        rw [if_neg hsn] at htk
        repeat' (first | (show WS _ _ _ (.region 5 _ true) _ _; refine WS_drawA (.range 11) (by decide +kernel) rfl ?_) | (show WS _ _ _ (.region 7 _ true) _ _; refine WS_drawK (.range 6) 5 [3, 4] (by decide +kernel) rfl ?_) | (refine WS_seqK ?_; intro K hK) | (refine hK _ ?_; clear hK K) | refine stZ ?_ | (refine s2Z ?_ ?_ <;> intro hc <;> (try simp only [cS] at hc) <;> (try (exfalso; first | contradiction | omega))) | refine sbZ ?_ | ((first | refine' LQ ?zh rfl ?_ | refine' DL_qp rfl rfl rfl ?zh ?_ | refine' DL_q rfl rfl ?zh ?_); case zh => intro F'; first | exact Q_move rfl | exact Q_nilCheck rfl | exact Q_fieldAddr rfl iI rfl | exact Q_load rfl iI iI rfl | exact Q_addI rfl rfl (by omega) | exact Q_loadA rfl iI iI rfl | exact Q_index rfl rfl iI iI iI iI (by first | assumption | omega | (simp [be_length] <;> omega)) | exact Q_loadRA rfl iI iI iI (by assumption) | exact Q_lookup_n rfl rfl iI iI iI iI iI (by assumption)) | (refine shZ ?_; intro g) | ((first | refine' LS_h0 ?zh ?_ | refine' DL_h0 ?zh rfl rfl ?_); (case zh => first | exact H_delete rfl rfl iI iI iI iI | exact H_storeA rfl rfl iI iI (by first | rfl | (simp only [List.all_cons, List.all_nil, *]; rfl)) rfl); intro g))
        exact ⟨k - 1, _, by omega, ⟨j + 1, vk, by omega, rfl⟩, ⟨rfl, rfl, rfl, rfl, rfl, rfl, trivial⟩, rfl, by rw [htk]; exact finE⟩
      | some t =>
        by_cases hsn : s.now < t
        · have hsn' : s.now < seenAt m ⟨xs, xi⟩ := by simpa [seenAt, hg] using hsn
          rw [if_pos hsn'] at htk
          repeat' (first | (show WS _ _ _ (.region 5 _ true) _ _; refine WS_drawA (.range 11) (by decide +kernel) rfl ?_) | (refine WS_seqK ?_; intro K hK) | (refine hK _ ?_; clear hK K) | refine stZ ?_ | (refine s2Z ?_ ?_ <;> intro hc <;> (try simp only [cS] at hc) <;> (try (exfalso; first | contradiction | omega))) | refine sbZ ?_ | ((first | refine' LQ ?zh rfl ?_ | refine' DL_q rfl rfl ?zh ?_); case zh => intro F'; first | exact Q_move rfl | exact Q_assign rfl | exact Q_nilCheck rfl | exact Q_fieldAddr rfl iI rfl | exact Q_load rfl iI iI rfl | exact Q_addI rfl rfl (by omega) | exact Q_loadA rfl iI iI rfl | exact Q_index rfl rfl iI iI iI iI (by first | assumption | omega | (simp [be_length] <;> omega)) | exact Q_loadRA rfl iI iI iI (by assumption) | exact Q_lookup_s rfl rfl iI iI iI iI iI (by assumption)) | (refine shZ ?_; intro g) | ((refine' LS_h0 ?zh ?_); (case zh => exact H_storeA rfl rfl iI iI (by first | rfl | (simp only [List.all_cons, List.all_nil, *]; rfl)) rfl); intro g) | (refine LS_h (H_buildSliceR rqC [⟨xs, xi⟩] iI iI iI rfl rfl rfl rfl rfl iI rfl rfl rfl) rfl ?_; intro vx) | (refine LS_h (H_appendR rfl rfl iI iI rfl iI iI rqC_one (by first | omega | (simp [be_length] <;> omega)) rfl) rfl ?_; intro vk2))
          exact ⟨k - 1, _, by omega, ⟨j + 1, vk2, by omega, rfl⟩, ⟨rfl, rfl, rfl, rfl, rfl, rfl, trivial⟩, rfl, by rw [htk]; exact finE⟩
        · have hsn' : ¬ s.now < seenAt m ⟨xs, xi⟩ := by simpa [seenAt, hg] using hsn
          rw [if_neg hsn'] at htk
          repeat' (first | (show WS _ _ _ (.region 5 _ true) _ _; refine WS_drawA (.range 11) (by decide +kernel) rfl ?_) | (show WS _ _ _ (.region 7 _ true) _ _; refine WS_drawK (.range 6) 5 [3, 4] (by decide +kernel) rfl ?_) | (refine WS_seqK ?_; intro K hK) | (refine hK _ ?_; clear hK K) | refine stZ ?_ | (refine s2Z ?_ ?_ <;> intro hc <;> (try simp only [cS] at hc) <;> (try (exfalso; first | contradiction | omega))) | refine sbZ ?_ | ((first | refine' LQ ?zh rfl ?_ | refine' DL_qp rfl rfl rfl ?zh ?_ | refine' DL_q rfl rfl ?zh ?_); case zh => intro F'; first | exact Q_move rfl | exact Q_nilCheck rfl | exact Q_fieldAddr rfl iI rfl | exact Q_load rfl iI iI rfl | exact Q_addI rfl rfl (by omega) | exact Q_loadA rfl iI iI rfl | exact Q_index rfl rfl iI iI iI iI (by first | assumption | omega | (simp [be_length] <;> omega)) | exact Q_loadRA rfl iI iI iI (by assumption) | exact Q_lookup_s rfl rfl iI iI iI iI iI (by assumption)) | (refine shZ ?_; intro g) | ((first | refine' LS_h0 ?zh ?_ | refine' DL_h0 ?zh rfl rfl ?_); (case zh => first | exact H_delete rfl rfl iI iI iI iI | exact H_storeA rfl rfl iI iI (by first | rfl | (simp only [List.all_cons, List.all_nil, *]; rfl)) rfl); intro g))
          exact ⟨k - 1, _, by omega, ⟨j + 1, vk, by omega, rfl⟩, ⟨rfl, rfl, rfl, rfl, rfl, rfl, trivial⟩, rfl, by rw [htk]; exact finE⟩
    · obtain rfl : j = s.order.length := by omega
      rw [List.take_of_length_le (Nat.le_refl _)]
      have hpl := remAll_length s.now s.seen s.order
      generalize hp : remAll s.now s.seen s.order = p at *
      obtain ⟨m, q⟩ := p
      simp only at hpl
      obtain ⟨ra, rb⟩ := r
      by_cases hlen : ((q ++ [⟨ra, rb⟩] : List Rq).length : Int) ≤ 16
      · have er : s.remember ⟨ra, rb⟩ = { s with seen := mset m ⟨ra, rb⟩ (s.now + 1280), order := q ++ [⟨ra, rb⟩] } := by unfold Nd.remember; simp only [hp]; rw [if_pos (by omega)]
        rw [er]
        simp only [nodC, rqC] at fin ⊢
        repeat' (first | (show WS _ _ _ (.region 10 _ true) _ _; refine WS_drawK (.range 11) 10 [3, 4, 8] (by decide +kernel) rfl ?_) | (refine WS_seqK ?_; intro K hK) | (refine hK _ ?_; clear hK K) | refine stZ ?_ | (refine s2Z ?_ ?_ <;> intro hc <;> (try simp only [cS] at hc) <;> (try (exfalso; first | contradiction | omega))) | refine sbZ ?_ | ((first | refine' LQ ?zh rfl ?_ | refine' DL_qp rfl rfl rfl ?zh ?_ | refine' DL_q rfl rfl ?zh ?_); case zh => intro F'; first | exact Q_move rfl | exact Q_nilCheck rfl | exact Q_fieldAddr rfl iI rfl | exact Q_load rfl iI iI rfl | exact Q_loadA rfl iI iI rfl | exact Q_len rfl iI) | ((first | refine' LQ ?zh rfl ?_ | refine' DL_q rfl rfl ?zh ?_); case zh => intro F'; exact Q_bin rfl rfl iI) | (refine s0Z ?_; intro g) | ((first | refine' LS_h0 ?zh ?_ | refine' DL_h0 ?zh rfl rfl ?_); (case zh => exact H_mapUpdate rfl rfl rfl iI iI iI iI iI); intro g) | (refine LS_h (H_buildSliceR rqC [⟨ra, rb⟩] iI iI iI rfl rfl rfl rfl rfl iI rfl rfl rfl) rfl ?_; intro vx) | (refine LS_h (H_appendR rfl rfl iI iI rfl iI iI rqC_one (by first | omega | (simp [be_length] <;> omega)) rfl) rfl ?_; intro vk2; refine LS_form vk2 iI fun A2 cap2 hv2 => ?_; subst hv2))
        refine ret_none (.inl rfl) rfl ⟨.slice A2 (q ++ [⟨ra, rb⟩] : List Rq).length cap2, rfl, ?_⟩
        rw [er]
        refine Ent.trans ?_ (fin _ _ _ emp)
        exact finE
      · simp only [nodC, rqC]
        repeat' (first | (show WS _ _ _ (.region 10 _ true) _ _; refine WS_drawK (.range 11) 10 [3, 4, 8] (by decide +kernel) rfl ?_) | (refine WS_seqK ?_; intro K hK) | (refine hK _ ?_; clear hK K) | refine stZ ?_ | (refine s2Z ?_ ?_ <;> intro hc <;> (try simp only [cS] at hc) <;> (try (exfalso; first | contradiction | omega))) | refine sbZ ?_ | ((first | refine' LQ ?zh rfl ?_ | refine' DL_qp rfl rfl rfl ?zh ?_ | refine' DL_q rfl rfl ?zh ?_); case zh => intro F'; first | exact Q_move rfl | exact Q_assign rfl | exact Q_nilCheck rfl | exact Q_fieldAddr rfl iI rfl | exact Q_load rfl iI iI rfl | exact Q_loadA rfl iI iI rfl | exact Q_len rfl iI) | ((first | refine' LQ ?zh rfl ?_ | refine' DL_q rfl rfl ?zh ?_); case zh => intro F'; exact Q_bin rfl rfl iI) | (refine s0Z ?_; intro g) | ((first | refine' LS_h0 ?zh ?_ | refine' DL_h0 ?zh rfl rfl ?_); (case zh => exact H_mapUpdate rfl rfl rfl iI iI iI iI iI); intro g) | (refine LS_h (H_buildSliceR rqC [⟨ra, rb⟩] iI iI iI rfl rfl rfl rfl rfl iI rfl rfl rfl) rfl ?_; intro vx) | (refine LS_h (H_appendR rfl rfl iI iI rfl iI iI rqC_one (by first | omega | (simp [be_length] <;> omega)) rfl) rfl ?_; intro vk2; refine LS_form vk2 iI fun A2 cap2 hv2 => ?_; subst hv2))
        obtain ⟨M, hM⟩ : ∃ M : List (Rq × UInt64), M = mset m ⟨ra, rb⟩ (s.now + 1280) := ⟨_, rfl⟩
        obtain ⟨L, hL⟩ : ∃ L : List Rq, L = q ++ [⟨ra, rb⟩] := ⟨_, rfl⟩
        have hLl : L.length ≤ 17 := by rw [hL]; simp; omega
        have hL0 : 16 < L.length := by rw [hL]; omega
        have er : s.remember ⟨ra, rb⟩ = { s with seen := mdel M (L.getD (firstOf M L L.length) ⟨0, 0⟩), order := L.take (firstOf M L L.length) ++ L.drop (firstOf M L L.length + 1) } := by unfold Nd.remember; simp only [hp, ← hM, ← hL]; rw [if_neg (by omega)]
        rw [← hL, ← hM]
        clear hM hL
        obtain ⟨vl, hvl⟩ : ∃ v : Value, v = .slice A2 L.length cap2 := ⟨_, rfl⟩
        rw [← hvl]
        refine WS_loop (fun k τ => ∃ j : Nat, j + k = L.length ∧ τ = ⟨[(73, .int .i64 (j : Int)), (72, .int .i64 (L.length : Int)), (71, vl), (7, .int .i64 (firstOf M L j : Int)), (0, ptr gn 0)], [], mp rqV u64 rs M * (cel gn 159 (nodC 1 s ⟨tb, vr, rh, rs, vl, rw', rq, ri, cb, cr, vs, vf, vc, vd, sb, wv⟩ s.out) * (rows 269 2 rqC vl L * R))⟩) ?_ ?_
        · exact ⟨L.length, _, ⟨0, by omega, rfl⟩, ⟨rfl, rfl, rfl, rfl, rfl, trivial⟩, rfl, by simp only [nodC]; exact finE⟩
        · rintro k τ ⟨j, hjk, rfl⟩
          have hfl := firstOf_lt M L j (by omega) (by omega)
          rcases Nat.lt_or_ge j L.length with hlt | hge
          · obtain ⟨⟨xs, xi⟩, hz⟩ : ∃ z, L[j]? = some z := ⟨_, List.getElem?_eq_getElem hlt⟩
            have hfs := firstOf_succ M L j
            generalize firstOf M L j = i0 at *
            obtain ⟨⟨ys, yi⟩, hy⟩ : ∃ z, L[i0]? = some z := ⟨_, List.getElem?_eq_getElem hfl⟩
            have hx1 : L.getD j ⟨0, 0⟩ = ⟨xs, xi⟩ := by simp [hz]
            have hy1 : L.getD i0 ⟨0, 0⟩ = ⟨ys, yi⟩ := by simp [hy]
            simp only [firstStep, hx1, hy1] at hfs
            simp only [nodC, rqC]
            by_cases hcc : seenAt M (⟨xs, xi⟩ : Rq) < seenAt M (⟨ys, yi⟩ : Rq)
            · rw [if_pos hcc] at hfs
              cases hgx : mget M (⟨xs, xi⟩ : Rq) <;> cases hgy : mget M (⟨ys, yi⟩ : Rq)
              all_goals simp only [seenAt, hgx, hgy, Option.getD_none, Option.getD_some] at hcc
              all_goals first | (exact absurd hcc (by decide); done) | skip
              all_goals
                repeat' (first | (show WS _ _ _ (.region 16 _ true) _ _; refine WS_drawA (.range 19) (by decide +kernel) rfl ?_) | (refine WS_seqK ?_; intro K hK) | (refine hK _ ?_; clear hK K) | refine stZ ?_ | (refine s2Z ?_ ?_ <;> intro hc <;> (try simp only [cS] at hc) <;> (try (exfalso; first | contradiction | omega))) | refine sbZ ?_ | ((first | refine' LQ ?zh rfl ?_ | refine' DL_q rfl rfl ?zh ?_); case zh => intro F'; first | exact Q_move rfl | exact Q_assign rfl | exact Q_nilCheck rfl | exact Q_fieldAddr rfl iI rfl | exact Q_load rfl iI iI rfl | exact Q_addI rfl rfl (by omega) | exact Q_loadA rfl iI iI rfl | exact Q_index rfl rfl iI iI iI iI (by first | assumption | omega | (simp [be_length] <;> omega)) | exact Q_loadRA rfl iI iI iI (by assumption) | exact Q_lookup_s rfl rfl iI iI iI iI iI (by assumption) | exact Q_lookup_n rfl rfl iI iI iI iI iI (by assumption)) | (refine shZ ?_; intro g) | ((refine' LS_h0 ?zh ?_); (case zh => exact H_storeA rfl rfl iI iI (by first | rfl | (simp only [List.all_cons, List.all_nil, *]; rfl)) rfl); intro g))
              all_goals
                exact ⟨k - 1, _, by omega, ⟨j + 1, by omega, rfl⟩, ⟨rfl, rfl, rfl, by rw [hfs]; rfl, rfl, trivial⟩, rfl, finE⟩
            · rw [if_neg hcc] at hfs
              cases hgx : mget M (⟨xs, xi⟩ : Rq) <;> cases hgy : mget M (⟨ys, yi⟩ : Rq)
              all_goals simp only [seenAt, hgx, hgy, Option.getD_none, Option.getD_some] at hcc
              all_goals first | (exact absurd hcc (by decide); done) | skip
              all_goals
                repeat' (first | (show WS _ _ _ (.region 16 _ true) _ _; refine WS_drawA (.range 19) (by decide +kernel) rfl ?_) | (refine WS_seqK ?_; intro K hK) | (refine hK _ ?_; clear hK K) | refine stZ ?_ | (refine s2Z ?_ ?_ <;> intro hc <;> (try simp only [cS] at hc) <;> (try (exfalso; first | contradiction | omega))) | refine sbZ ?_ | ((first | refine' LQ ?zh rfl ?_ | refine' DL_q rfl rfl ?zh ?_); case zh => intro F'; first | exact Q_move rfl | exact Q_assign rfl | exact Q_nilCheck rfl | exact Q_fieldAddr rfl iI rfl | exact Q_load rfl iI iI rfl | exact Q_addI rfl rfl (by omega) | exact Q_loadA rfl iI iI rfl | exact Q_index rfl rfl iI iI iI iI (by first | assumption | omega | (simp [be_length] <;> omega)) | exact Q_loadRA rfl iI iI iI (by assumption) | exact Q_lookup_s rfl rfl iI iI iI iI iI (by assumption) | exact Q_lookup_n rfl rfl iI iI iI iI iI (by assumption)) | (refine shZ ?_; intro g) | ((refine' LS_h0 ?zh ?_); (case zh => exact H_storeA rfl rfl iI iI (by first | rfl | (simp only [List.all_cons, List.all_nil, *]; rfl)) rfl); intro g))
              all_goals
                exact ⟨k - 1, _, by omega, ⟨j + 1, by omega, rfl⟩, ⟨rfl, rfl, rfl, by rw [hfs]; rfl, rfl, trivial⟩, rfl, finE⟩
          · obtain rfl : j = L.length := by omega
            generalize firstOf M L L.length = i0 at *
            obtain ⟨⟨ys, yi⟩, hy⟩ : ∃ z, L[i0]? = some z := ⟨_, List.getElem?_eq_getElem hfl⟩
            have hy1 : L.getD i0 ⟨0, 0⟩ = ⟨ys, yi⟩ := by simp [hy]
            rw [hy1] at er
            simp only [nodC, rqC]
            repeat' (first | (show WS _ _ _ (.region 19 _ true) _ _; refine WS_drawK (.range 12) 11 [3, 7, 9, 10] (by decide +kernel) rfl ?_) | (show WS _ _ _ (.region 20 _ true) _ _; first | refine WS_drawK (.range 19) 15 [4, 7, 11, 14] (by decide +kernel) rfl ?_ | refine WS_drawM 0 (.range 19) 18 [4, 11] (by decide +kernel) rfl rfl iI ?_) | (refine WS_seqK ?_; intro K hK) | (refine hK _ ?_; clear hK K) | refine stZ ?_ | (refine s2Z ?_ ?_ <;> intro hc <;> (try simp only [cS] at hc) <;> (try (exfalso; first | contradiction | omega))) | refine sbZ ?_ | ((first | refine' LQ ?zh rfl ?_ | refine' DL_qp rfl rfl rfl ?zh ?_ | refine' DL_q rfl rfl ?zh ?_); case zh => intro F'; first | exact Q_move rfl | exact Q_nilCheck rfl | exact Q_fieldAddr rfl iI rfl | exact Q_load rfl iI iI rfl | exact Q_addI rfl rfl (by omega) | exact Q_index rfl rfl iI iI iI iI (by first | assumption | omega | (simp [be_length] <;> omega)) | exact Q_loadRA rfl iI iI iI (by assumption) | exact Q_sliceR_l rfl rfl iI iI iI iI (by first | assumption | omega | (simp [be_length] <;> omega))) | (refine s0Z ?_; intro g) | ((refine' DL_h0 ?zh rfl rfl ?_); (case zh => exact H_delete rfl rfl iI iI iI iI); intro g) | ((refine' DL_qp rfl rfl rfl ?zh ?_); (case zh => intro F'; exact Q_sliceR_hm rfl rfl rfl rfl iI iI iI iI (by omega))) | (refine DL_h (H_appendCut i0 (i0 + 1) rfl rfl iI (by omega) (by omega) iI iI rqC_one (by omega) rfl iI) rfl rfl rfl ?_; intro va))
            refine ret_none (.inr rfl) rfl ⟨va, rfl, ?_⟩
            rw [er]
            refine Ent.trans ?_ (fin _ _ _ emp)
            exact finE
end

section
open Go.RowKit
attribute [local irreducible] WS LS OpQ OpT OpH OpTQ Spec SpecQ cel
variable (w0 : World)
set_option maxRecDepth 100000 in
set_option maxHeartbeats 8000000 in
theorem answer_spec (gn : Nat) (s : Nd) (h : NH) (p : Pk) (hl : p.lost = []) (hp : i64R p.hops) (hy : p.payload.length ≤ 100) (ok : TabOk s.ls) (hf : s.Fit 1) : Spec Tryz.prog w0 174 [ptr gn 0, p.val (.slice none 0 0)] (nodP gn s h) (fun _ : Value => .tuple #[]) (fun _ => nodA gn (s.answer p)) := by
  have p1 := find_spec w0 h.tb s.self s.ls ok p.from_ s.now
  have p2 := drop_A w0 gn s h 3 hf
  have p3 := fun to => send_A0 w0 gn s h to { p with ttl := 8, kind := 2 } ⟨by simp [i64R], by simp [i64R], hp, by simp [hl], by simp only; omega⟩ hl hf
  refine Spec.enter Tryz.func174 rfl Tryz.ntmps174 rfl fun G => ?_
  simp only [nodP, nodPm, nodC, outH, restP, Pk.val, Pk.cells] at p1 p2 p3 ⊢
  simp only [argE]
  cases hx : lookT s.ls p.from_ s.now with
  | none =>
    have es : s.answer p = s.drop 3 := by unfold Nd.answer; rw [hx]
    simp only [hx, findV, findH] at p1
    repeat' (first | (show WS _ _ _ (.region 2 _ true) _ _; first | refine WS_drawR2 0 3 (.range 17) (by decide +kernel) rfl rfl rfl iI iI ?_ | refine WS_drawK (.range 17) 10 [3, 5, 9] (by decide +kernel) rfl ?_) | (refine WS_seqK ?_; intro K hK) | (refine hK _ ?_; clear hK K) | refine stZ ?_ | (refine s2Z ?_ ?_ <;> intro hc <;> (try simp only [cS] at hc) <;> (try (exfalso; first | contradiction | omega))) | (refine DL_alloc iI rfl ?_; intro g) | ((first | refine' LQ ?zh rfl ?_ | refine' DL_q rfl rfl ?zh ?_); case zh => intro F'; first | exact Q_move rfl | exact Q_assign rfl | exact Q_nilCheck rfl | exact Q_fieldAddr rfl iI rfl | exact Q_load rfl iI iI rfl | exact Q_extract rfl rfl) | (refine shZ ?_; intro g) | (refine s0Z ?_; intro g) | ((first | refine' LS_h0 ?zh ?_ | refine' DL_h0 ?zh rfl rfl ?_); (case zh => exact H_storeA rfl rfl iI iI (by first | rfl | (simp only [List.all_cons, List.all_nil, *]; rfl)) rfl); intro g) | (refine DL_h (H_callX iI rfl p1 iI) rfl rfl rfl ?_; intro x1) | (refine LS_h (H_callX iI rfl p2 iI) rfl ?_; intro x2))
    exact ret_none (.inr rfl) rfl ⟨.tuple #[], rfl, by rw [es]; exact finE⟩
  | some b =>
    have es : s.answer p = s.send b.next { p with ttl := 8, kind := 2 } := by unfold Nd.answer; rw [hx]
    simp only [hx, findV, findH, routeC] at p1
    repeat' (first | (show WS _ _ _ (.region 2 _ true) _ _; first | refine WS_drawR2 0 3 (.range 17) (by decide +kernel) rfl rfl rfl iI iI ?_ | refine WS_drawK (.range 17) 10 [3, 5, 9] (by decide +kernel) rfl ?_) | (refine WS_seqK ?_; intro K hK) | (refine hK _ ?_; clear hK K) | refine stZ ?_ | (refine s2Z ?_ ?_ <;> intro hc <;> (try simp only [cS] at hc) <;> (try (exfalso; first | contradiction | omega))) | (refine DL_alloc iI rfl ?_; intro g) | ((first | refine' LQ ?zh rfl ?_ | refine' DL_q rfl rfl ?zh ?_); case zh => intro F'; first | exact Q_move rfl | exact Q_assign rfl | exact Q_nilCheck rfl | exact Q_fieldAddr rfl iI rfl | exact Q_load rfl iI iI rfl | exact Q_extract rfl rfl | exact Q_loadA rfl iI iI rfl) | (refine shZ ?_; intro g) | (refine s0Z ?_; intro g) | (refine DL_h (H_callX iI rfl p1 iI) rfl rfl rfl ?_; intro x1) | (refine LS_h (H_callX iI rfl (p3 _) iI) rfl ?_; intro x2))
    exact ret_none (.inr rfl) rfl ⟨.tuple #[], rfl, by rw [es]; exact finE⟩
set_option maxRecDepth 100000 in
set_option maxHeartbeats 8000000 in
theorem lost_spec (gn : Nat) (s : Nd) (h : NH) (l : List (UInt32 × UInt32)) (hl : l.length ≤ 1000) (v : Value) (hf : s.Fit 1) : Spec Tryz.prog w0 179 [ptr gn 0, v] (nodP gn s h * rows 180 2 lostC v l) (fun _ : Value => .tuple #[]) (fun _ => nodA gn (s.lost l)) := by
  have p1 := fun A c => send_A w0 gn s h 0 (Pk.lose l) (Pk.lose_ok l (by omega)) (.slice A l.length c) rfl (rows 180 2 lostC (.slice A l.length c) l) (rdr_bare _ _ _ _ _) hf
  refine Spec.enter Tryz.func179 rfl Tryz.ntmps179 rfl fun G => ?_
  refine WS_form v iI fun A c hv => ?_
  subst hv
  simp only [nodP, nodPm, nodC, outH, restP, Pk.val, Pk.cells, Pk.lose] at p1 ⊢
  simp only [argE]
  by_cases h0 : 0 < l.length
  · have es : s.lost l = s.send 0 (Pk.lose l) := by unfold Nd.lost; rw [if_pos h0]
    repeat' (first | (refine WS_seqK ?_; intro K hK) | (refine hK _ ?_; clear hK K) | refine stZ ?_ | (refine s2Z ?_ ?_ <;> intro hc <;> (try simp only [cS] at hc) <;> (try (exfalso; first | contradiction | omega))) | refine sbZ ?_ | ((refine' LQ ?zh rfl ?_); case zh => intro F'; first | exact Q_move rfl | exact Q_build iI iI rfl rfl | exact Q_len rfl iI) | (refine LS_h (H_callX iI rfl (p1 _ _) iI) rfl ?_; intro x2))
    exact ret_none (.inr rfl) rfl ⟨.tuple #[], rfl, by rw [es]; unfold Pk.lose; exact finE⟩
  · have es : s.lost l = s := by unfold Nd.lost; rw [if_neg h0]
    repeat' (first | (refine WS_seqK ?_; intro K hK) | (refine hK _ ?_; clear hK K) | refine stZ ?_ | (refine s2Z ?_ ?_ <;> intro hc <;> (try simp only [cS] at hc) <;> (try (exfalso; first | contradiction | omega))) | refine sbZ ?_ | ((refine' LQ ?zh rfl ?_); case zh => intro F'; first | exact Q_move rfl | exact Q_len rfl iI))
    exact ret_none (.inr rfl) rfl ⟨.tuple #[], rfl, by rw [es]; refine Ent.nod h ?_; simp only [nodP, nodPm, nodC, outH, restP]; exact finE⟩
set_option maxRecDepth 100000 in
set_option maxHeartbeats 8000000 in
theorem hand_spec (gn : Nat) (s : Nd) (h : NH) (dest : UInt32) (text : Str) (ht : text.length ≤ 100) (ok : TabOk s.ls) (hf : s.Fit 1) : Spec Tryz.prog w0 145 [ptr gn 0, u32 dest, strV text] (nodP gn s h) (fun _ : Value => .bool (lookT s.ls dest s.now).isSome) (fun vf => nodP gn (s.hand dest text) { h with vf := vf }) := by
  have p1 := find_spec w0 h.tb s.self s.ls ok dest s.now
  refine Spec.enter Tryz.func145 rfl Tryz.ntmps145 rfl fun G => ?_
  cases hx : lookT s.ls dest s.now with
  | none =>
    have es : s.hand dest text = s := by unfold Nd.hand; rw [hx]
    rw [es]
    simp only [nodP, nodPm, nodC, outH, restP] at p1 ⊢
    simp only [argE]
    simp only [hx, findV, findH] at p1
    repeat' (first | (show WS _ _ _ (.region 1 _ true) _ _; first | refine WS_drawR1 0 (.range 16) (by decide +kernel) rfl rfl iI ?_ | refine WS_drawK (.range 16) 9 [3, 8] (by decide +kernel) rfl ?_ | refine WS_drawN 7 0 (.range 16) 14 [] (by decide +kernel) rfl rfl rfl iI iI ?_) | (refine WS_seqK ?_; intro K hK) | (refine hK _ ?_; clear hK K) | refine stZ ?_ | (refine s2Z ?_ ?_ <;> intro hc <;> (try simp only [cS] at hc) <;> (try (exfalso; first | contradiction | omega))) | (refine DL_alloc iI rfl ?_; intro g) | ((first | refine' LQ ?zh rfl ?_ | refine' DL_q rfl rfl ?zh ?_); case zh => intro F'; first | exact Q_move rfl | exact Q_assign rfl | exact Q_nilCheck rfl | exact Q_fieldAddr rfl iI rfl | exact Q_load rfl iI iI rfl | exact Q_extract rfl rfl | exact Q_un rfl iI) | ((refine' DL_h0 ?zh rfl rfl ?_); (case zh => exact H_storeA rfl rfl iI iI (by first | rfl | (simp only [List.all_cons, List.all_nil, *]; rfl)) rfl); intro g) | (refine DL_h (H_callX iI rfl p1 iI) rfl rfl rfl ?_; intro x1))
    exact ret_tmp (.inl rfl) rfl rfl ⟨h.vf, rfl, finE⟩
  | some b =>
    obtain ⟨s1, hs1⟩ : ∃ s1 : Nd, s1 = { s with datas := s.datas + 1 } := ⟨_, rfl⟩
    obtain ⟨s2, hs2⟩ : ∃ s2 : Nd, s2 = s1.send b.next ⟨8, 9, 0, false, s.datas + 1, dest, 0, s.self, 0, 0, [], text⟩ := ⟨_, rfl⟩
    have es : s.hand dest text = { s2 with ls := useT s2.ls dest s2.soon } := by unfold Nd.hand; rw [hx]; rw [hs2, hs1]; rfl
    have p2 := send_E0 w0 gn s1 h b.next ⟨8, 9, 0, false, s.datas + 1, dest, 0, s.self, 0, 0, [], text⟩ ⟨by simp [i64R], by simp [i64R], by simp [i64R], by simp, by simp only; omega⟩ rfl (by rw [hs1]; exact ⟨hf.frames, hf.came, hf.dropped, hf.recs, hf.journal⟩)
    have p3 := fun vf => soon_spec w0 gn s2 { h with vf := vf }
    have p4 := use_spec w0 h.tb s2.self s2.ls dest s2.soon
    rw [← hs2] at p2
    rw [hs1] at p2
    rw [es]
    simp only [nodP, nodPm, nodC, outH, restP, Pk.val, Pk.cells] at p1 p2 p3 p4 ⊢
    simp only [argE]
    simp only [hx, findV, findH, routeC] at p1
    repeat' (first | (show WS _ _ _ (.region 1 _ true) _ _; first | refine WS_drawR1 0 (.range 16) (by decide +kernel) rfl rfl iI ?_ | refine WS_drawK (.range 16) 9 [3, 8] (by decide +kernel) rfl ?_ | refine WS_drawN 7 0 (.range 16) 14 [] (by decide +kernel) rfl rfl rfl iI iI ?_) | (show WS _ _ _ (.region 5 _ true) _ _; refine WS_drawK (.range 15) 14 [2, 6, 11] (by decide +kernel) rfl ?_) | (show WS _ _ _ (.region 6 _ true) _ _; refine WS_drawK (.range 8) 7 [3] (by decide +kernel) rfl ?_) | (refine WS_seqK ?_; intro K hK) | (refine hK _ ?_; clear hK K) | refine stZ ?_ | (refine s2Z ?_ ?_ <;> intro hc <;> (try simp only [cS] at hc) <;> (try (exfalso; first | contradiction | omega))) | (refine DL_alloc iI rfl ?_; intro g) | ((first | refine' LQ ?zh rfl ?_ | refine' DL_qp rfl rfl rfl ?zh ?_ | refine' DL_q rfl rfl ?zh ?_); case zh => intro F'; first | exact Q_move rfl | exact Q_assign rfl | exact Q_nilCheck rfl | exact Q_fieldAddr rfl iI rfl | exact Q_load rfl iI iI rfl | exact Q_extract rfl rfl | exact Q_un rfl iI | exact Q_build iI iI rfl rfl) | ((refine' LQ ?zh rfl ?_); case zh => intro F'; exact Q_bin rfl rfl iI) | (refine s0Z ?_; intro g) | (refine DL_h (H_callX iI rfl p1 iI) rfl rfl rfl ?_; intro x1) | (refine DL_h (H_callX iI rfl p2 iI) rfl rfl rfl ?_; intro vf; replace p3 := p3 vf) | (refine DL_callS iI rfl p3 iI rfl ?_) | (refine DL_h (H_callX iI rfl p4 iI) rfl rfl rfl ?_; intro x4))
    exact ret_tmp (.inl rfl) rfl rfl ⟨vf, rfl, finE⟩
end

section
open Go.RowKit
structure Pk.Read (p : Pk) : Prop where
  ttl : 1 ≤ p.ttl ∧ p.ttl ≤ 255
  kind : i64R p.kind
  hops : 0 ≤ p.hops ∧ p.hops ≤ 255
  lost : p.lost.length ≤ 1000
  payload : p.payload.length ≤ 100
theorem Nd.remember_eqs (s : Nd) (r : Rq) : (s.remember r).ls = s.ls ∧ (s.remember r).self = s.self ∧ (s.remember r).now = s.now ∧ (s.remember r).out = s.out ∧ (s.remember r).recs = s.recs := by
  unfold Nd.remember
  dsimp only
  split <;> exact ⟨rfl, rfl, rfl, rfl, rfl⟩
theorem Nd.Fit.remember {s : Nd} {k : Nat} (h : s.Fit k) (r : Rq) : (s.remember r).Fit k := by
  obtain ⟨_, _, _, e, f⟩ := s.remember_eqs r
  exact ⟨by rw [e]; exact h.frames, by rw [e]; exact h.came, by rw [e]; exact h.dropped, by rw [f]; exact h.recs, by rw [e]; exact h.journal⟩
theorem updT_code (self : UInt32) (ls : List Ln) (x : Ln) : (updT self ls x).1 = 0 ∨ (updT self ls x).1 = 2 ∨ (updT self ls x).1 = 3 ∨ (updT self ls x).1 = 4 := by
  unfold updT
  repeat' split
  all_goals simp
theorem lookT_mem {ls : List Ln} {d : UInt32} {now : UInt64} {x : Ln} (h : lookT ls d now = some x) : x ∈ ls := by
  unfold lookT lget at h
  cases hf : lfind ls d with
  | none => rw [hf] at h; cases h
  | some i =>
    obtain ⟨l, hl, _⟩ := lfind_some hf
    rw [hf] at h
    simp only [Option.bind_some, hl] at h
    split at h
    · cases h; exact List.mem_of_getElem? hl
    · cases h
end

section
open Go.RowKit
variable (w0 : World)
theorem clock_add (b r : Nat) (last : Int) (L : List Tm) (t : UInt64) (x : Int) (hl : L.length ≤ 900000) (h0 : 0 ≤ last ∧ last ≤ 1000000000000000) : Spec Tryz.prog w0 227 [ptr b 0, u64 t, .int .i64 x] (clockQ b r last L) (fun _ : Unit => .int .i64 (last + 1)) (fun _ => clockQ b r (last + 1) (L ++ [⟨t, last + 1, x⟩])) := fun G w hs => by
  unfold clockQ at hs
  obtain ⟨l, hs1⟩ := hs.ex
  obtain ⟨tr, hs2⟩ := (hs1.cast (star_assoc _ _ _)).pure
  have hp := tr.perm.length_eq
  refine (hadd_spec w0 b r last l t x (fun u hu => by have := tr.bound u (tr.perm.mem_iff.1 hu); omega) tr.idn (by omega) h0 G w hs2).mono ?_
  rintro e w' ⟨y, he, hx⟩
  exact ⟨y, he, (Ent.hexI (p := fun l => pure' (TR l (L ++ [⟨t, last + 1, x⟩]) (last + 1)) * heapQ b r (last + 1) l) _ ((Ent.pureI (tr.add h0.1 ⟨t, last + 1, x⟩ rfl) (Ent.refl _)).trans (Ent.of_eq (star_assoc _ _ _).symm))).sat hx⟩
theorem clock_none (b r : Nat) (last : Int) (L : List Tm) (now : UInt64) (hb : bestN L now L.length = none) : Spec Tryz.prog w0 143 [ptr b 0, u64 now] (clockQ b r last L) (fun _ : Unit => .tuple #[.int .i64 0, .bool false]) (fun _ => clockQ b r last L) := fun G w hs => by
  unfold clockQ at hs
  obtain ⟨l, hs1⟩ := hs.ex
  obtain ⟨tr, hs2⟩ := (hs1.cast (star_assoc _ _ _)).pure
  have h1 : 0 < l.length → now < (at' l 0).at_ := fun h => by
    by_cases hc : now < (at' l 0).at_
    · exact hc
    · obtain ⟨k, hk, _⟩ := tr.due h hc; rw [hb] at hk; cases hk
  refine (hnext_none w0 b r last l now h1 G w hs2).mono ?_
  rintro e w' ⟨y, he, hx⟩
  exact ⟨y, he, (Ent.hexI (p := fun l => pure' (TR l L last) * heapQ b r last l) l ((Ent.pureI tr (Ent.refl _)).trans (Ent.of_eq (star_assoc _ _ _).symm))).sat hx⟩
theorem clock_some (b r : Nat) (last : Int) (L : List Tm) (now : UInt64) {i : Nat} (hb : bestN L now L.length = some i) (hl : L.length ≤ 900000) : Spec Tryz.prog w0 143 [ptr b 0, u64 now] (clockQ b r last L) (fun _ : Unit => .tuple #[.int .i64 (at' L i).what, .bool true]) (fun _ => clockQ b r last (L.eraseIdx i)) := fun G w hs => by
  unfold clockQ at hs
  obtain ⟨l, hs1⟩ := hs.ex
  obtain ⟨tr, hs2⟩ := (hs1.cast (star_assoc _ _ _)).pure
  have hp := tr.perm.length_eq
  have h0 : 0 < l.length := by have := (bestN_some hb).1; omega
  have h1 : ¬ now < (at' l 0).at_ := fun hc => by rw [tr.idle (fun _ => hc)] at hb; cases hb
  obtain ⟨k, hk, hk1, hk2, tr2⟩ := tr.due h0 h1
  rw [hb] at hk; cases hk
  refine (hnext_some w0 b r last l now h0 h1 tr.idn (by omega) G w hs2).mono ?_
  rintro e w' ⟨y, he, hx⟩
  rw [hk2] at he
  exact ⟨y, he, (Ent.hexI (p := fun l => pure' (TR l (L.eraseIdx i) last) * heapQ b r last l) _ ((Ent.pureI tr2 (Ent.refl _)).trans (Ent.of_eq (star_assoc _ _ _).symm))).sat hx⟩
theorem shl64 {P : Program} {t : TypeId} {x : UInt64} {r : Int} (h : 0 ≤ r ∧ r < 64) : BinV P .shl t (u64 x) (.int .i64 r) (u64 (x <<< UInt64.ofNat r.toNat)) := by
  obtain ⟨k, rfl⟩ : ∃ k : Nat, r = (k : Int) := ⟨r.toNat, by omega⟩
  refine ⟨fun w => ?_, fun w _ _ => guard_int _ _ _ _ _ _ _ _ _⟩
  show (Op.shift .shl .u64 (x.toNat : Int) .i64 (k : Int)).run P w = _
  have hk : k < 64 := by omega
  unfold Op.shift
  rw [if_neg (by omega)]
  simp only [Int.toNat_natCast, IntKind.bits]
  rw [show min k 64 = k by omega]
  have e : u64 (x <<< UInt64.ofNat k) = .int .u64 (IntKind.u64.wrap ((x.toNat : Int) * 2 ^ k)) := by
    refine (ofNat_u64 ?_).symm
    rw [wrap_u64, UInt64.toNat_shiftLeft, UInt64.toNat_ofNat']
    rw [Nat.mod_eq_of_lt (show k < 2 ^ 64 by omega), Nat.mod_eq_of_lt hk, Nat.shiftLeft_eq]
    simp
  rw [e]; rfl
theorem Q_convU {P : Program} {n : Frm} {w0 : World} {E : Env} {H : HProp} {d : Option Tmp} {ty : TypeId} {pos : String} {after : Array Edge} {gu : Option (Tmp × Bool)} {x : Operand} {src t : TypeId} {q : IntKind} {m : Int} {ds : TypeDesc} (hx : E.ev x = some (.int q m)) (hs : Und P src ds) (hd : Und P t (.int .u64)) (hm : 0 ≤ m ∧ m < 1000000) : OpQ P n w0 ⟨d, .convert src t x, ty, pos, after, gu⟩ E H (u64 (UInt64.ofNat m.toNat)) :=
  Q_convI hx hs hd (by rw [wrap_u64, UInt64.toNat_ofNat']; omega)
theorem askWait_eq (x : Sr) (h : 0 ≤ x.ttl ∧ x.ttl ≤ 8 ∧ 0 ≤ x.retries ∧ x.retries ≤ 2) : askWait x = (80 * UInt64.ofNat (x.ttl + 2).toNat) <<< UInt64.ofNat x.retries.toNat := by
  obtain ⟨d, ttl, ret, o, nm⟩ := x
  simp only at h
  unfold askWait
  simp only
  obtain ⟨h1, h2, h3, h4⟩ := h
  have a : ttl = 0 ∨ ttl = 1 ∨ ttl = 2 ∨ ttl = 3 ∨ ttl = 4 ∨ ttl = 5 ∨ ttl = 6 ∨ ttl = 7 ∨ ttl = 8 := by omega
  have b : ret = 0 ∨ ret = 1 ∨ ret = 2 := by omega
  rcases a with rfl | rfl | rfl | rfl | rfl | rfl | rfl | rfl | rfl <;> rcases b with rfl | rfl | rfl <;> decide
theorem modify_set {α : Type} {l : List α} {k : Nat} {x : α} (h : l[k]? = some x) (f : α → α) : l.modify k f = l.set k (f x) := by
  apply List.ext_getElem?
  intro j
  rw [List.getElem?_modify, List.getElem?_set]
  by_cases e : k = j
  · subst e
    obtain ⟨h1, h2⟩ := List.getElem?_eq_some_iff.1 h
    simp [h1, h2]
  · simp [e]
theorem srs_open (g : Nat) {bs : List Nat} {ss : List Sr} {k b : Nat} {x : Sr} (hl : bs.length = ss.length) (hb : bs[k]? = some b) (hx : ss[k]? = some x) : ∃ F, srsQ g bs ss = cel b 247 (srC g b x) * F ∧ ∀ y, srsQ g bs (ss.set k y) = cel b 247 (srC g b y) * F := by
  obtain ⟨F, e1, e2, _⟩ := zrow_hole (srP g) hb hx
  refine ⟨F, by rw [srsQ_eq hl, srsP_z, e1]; rfl, fun y => ?_⟩
  have := e2 b y
  rw [show bs.set k b = bs from by
    apply List.ext_getElem?
    intro j
    rw [List.getElem?_set]
    split
    · rename_i e; subst e; obtain ⟨h1, h2⟩ := List.getElem?_eq_some_iff.1 hb; simp [h1, h2]
    · rfl] at this
  rw [srsQ_eq (by simpa using hl), srsP_z, this]; rfl
def nodO (g : Nat) (s : Nd) (h : NH) (b : Nat) (x : Sr) (F1 : HProp) : HProp :=
  cel g 159 (nodC 1 s h s.out) * (rows 28 3 Rec.cells h.vr s.recs * (mp u32 u32 h.rh s.held * (tabQ h.tb s.self s.ls * (outH h s.out * (mp rqV u64 h.rs s.seen * (rows 269 2 rqC h.vo s.order * (waitQ h.rw h.wv s.wait * (mp u32 ptrV h.rq (qmap h.sb s.srs) * (mp i64 ptrV h.ri (imap h.sb s.srs) * (cel b 247 (srC g b x) * (F1 * (clockQ h.cb h.cr s.last s.clk * rows 24 1 wrd64C h.vs s.sent))))))))))))
theorem Nd.Fit.note {s : Nd} {k : Nat} (h : s.Fit (k + 1)) (ok : TabOk s.ls) : s.note.Fit k := by
  obtain ⟨a, b, c, d, e⟩ := h
  have h1 := Nd.Same.note s
  have h2 := Nd.note_recs s ok
  have h3 := Nd.note_jour s ok
  exact ⟨by rw [h1.frames]; omega, by rw [h1.came]; omega, by rw [h1.dropped]; omega, by omega, by omega⟩
attribute [local irreducible] WS LS OpQ OpT OpH OpTQ Spec SpecQ cel
set_option maxRecDepth 100000 in
set_option maxHeartbeats 16000000 in
theorem ask_spec (gn : Nat) (s : Nd) (h : NH) {k b : Nat} {x : Sr} (hx : s.srs[k]? = some x) (hb : h.sb[k]? = some b) (hxr : 0 ≤ x.ttl ∧ x.ttl ≤ 8 ∧ 0 ≤ x.retries ∧ x.retries ≤ 2) (ok : TabOk s.ls) (hod : s.order.length ≤ 16) (hsn : s.sent.length ≤ 100) (hck : s.clk.length ≤ 900000) (hla : 0 ≤ s.last ∧ s.last ≤ 1000000000000) (hf : s.Fit 3) : Spec Tryz.prog w0 198 [ptr b 0] (nodP gn s h) (fun _ : Unit => .tuple #[]) (fun _ => nodA gn (s.ask k x)) := by
  refine Spec.enter Tryz.func198 rfl Tryz.ntmps198 rfl fun G => ?_
  refine WS_lens fun hsb hwv => ?_
  obtain ⟨F1, e1, e2⟩ := srs_open gn hsb hb hx
  have hmd := fun f => modify_set hx f
  have hqm : ∀ y : Sr, y.dest = x.dest → qmap h.sb (s.srs.set k y) = qmap h.sb s.srs := fun y hy => zmap_set (key := fun x : Sr => x.dest) hx hy
  have him : ∀ y : Sr, y.name = x.name → imap h.sb (s.srs.set k y) = imap h.sb s.srs := fun y hy => zmap_set (key := fun x : Sr => x.name) hx hy
  obtain ⟨xd, xt, xr, xo, xn⟩ := x
  simp only at hxr hqm him
  have hqm1 := fun o => hqm ⟨xd, xt, xr, o, xn⟩ rfl
  have him1 := fun o => him ⟨xd, xt, xr, o, xn⟩ rfl
  simp only [argE]
  by_cases hc : s.now < s.silent
  · have es : s.ask k ⟨xd, xt, xr, xo, xn⟩ = ((s.setOut k false).drop 8).arm xn 1000 := by unfold Nd.ask; rw [if_pos hc]
    have p1 := ndrop_spec w0 gn (s.setOut k false) h 8 (by have := hf.dropped; exact (by omega : s.out.dropped.length ≤ 900000))
    have p2 := clock_add w0 h.cb h.cr s.last s.clk (s.now + 1000) xn hck (by omega)
    simp only [nodP, nodPm, nodC, outH, restP, restC, Nd.setOut, Nd.drop, hmd, e1, e2, hqm1, him1, srC] at p1 ⊢
    repeat' (first | (show WS _ _ _ (.region 14 _ true) _ _; refine WS_drawA (.range 10) (by decide +kernel) rfl ?_) | (show WS _ _ _ (.region 18 _ true) _ _; refine WS_drawK (.range 15) 14 [3, 7, 13] (by decide +kernel) rfl ?_) | (refine WS_seqK ?_; intro K hK) | (refine hK _ ?_; clear hK K) | refine stZ ?_ | (refine s2Z ?_ ?_ <;> intro hc <;> (try simp only [cS] at hc) <;> (try (exfalso; first | contradiction | omega))) | refine sbZ ?_ | ((first | refine' LQ ?zh rfl ?_ | refine' DL_qp rfl rfl rfl ?zh ?_ | refine' DL_q rfl rfl ?zh ?_); case zh => intro F'; first | exact Q_move rfl | exact Q_assign rfl | exact Q_nilCheck rfl | exact Q_fieldAddr rfl iI rfl | exact Q_load rfl iI iI rfl) | ((first | refine' LQ ?zh rfl ?_ | refine' DL_q rfl rfl ?zh ?_); case zh => intro F'; exact Q_bin rfl rfl iI) | (refine s0Z ?_; intro g) | (refine LS_h (H_callX iI rfl p1 iI) rfl ?_; intro vd) | (refine DL_h (H_callX iI rfl p2 iI) rfl rfl rfl ?_; intro x2))
    refine ret_none (.inr rfl) rfl ⟨(), rfl, ?_⟩
    rw [es]
    refine Ent.nod { h with vd := vd } ?_
    simp only [nodP, nodPm, nodC, outH, restP, restC, Nd.setOut, Nd.drop, Nd.arm, hmd, e1, e2, hqm1, him1, srC]
    exact finE
  have pb := busy_spec w0 gn (s.setOut k false) h (by show s.sent.length ≤ 1000; omega)
  have hbs : ∀ o, busyN (s.setOut k o).now (s.setOut k o).sent = busyN s.now s.sent := fun _ => rfl
  rw [hbs] at pb
  by_cases hc2 : 5 ≤ busyN s.now s.sent
  · have es : s.ask k ⟨xd, xt, xr, xo, xn⟩ = ((s.setOut k false).drop 9).arm xn 1000 := by unfold Nd.ask; rw [if_neg hc, if_pos hc2]
    have p1 := ndrop_spec w0 gn (s.setOut k false) h 9 (by have := hf.dropped; exact (by omega : s.out.dropped.length ≤ 900000))
    have p2 := clock_add w0 h.cb h.cr s.last s.clk (s.now + 1000) xn hck (by omega)
    rw [decide_eq_true hc2] at pb
    simp only [nodP, nodPm, nodC, outH, restP, restC, Nd.setOut, Nd.drop, hmd, e1, e2, hqm1, him1, srC] at p1 pb ⊢
    repeat' (first | (show WS _ _ _ (.region 14 _ true) _ _; refine WS_drawA (.range 10) (by decide +kernel) rfl ?_) | (show WS _ _ _ (.region 18 _ true) _ _; refine WS_drawK (.range 15) 14 [3, 7, 13] (by decide +kernel) rfl ?_) | (refine WS_seqK ?_; intro K hK) | (refine hK _ ?_; clear hK K) | refine stZ ?_ | (refine s2Z ?_ ?_ <;> intro hc <;> (try simp only [cS] at hc) <;> (try (exfalso; first | contradiction | omega))) | refine sbZ ?_ | ((first | refine' LQ ?zh rfl ?_ | refine' DL_qp rfl rfl rfl ?zh ?_ | refine' DL_q rfl rfl ?zh ?_); case zh => intro F'; first | exact Q_move rfl | exact Q_assign rfl | exact Q_nilCheck rfl | exact Q_fieldAddr rfl iI rfl | exact Q_load rfl iI iI rfl) | ((first | refine' LQ ?zh rfl ?_ | refine' DL_q rfl rfl ?zh ?_); case zh => intro F'; exact Q_bin rfl rfl iI) | (refine s0Z ?_; intro g) | (refine LS_h (H_callX iI rfl pb iI) rfl ?_; intro x0) | (refine LS_h (H_callX iI rfl p1 iI) rfl ?_; intro vd) | (refine DL_h (H_callX iI rfl p2 iI) rfl rfl rfl ?_; intro x2))
    refine ret_none (.inr rfl) rfl ⟨(), rfl, ?_⟩
    rw [es]
    refine Ent.nod { h with vd := vd } ?_
    simp only [nodP, nodPm, nodC, outH, restP, restC, Nd.setOut, Nd.drop, Nd.arm, hmd, e1, e2, hqm1, him1, srC]
    exact finE
  rw [decide_eq_false hc2] at pb
  obtain ⟨s0, hs0⟩ : ∃ s0 : Nd, s0 = { s.setOut k true with seq := growS s.seq } := ⟨_, rfl⟩
  obtain ⟨sB, hsB⟩ : ∃ sB : Nd, sB = s0.note := ⟨_, rfl⟩
  have hfB : sB.Fit 2 := by rw [hsB]; exact Nd.Fit.note (s := s0) (by rw [hs0]; exact ⟨hf.frames, hf.came, hf.dropped, hf.recs, hf.journal⟩) (by rw [hs0]; exact ok)
  have hSm := Nd.Same.note s0
  have okB : TabOk sB.ls := by rw [hsB, hSm.ls, hs0]; exact ok
  have hBs : sB.srs = s.srs.set k ⟨xd, xt, xr, true, xn⟩ := by rw [hsB, hSm.srs, hs0]; exact hmd _
  have hBsent : sB.sent = s.sent := by rw [hsB, hSm.sent, hs0]; rfl
  have hBord : sB.order = s.order := by rw [hsB, hSm.order, hs0]; rfl
  have hBclk : sB.clk = s.clk := by rw [hsB, hSm.clk, hs0]; rfl
  have hBlast : sB.last = s.last := by rw [hsB, hSm.last, hs0]; rfl
  have hSB : srsQ gn h.sb sB.srs = cel b 247 (srC gn b ⟨xd, xt, xr, true, xn⟩) * F1 := by rw [hBs]; exact e2 _
  obtain ⟨s2, hs2⟩ : ∃ s2 : Nd, s2 = { sB with ids := sB.ids + 1, sent := trimS (sB.sent ++ [sB.now]) } := ⟨_, rfl⟩
  have es : s.ask k ⟨xd, xt, xr, xo, xn⟩ = ((s2.send 0 ⟨xt, 1, 0, (lget s2.ls xd).isNone, s2.ids, xd, numT s2.ls xd, s2.self, s2.seq, 0, [], []⟩).remember ⟨s2.self, s2.ids⟩).arm xn (askWait ⟨xd, xt, xr, xo, xn⟩) := by
    unfold Nd.ask
    rw [if_neg hc, if_neg hc2]
    unfold Nd.ask1
    rw [hs2, hsB, hs0]
    rfl
  have hS2 : srsQ gn h.sb s2.srs = cel b 247 (srC gn b ⟨xd, xt, xr, true, xn⟩) * F1 := by rw [hs2]; exact hSB
  have hf2 : s2.Fit 2 := by rw [hs2]; exact ⟨hfB.frames, hfB.came, hfB.dropped, hfB.recs, hfB.journal⟩
  have ok2 : TabOk s2.ls := by rw [hs2]; exact okB
  have ho2 : s2.order.length ≤ 16 := by rw [hs2]; show sB.order.length ≤ 16; rw [hBord]; exact hod
  have hc2' : s2.clk = s.clk := by rw [hs2]; exact hBclk
  have hl2' : s2.last = s.last := by rw [hs2]; exact hBlast
  have pg := grow_spec w0 s.seq
  have pn := note_spec w0 1 gn s0 h ⟨by rw [hs0]; have := hf.recs; exact (by omega : s.recs.length + 10 ≤ 500000), by rw [hs0]; have := hf.journal; exact (by omega : s.out.journal.length + 13 * 10 ≤ 900000)⟩ (by rw [hs0]; exact ok)
  rw [← hsB] at pn
  rw [hs0] at pn
  have hsl : (sB.sent ++ [sB.now]).length = s.sent.length + 1 := by rw [hBsent]; simp
  have hsl0 : sB.sent.length ≤ 100 := by rw [hBsent]; exact hsn
  simp only [nodP, nodPm, nodC, outH, restP, restC, Nd.setOut, hmd, e1, e2, hqm1, him1, srC, hSB, growS] at pb pn ⊢
  have hr2 : ∀ (vr vs : Value), ∃ h2 : NH, h2 = { h with vr := vr, vs := vs } := fun _ _ => ⟨_, rfl⟩
  by_cases hlen : 5 < (sB.sent ++ [sB.now]).length
  all_goals
    first
    | (have htr : s2.sent = (sB.sent ++ [sB.now]).drop 1 := by rw [hs2]; unfold trimS; rw [if_pos hlen])
    | (have htr : s2.sent = sB.sent ++ [sB.now] := by rw [hs2]; unfold trimS; rw [if_neg hlen])
    have hlen' : (5 : Int) < ((sB.sent ++ [sB.now]).length : Int) ∨ ¬ (5 : Int) < ((sB.sent ++ [sB.now]).length : Int) := by omega
    repeat' (first | (show WS _ _ _ (.region 14 _ true) _ _; refine WS_drawA (.range 10) (by decide +kernel) rfl ?_) | (show WS _ _ _ (.region 7 _ true) _ _; first | refine WS_drawK (.range 14) 10 [4, 8] (by decide +kernel) rfl ?_ | refine WS_drawM 2 (.range 14) 13 [4, 8] (by decide +kernel) rfl rfl iI ?_) | (refine WS_seqK ?_; intro K hK) | (refine hK _ ?_; clear hK K) | refine stZ ?_ | (refine s2Z ?_ ?_ <;> intro hc <;> (try simp only [cS] at hc) <;> (try (exfalso; first | contradiction | omega))) | refine sbZ ?_ | ((first | refine' LQ ?zh rfl ?_ | refine' DL_qp rfl rfl rfl ?zh ?_ | refine' DL_q rfl rfl ?zh ?_); case zh => intro F'; first | exact Q_move rfl | exact Q_assign rfl | exact Q_nilCheck rfl | exact Q_fieldAddr rfl iI rfl | exact Q_load rfl iI iI rfl | exact Q_lenR rfl iI iI | exact Q_sliceR_l rfl rfl iI iI iI iI (by first | assumption | omega | (simp [be_length] <;> omega))) | ((refine' LQ ?zh rfl ?_); case zh => intro F'; exact Q_bin rfl rfl iI) | (refine s0Z ?_; intro g) | (refine LS_h (H_callX iI rfl pb iI) rfl ?_; intro x0) | (refine LS_h (H_call0 iI rfl pg) rfl ?_; intro ug) | (refine LS_h (H_callX iI rfl pn iI) rfl ?_; intro vr) | (refine DL_h (H_buildSliceR wrd64C [sB.now] iI iI iI rfl rfl rfl rfl rfl iI rfl rfl rfl) rfl rfl rfl ?_; intro vx) | (refine DL_h (H_appendR rfl rfl iI iI rfl iI iI wrd64C_one (by first | omega | (simp [be_length] <;> omega)) rfl) rfl rfl rfl ?_; intro va))
    first
    | (have hpos : 5 < (sB.sent ++ [sB.now]).length := hlen
       refine WS_ent (H' := nodO gn s2 { h with vr := vr, vs := sTail 1 va 1 } b ⟨xd, xt, xr, true, xn⟩ F1 * G) (by
         rw [hs2]
         simp only [nodO, nodC, outH, trimS, if_pos hlen, srC]
         refine (Ent.tailR (v := va) 1 (by omega)).trans ?_
         exact finE) ?_
       obtain ⟨h2, hh⟩ : ∃ h2 : NH, h2 = { h with vr := vr, vs := sTail 1 va 1 } := ⟨_, rfl⟩
       rw [← hh]
       have hh2 : h2.tb = h.tb ∧ h2.sb = h.sb ∧ h2.cb = h.cb ∧ h2.cr = h.cr := by rw [hh]; exact ⟨rfl, rfl, rfl, rfl⟩
       clear hh)
    | (refine WS_ent (H' := nodO gn s2 { h with vr := vr, vs := va } b ⟨xd, xt, xr, true, xn⟩ F1 * G) (by
         rw [hs2]
         simp only [nodO, nodC, outH, trimS, if_neg hlen, srC]
         exact finE) ?_
       obtain ⟨h2, hh⟩ : ∃ h2 : NH, h2 = { h with vr := vr, vs := va } := ⟨_, rfl⟩
       rw [← hh]
       have hh2 : h2.tb = h.tb ∧ h2.sb = h.sb ∧ h2.cb = h.cb ∧ h2.cr = h.cr := by rw [hh]; exact ⟨rfl, rfl, rfl, rfl⟩
       clear hh)
    obtain ⟨i1, i2, i3, i4⟩ := hh2
    clear pb pn
    rw [← i2] at hS2
    have p4 := number_spec w0 h2.tb s2.self s2.ls xd
    obtain ⟨pk, hpk⟩ : ∃ pk : Pk, pk = ⟨xt, 1, 0, (lget s2.ls xd).isNone, s2.ids, xd, numT s2.ls xd, s2.self, s2.seq, 0, [], []⟩ := ⟨_, rfl⟩
    have p5 := send_E0 w0 gn s2 h2 0 pk (by rw [hpk]; exact ⟨by simp only [i64R]; omega, by simp [i64R], by simp [i64R], by simp, by simp⟩) (by rw [hpk]) (hf2.le (by omega))
    obtain ⟨s3, hs3⟩ : ∃ s3 : Nd, s3 = s2.send 0 pk := ⟨_, rfl⟩
    have e3 : s3.self = s2.self ∧ s3.ids = s2.ids ∧ s3.srs = s2.srs ∧ s3.order = s2.order ∧ s3.now = s2.now ∧ s3.clk = s2.clk ∧ s3.last = s2.last := by rw [hs3]; exact ⟨rfl, rfl, rfl, rfl, rfl, rfl, rfl⟩
    rw [← hs3] at p5
    have p6 := fun vf => remember_spec w0 gn s3 { h2 with vf := vf } ⟨s3.self, s3.ids⟩ (by rw [e3.2.2.2.1]; exact ho2)
    obtain ⟨s4, hs4⟩ : ∃ s4 : Nd, s4 = s3.remember ⟨s3.self, s3.ids⟩ := ⟨_, rfl⟩
    have e4 : s4.srs = s3.srs ∧ s4.now = s3.now ∧ s4.clk = s3.clk ∧ s4.last = s3.last := by rw [hs4]; unfold Nd.remember; dsimp only; split <;> exact ⟨rfl, rfl, rfl, rfl⟩
    rw [← hs4] at p6
    have hS3 : srsQ gn h2.sb s3.srs = cel b 247 (srC gn b ⟨xd, xt, xr, true, xn⟩) * F1 := by rw [e3.2.2.1]; exact hS2
    have hS4 : srsQ gn h2.sb s4.srs = cel b 247 (srC gn b ⟨xd, xt, xr, true, xn⟩) * F1 := by rw [e4.1]; exact hS3
    have p7 := clock_add w0 h2.cb h2.cr s4.last s4.clk (s4.now + ((80 * UInt64.ofNat (xt + 2).toNat) <<< UInt64.ofNat xr.toNat)) xn (by rw [e4.2.2.1, e3.2.2.2.2.2.1, hc2']; exact hck) (by rw [e4.2.2.2, e3.2.2.2.2.2.2, hl2']; omega)
    have es2 : s.ask k ⟨xd, xt, xr, xo, xn⟩ = s4.arm xn ((80 * UInt64.ofNat (xt + 2).toNat) <<< UInt64.ofNat xr.toNat) := by
      rw [es, askWait_eq _ hxr, ← hpk, ← hs3, hs4, e3.1, e3.2.1]
    rw [hpk] at p5
    have hsh : 0 ≤ xr ∧ xr < 64 := by omega
    simp only [nodP, nodPm, nodC, outH, restP, restC, hS2, hS3, hS4, Pk.val, Pk.cells, rqV, rqC, srC] at p5 p6
    simp only [nodO, nodC, outH, srC]
    cases hg : lget s2.ls xd
    all_goals
      simp only [numT, hg, Option.isSome_none, Option.isSome_some, Option.isNone_none, Option.isNone_some] at p4 p5
      repeat' (first | (show WS _ _ _ (.region 10 _ true) _ _; refine WS_drawK (.range 14) 8 [3, 7] (by decide +kernel) rfl ?_) | (show WS _ _ _ (.region 11 _ true) _ _; refine WS_drawK (.range 26) 25 [4, 10, 14, 19, 23] (by decide +kernel) rfl ?_) | (show WS _ _ _ (.region 12 _ true) _ _; refine WS_drawK (.range 11) 10 [4, 8] (by decide +kernel) rfl ?_) | (show WS _ _ _ (.region 13 _ true) _ _; refine WS_drawA (.range 13) (by decide +kernel) rfl ?_) | (show WS _ _ _ (.region 18 _ true) _ _; refine WS_drawK (.range 15) 14 [3, 7, 13] (by decide +kernel) rfl ?_) | (refine WS_seqK ?_; intro K hK) | (refine hK _ ?_; clear hK K) | refine stZ ?_ | ((first | refine' DL_qp rfl rfl rfl ?zh ?_ | refine' DL_q rfl rfl ?zh ?_); case zh => intro F'; first | exact Q_move rfl | exact Q_assign rfl | exact Q_nilCheck rfl | exact Q_fieldAddr rfl iI rfl | exact Q_load rfl iI iI rfl | exact Q_addI rfl rfl (by omega) | exact Q_extract rfl rfl | exact Q_un rfl iI | exact Q_build iI iI rfl rfl) | ((refine' DL_q rfl rfl ?zh ?_); case zh => intro F'; exact Q_bin rfl rfl iI) | (refine DL_h (H_callX iI rfl p4 iI) rfl rfl rfl ?_; intro x4) | (refine DL_h (H_callX iI rfl p5 iI) rfl rfl rfl ?_; intro vf; replace p6 := p6 vf) | (refine DL_h (H_callX iI rfl p6 iI) rfl rfl rfl ?_; intro vo) | ((first | refine' DL_qp rfl rfl rfl ?zh ?_ | refine' DL_q rfl rfl ?zh ?_); (case zh => intro F'; exact Q_convU rfl iI iI (by omega))) | ((first | refine' DL_qp rfl rfl rfl ?zh ?_ | refine' DL_q rfl rfl ?zh ?_); (case zh => intro F'; exact Q_bin rfl rfl (shl64 hsh))) | (refine DL_h (H_callX iI rfl p7 iI) rfl rfl rfl ?_; intro x7))
      refine ret_none (.inr rfl) rfl ⟨(), rfl, ?_⟩
      rw [es2]
      refine Ent.nod { h2 with vf := vf, vo := vo } ?_
      simp only [nodP, nodPm, nodC, outH, restP, restC, Nd.arm, hS4, srC]
      exact finE
end

section
open Go.RowKit
theorem restP_hand (gn : Nat) (s : Nd) (d : UInt32) (t : Str) (h : NH) : restP gn (s.hand d t) h = restP gn s h := by
  unfold Nd.hand
  split <;> rfl
theorem Nd.handAll_snoc (s : Nd) (d : UInt32) (l : List Str) (t : Str) : s.handAll d (l ++ [t]) = (s.handAll d l).hand d t := by simp [Nd.handAll]
theorem restP_handAll (gn : Nat) (s : Nd) (d : UInt32) (l : List Str) (h : NH) : restP gn (s.handAll d l) h = restP gn s h := by
  induction l using snocInd with
  | nil => rfl
  | snoc l t ih => rw [Nd.handAll_snoc, restP_hand, ih]
theorem Nd.hand_ls (s : Nd) (d : UInt32) (t : Str) (ok : TabOk s.ls) : TabOk (s.hand d t).ls := by
  unfold Nd.hand
  split
  · exact ok
  · exact ok.use _ _
theorem Nd.handAll_ls (s : Nd) (d : UInt32) (l : List Str) (ok : TabOk s.ls) : TabOk (s.handAll d l).ls := by
  induction l using snocInd with
  | nil => exact ok
  | snoc l t ih => rw [Nd.handAll_snoc]; exact Nd.hand_ls _ _ _ ih
theorem Nd.Fit.hand {s : Nd} {k : Nat} (h : s.Fit (k + 1)) (d : UInt32) (t : Str) : (s.hand d t).Fit k := by
  unfold Nd.hand
  split
  · exact h.le (by omega)
  · obtain ⟨a, b, c, e, f⟩ := h
    constructor <;> simp only [Nd.send, List.length_append, List.length_cons, List.length_nil] <;> omega
theorem Nd.Fit.handAll {k : Nat} (d : UInt32) (l : List Str) : ∀ {s : Nd}, s.Fit (l.length + k) → (s.handAll d l).Fit k := by
  induction l with
  | nil => intro s h; exact h.le (by simp)
  | cons t l ih => intro s h; exact ih (Nd.Fit.hand (h.le (by simp only [List.length_cons]; omega)) d t)
theorem Nd.handAll_srs (s : Nd) (d : UInt32) (l : List Str) : (s.handAll d l).srs = s.srs ∧ (s.handAll d l).wait = s.wait ∧ (s.handAll d l).names = s.names ∧ (s.handAll d l).self = s.self ∧ (s.handAll d l).now = s.now := by
  induction l using snocInd with
  | nil => exact ⟨rfl, rfl, rfl, rfl, rfl⟩
  | snoc l t ih =>
    rw [Nd.handAll_snoc]
    unfold Nd.hand
    split <;> exact ih
theorem mdel_k (ws : List (UInt32 × List Str)) (d : UInt32) : mdel ws d = match kfind (·.1) ws d with | some k => ws.eraseIdx k | none => ws := by
  have : ∀ ws : List (UInt32 × List Str), mfind ws d = kfind (·.1) ws d := fun ws => by
    induction ws with
    | nil => rfl
    | cons x r ih => simp only [mfind, kfind]; rw [ih]
  unfold mdel
  rw [this]
  cases kfind (·.1) ws d <;> rfl
theorem Ent.two {H A B C F F' K : HProp} (h1 : Own H A F) (h2 : Own F B F') (e : ∀ Z, Ent (A * (B * Z)) (C * Z)) (r : Ent (C * F') K) : Ent H K := ((Ent.of_eq (by rw [h1.eq, h2.eq])).trans (e F')).trans r
theorem WS_texts {P : Program} {n : Frm} {w0 : World} {E : Env} {D : List Deferred} {F : HProp} {c : Code} {Q : Exit → St → Prop} {mu : Int} {g : Nat} {s : Nd} {h : NH} (d : UInt32) (hwv : h.wv.length = s.wait.length)
    (hw : ∀ A cap R1, optV slV' (.slice none 0 0) (mget (wmap h.wv s.wait) d) = .slice A (s.texts d).length cap → (∀ Z, Ent (restP g s h * Z) (rows 9 1 strCc (.slice A (s.texts d).length cap) (s.texts d) * (R1 * Z))) → (∀ Z, Ent (rows 9 1 strCc (.slice A (s.texts d).length cap) (s.texts d) * (R1 * Z)) (restP g s h * Z)) → WS P n w0 c Q ⟨E, D, nodPm mu g s h * F⟩) : WS P n w0 c Q ⟨E, D, nodPm mu g s h * F⟩ := fun a w gd => by
  cases hk : kfind (·.1) s.wait d with
  | none =>
    have hte : s.texts d = [] := by unfold Nd.texts; rw [mget_k, hk]; rfl
    have hm : mget (wmap h.wv s.wait) d = none := mget_zmap_none (key := fun x : UInt32 × List Str => x.1) hwv hk
    rw [hte, hm] at hw
    exact hw none 0 (restP g s h) rfl (fun Z => Ent.nil _ _ _ _ _) (fun Z => Ent.drop _ _) a w gd
  | some k =>
    obtain ⟨x, hx, hxd⟩ := kfind_some hk
    obtain ⟨v, hv⟩ : ∃ v, h.wv[k]? = some v := ⟨_, List.getElem?_eq_getElem (by rw [hwv]; exact (List.getElem?_eq_some_iff.1 hx).1)⟩
    have hte : s.texts d = x.2 := by unfold Nd.texts; rw [mget_k, hk]; simp [hx]
    have hm : mget (wmap h.wv s.wait) d = some v := mget_zmap_some (key := fun x : UInt32 × List Str => x.1) hwv hk hv
    obtain ⟨F1, e1, _, _⟩ := zrow_hole txP hv hx
    obtain ⟨R1, e⟩ : ∃ R1, restP g s h = rows 9 1 strCc (slV' v) x.2 * R1 := ⟨mp rqV u64 h.rs s.seen * (rows 269 2 rqC h.vo s.order * (mp u32 slV' h.rw (wmap h.wv s.wait) * (F1 * (mp u32 ptrV h.rq (qmap h.sb s.srs) * (mp i64 ptrV h.ri (imap h.sb s.srs) * (srsQ g h.sb s.srs * (clockQ h.cb h.cr s.last s.clk * rows 24 1 wrd64C h.vs s.sent))))))), by
      unfold restP restC
      rw [waitQ_eq hwv, textsP_z, e1]
      unfold txP
      ac_rfl⟩
    have hs := gd.sat
    have e3 : nodPm mu g s h * F = rows 9 1 strCc (slV' v) x.2 * (cel g 159 (nodC mu s h s.out) * (rows 28 3 Rec.cells h.vr s.recs * (mp u32 u32 h.rh s.held * (tabQ h.tb s.self s.ls * (outH h s.out * (R1 * F)))))) := by
      unfold nodPm
      rw [e]
      ac_rfl
    obtain ⟨A, cap, hA⟩ := rows_form (hs.cast e3)
    rw [hte, hm] at hw
    refine hw A cap R1 hA ?_ ?_ a w gd
    · intro Z; rw [e, hA, star_assoc]; exact Ent.refl _
    · intro Z; rw [e, hA, star_assoc]; exact Ent.refl _
theorem wait_del (r : Nat) {vs : List (Option Addr × Nat × Nat)} {ws : List (UInt32 × List Str)} (hl : vs.length = ws.length) (d : UInt32) : ∃ vs', ∀ Z, Ent (mp u32 slV' r (mdel (wmap vs ws) d) * (textsP vs ws * Z)) (waitQ r vs' (mdel ws d) * Z) := by
  cases hk : kfind (·.1) ws d with
  | none =>
    have hdl : mdel (wmap vs ws) d = wmap vs ws := mdel_zmap_none (key := fun x : UInt32 × List Str => x.1) hl hk
    have hd2 : mdel ws d = ws := by rw [mdel_k, hk]
    refine ⟨vs, fun Z => ?_⟩
    rw [hdl, hd2, waitQ_eq hl, star_assoc]
    exact Ent.refl _
  | some k =>
    obtain ⟨x, hx, hxd⟩ := kfind_some hk
    obtain ⟨v, hv⟩ : ∃ v, vs[k]? = some v := ⟨_, List.getElem?_eq_getElem (by rw [hl]; exact (List.getElem?_eq_some_iff.1 hx).1)⟩
    have hdl : mdel (wmap vs ws) d = wmap (vs.eraseIdx k) (ws.eraseIdx k) := mdel_zmap (key := fun x : UInt32 × List Str => x.1) hl hk
    have hd2 : mdel ws d = ws.eraseIdx k := by rw [mdel_k, hk]
    obtain ⟨F1, e1, _, e3⟩ := zrow_hole txP hv hx
    refine ⟨vs.eraseIdx k, fun Z => ?_⟩
    rw [hdl, hd2, waitQ_eq (by rw [List.length_eraseIdx, List.length_eraseIdx, hl]), textsP_z, textsP_z, e1, e3, star_assoc, star_assoc]
    exact Ent.tail _ (Ent.drop _ _)
theorem Spec.conv {P : Program} {w0 : World} {f : FuncId} {args : List Value} {X X' : HProp} {α : Type} {res : α → Value} {Y Y' : α → HProp} (h : Spec P w0 f args X res Y) (e1 : ∀ Z, Ent (X' * Z) (X * Z)) (e2 : ∀ x Z, Ent (Y x * Z) (Y' x * Z)) : Spec P w0 f args X' res Y' := fun G w hs => (h G w ((e1 G).sat hs)).mono fun e w' ⟨x, he, hx⟩ => ⟨x, he, (e2 x G).sat hx⟩
def coreP (g : Nat) (s : Nd) (h : NH) : HProp := cel g 159 (nodC 1 s h s.out) * (rows 28 3 Rec.cells h.vr s.recs * (mp u32 u32 h.rh s.held * (tabQ h.tb s.self s.ls * outH h s.out)))
theorem nodP_core (g : Nat) (s : Nd) (h : NH) (Z : HProp) : nodP g s h * Z = coreP g s h * (restP g s h * Z) := by unfold nodP nodPm coreP; ac_rfl
attribute [local irreducible] WS LS OpQ OpT OpH OpTQ Spec SpecQ cel
variable (w0 : World)
set_option maxRecDepth 100000 in
set_option maxHeartbeats 8000000 in
theorem flush_spec (gn : Nat) (s : Nd) (h : NH) (d : UInt32) (ok : TabOk s.ls) (so : SrOk s) (hl : (s.texts d).length ≤ 100) (ht : ∀ t ∈ s.texts d, t.length ≤ 100) (hf : s.Fit ((s.texts d).length + 1)) : Spec Tryz.prog w0 177 [ptr gn 0, u32 d] (nodP gn s h) (fun _ : Unit => .tuple #[]) (fun _ => nodA gn (s.flush d)) := by
  refine Spec.enter Tryz.func177 rfl Tryz.ntmps177 rfl fun G => ?_
  refine WS_lens fun hsb hwv => ?_
  refine WS_texts d hwv fun A cap R1 hm ho hc => ?_
  obtain ⟨tv, htv⟩ : ∃ tv, tv = s.texts d := ⟨_, rfl⟩
  rw [← htv] at hl ht hf hm ho hc
  simp only [nodP, nodPm, nodC, outH, restP, restC, waitQ_eq hwv]
  simp only [argE]
  repeat' (first | (refine WS_seqK ?_; intro K hK) | (refine hK _ ?_; clear hK K) | refine stZ ?_ | ((refine' LQ ?zh rfl ?_); case zh => intro F'; first | exact Q_move rfl | exact Q_nilCheck rfl | exact Q_fieldAddr rfl iI rfl | exact Q_load rfl iI iI rfl | exact Q_len rfl iI | exact Q_lookupE rfl rfl iI iI iI iI iI (by assumption)))
  refine WS_ent (H' := coreP gn s h * (rows 9 1 strCc (.slice A tv.length cap) tv * (R1 * G))) (by
    refine Ent.trans ?_ (Ent.tail _ (ho G))
    simp only [coreP, nodC, outH, restP, restC, waitQ_eq hwv]
    exact finE) ?_
  refine WS_loop (fun k τ => ∃ (j : Nat) (vf : Value), j + k = tv.length ∧ τ = ⟨[(14, .int .i64 (j : Int)), (13, .int .i64 (tv.length : Int)), (12, .slice A tv.length cap), (0, ptr gn 0), (1, u32 d)], [], coreP gn (s.handAll d (tv.take j)) { h with vf := vf } * (rows 9 1 strCc (.slice A tv.length cap) tv * (R1 * G))⟩) ?_ ?_
  · exact ⟨tv.length, _, ⟨0, h.vf, by omega, rfl⟩, ⟨rfl, rfl, rfl, rfl, rfl, trivial⟩, rfl, Ent.refl _⟩
  · rintro k τ ⟨j, vf, hjk, rfl⟩
    have okj := Nd.handAll_ls s d (tv.take j) ok
    have hfj : (s.handAll d (tv.take j)).Fit 1 := Nd.Fit.handAll (k := 1) d (tv.take j) (hf.le (by rw [List.length_take]; omega))
    have erj : restP gn (s.handAll d (tv.take j)) { h with vf := vf } = restP gn s h := restP_handAll gn s d _ _
    rcases Nat.lt_or_ge j tv.length with hlt | hge
    · obtain ⟨z, hz⟩ : ∃ z, tv[j]? = some z := ⟨_, List.getElem?_eq_getElem hlt⟩
      have hzl := ht z (List.mem_of_getElem? hz)
      have htk : s.handAll d (tv.take (j + 1)) = (s.handAll d (tv.take j)).hand d z := by rw [List.take_add_one, hz, Option.toList_some, Nd.handAll_snoc]
      generalize s.handAll d (tv.take j) = sj at *
      have er1 : ∀ vf', restP gn (sj.hand d z) { h with vf := vf' } = restP gn s h := fun vf' => by rw [restP_hand]; exact erj
      have p1 := (hand_spec w0 gn sj { h with vf := vf } d z hzl okj hfj).conv (X' := coreP gn sj { h with vf := vf } * (rows 9 1 strCc (.slice A tv.length cap) tv * R1)) (Y' := fun vf => coreP gn (sj.hand d z) { h with vf := vf } * (rows 9 1 strCc (.slice A tv.length cap) tv * R1))
        (fun Z => by rw [nodP_core, erj, star_assoc, star_assoc]; exact Ent.tail _ (hc Z))
        (fun x Z => by
          have e := nodP_core gn (sj.hand d z) { h with vf := x } Z
          rw [er1] at e
          refine Ent.trans (Ent.of_eq e) ?_
          rw [star_assoc, star_assoc]; exact Ent.tail _ (ho Z))
      generalize sj.hand d z = sk at *
      simp only [coreP, nodC, outH] at p1 ⊢
      have hj1 : (j : Int) < (tv.length : Int) := by omega
      repeat' (first | (refine WS_seqK ?_; intro K hK) | (refine hK _ ?_; clear hK K) | refine stZ ?_ | (refine s2Z ?_ ?_ <;> intro hc <;> (try simp only [cS] at hc) <;> (try (exfalso; first | contradiction | omega))) | refine sbZ ?_ | ((refine' LQ ?zh rfl ?_); case zh => intro F'; first | exact Q_move rfl | exact Q_assign rfl | exact Q_addI rfl rfl (by omega) | exact Q_index rfl rfl iI iI iI iI (by first | assumption | omega | (simp [be_length] <;> omega)) | exact Q_loadR rfl iI iI iI (by assumption) rfl) | (refine LS_h (H_callX iI rfl p1 iI) rfl ?_; intro vf2))
      exact ⟨k - 1, _, by omega, ⟨j + 1, vf2, by omega, rfl⟩, ⟨rfl, rfl, rfl, rfl, rfl, trivial⟩, rfl, by rw [htk]; simp only [coreP, nodC, outH]; exact finE⟩
    · obtain rfl : j = tv.length := by omega
      rw [List.take_of_length_le (Nat.le_refl _)] at erj okj hfj ⊢
      obtain ⟨q1, q2, q3, q4, q5⟩ := Nd.handAll_srs s d tv
      have es : s.flush d = match srFind (s.handAll d tv).srs d with | some k => Nd.stop ((s.handAll d tv).unwait d) k | none => (s.handAll d tv).unwait d := by unfold Nd.flush; rw [htv]; rfl
      generalize s.handAll d tv = s1 at *
      have hsb1 : h.sb.length = s1.srs.length := by rw [q1]; exact hsb
      have hwv1 : h.wv.length = s1.wait.length := by rw [q2]; exact hwv
      obtain ⟨wv', hwd⟩ := wait_del h.rw hwv1 d
      refine WS_ent (H' := nodP gn s1 { h with vf := vf } * G) (by rw [nodP_core, erj]; exact Ent.tail _ (hc G)) ?_
      rw [srFind_k] at es
      have hj1 : ¬ (tv.length : Int) < (tv.length : Int) := by omega
      have so1 : SrOk (s1.unwait d) := ⟨by show (s1.srs.map _).Nodup; rw [q1]; exact so.dests, by show (s1.srs.map _).Nodup; rw [q1]; exact so.names, by show ∀ x ∈ s1.srs, _ ∧ _ ∧ _ ∧ _ ∧ x.name ≤ s1.names; rw [q1, q3]; exact so.each⟩
      cases hq : kfind (·.dest) s1.srs d with
      | none =>
        have hmq : mget (qmap h.sb s1.srs) d = none := mget_zmap_none (key := fun x : Sr => x.dest) hsb1 hq
        simp only [hq] at es
        simp only [nodP, nodPm, nodC, outH, restP, restC, waitQ_eq hwv1]
        repeat' (first | (refine WS_seqK ?_; intro K hK) | (refine hK _ ?_; clear hK K) | refine stZ ?_ | (refine s2Z ?_ ?_ <;> intro hc <;> (try simp only [cS] at hc) <;> (try (exfalso; first | contradiction | omega))) | refine sbZ ?_ | ((refine' LQ ?zh rfl ?_); case zh => intro F'; first | exact Q_move rfl | exact Q_assign rfl | exact Q_nilCheck rfl | exact Q_fieldAddr rfl iI rfl | exact Q_load rfl iI iI rfl | exact Q_lookup_n rfl rfl iI iI iI iI iI (by assumption)) | ((refine' LQ ?zh rfl ?_); case zh => intro F'; exact Q_bin rfl rfl iI) | ((refine' LS_h0 ?zh ?_); (case zh => exact H_delete rfl rfl iI iI iI iI); intro g))
        refine ret_none (.inr rfl) rfl ⟨(), rfl, ?_⟩
        rw [es]
        refine Ent.two iI iI hwd ?_
        refine Ent.nod { h with vf := vf, wv := wv' } ?_
        simp only [nodP, nodPm, nodC, outH, restP, restC, Nd.unwait]
        exact finE
      | some k =>
        obtain ⟨x, hx, hxd⟩ := kfind_some hq
        obtain ⟨b, hb⟩ : ∃ b, h.sb[k]? = some b := ⟨_, List.getElem?_eq_getElem (by rw [hsb1]; exact (List.getElem?_eq_some_iff.1 hx).1)⟩
        have hmq : mget (qmap h.sb s1.srs) d = some b := mget_zmap_some (key := fun x : Sr => x.dest) hsb1 hq hb
        simp only [hq] at es
        have p1 := stop_spec w0 gn (s1.unwait d) { h with vf := vf, wv := wv' } so1 hx hb
        simp only [nodP, nodPm, nodC, outH, restP, restC, waitQ_eq hwv1, Nd.unwait] at p1 ⊢
        repeat' (first | (refine WS_seqK ?_; intro K hK) | (refine hK _ ?_; clear hK K) | refine stZ ?_ | (refine s2Z ?_ ?_ <;> intro hc <;> (try simp only [cS] at hc) <;> (try (exfalso; first | contradiction | omega))) | refine sbZ ?_ | ((refine' LQ ?zh rfl ?_); case zh => intro F'; first | exact Q_move rfl | exact Q_assign rfl | exact Q_nilCheck rfl | exact Q_fieldAddr rfl iI rfl | exact Q_load rfl iI iI rfl | exact Q_lookup_s rfl rfl iI iI iI iI iI (by assumption)) | ((refine' LQ ?zh rfl ?_); case zh => intro F'; exact Q_bin rfl rfl iI) | ((refine' LS_h0 ?zh ?_); (case zh => exact H_delete rfl rfl iI iI iI iI); intro g) | (refine LS_ent (Ent.two iI iI hwd (Ent.refl _)) ?_; refine LS_h (H_callX iI rfl p1 iI) rfl ?_; intro x1))
        refine ret_none (.inr rfl) rfl ⟨(), rfl, ?_⟩
        rw [es]
        refine Ent.nod { h with vf := vf, wv := wv', sb := h.sb.eraseIdx k } ?_
        simp only [nodP, nodPm, nodC, outH, restP, restC, Nd.unwait]
        exact finE
end

end Go.Proofs.YtapoehkdnglahabGreat

