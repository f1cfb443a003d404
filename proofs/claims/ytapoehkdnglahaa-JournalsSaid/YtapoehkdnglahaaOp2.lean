/- The rules of operations that change memory, of calls, of entering and leaving a function, over a state without its world. No program in sight. -/
import Derived.Test.YtapoehkdnglahaaDraw
namespace Go.Proofs.Ytapoehkdnglahaa
open Go.RowKit
set_option linter.unusedVariables false
variable {P : Program} {n : Frm} {w0 : World} {E : Env} {D : List Deferred} {H F R : HProp} {ops : Array Oper} {l : List Oper} {Q : Exit → St → Prop} {o : Oper}

/-- The operation turns H into one of post. -/
def OpH (P : Program) (n : Frm) (w0 : World) (o : Oper) (E : Env) (H : HProp) {α : Type} (v : α → Value) (post : α → HProp) : Prop :=
  ∃ (pre : HProp) (post0 : α → HProp) (F : HProp), OpT P n w0 o E pre v post0 ∧ H = pre * F ∧ ∀ x, post x = post0 x * F
theorem OpH.mk' {α : Type} {pre : HProp} {v : α → Value} {post : α → HProp} (h : OpT P n w0 o E pre v post) (hH : H = pre * F) : OpH P n w0 o E H v (fun x => post x * F) := ⟨pre, post, F, h, hH, fun _ => rfl⟩
section front
variable {d : Nat} {op : Op} {ty : TypeId} {pos : String} {after : Array Edge} {L : HProp} {B : Nat → Bool} {k cp : Nat} {c : Bool} {α : Type} {v : α → Value} {post : α → HProp} {gu : Option (Nat × Bool)} {u : Value}
theorem LS_ho (h : OpH P n w0 o E H v post) (hd : okDst n o.dst = true) (hg : o.guard = none)
    (hn : ∀ x, LS P n w0 ops Q l ⟨E.putO o.dst (v x), D, post x⟩) : LS P n w0 ops Q (o :: l) ⟨E, D, H⟩ := by
  obtain ⟨pre, post0, F, hop, hH, hp⟩ := h
  exact LS_t hop hH hd hg fun x => by rw [← hp]; exact hn x
theorem LS_h (h : OpH P n w0 ⟨some d, op, ty, pos, after, none⟩ E H v post) (hd : Nat.blt d n.tmps = true) (hn : ∀ x, LS P n w0 ops Q l ⟨(d, v x) :: E, D, post x⟩) : LS P n w0 ops Q (⟨some d, op, ty, pos, after, none⟩ :: l) ⟨E, D, H⟩ := LS_ho h hd rfl hn
theorem LS_h0 (h : OpH P n w0 ⟨none, op, ty, pos, after, none⟩ E H v post) (hn : ∀ x, LS P n w0 ops Q l ⟨E, D, post x⟩) : LS P n w0 ops Q (⟨none, op, ty, pos, after, none⟩ :: l) ⟨E, D, H⟩ := LS_ho h rfl rfl hn
theorem DL_ho (h : OpH P n w0 o E F v post) (he : effB o.op = true) (ha : isAlloc o.op = false) (hd : okDst n o.dst = true) (hg : ∃ b, guardV ops E o = some (b, b))
    (hn : ∀ x, DL P n w0 ops Q D R L B cp (k + 1) c l (E.putO o.dst (v x)) (post x)) : DL P n w0 ops Q D R L B cp k c (o :: l) E F := by
  obtain ⟨pre, post0, F, hop, hH, hp⟩ := h
  exact .t he ha hd hg hop hH fun x => by rw [← hp]; exact hn x
theorem DL_h (h : OpH P n w0 ⟨some d, op, ty, pos, after, none⟩ E F v post) (he : effB op = true) (ha : isAlloc op = false) (hd : Nat.blt d n.tmps = true)
    (hn : ∀ x, DL P n w0 ops Q D R L B cp (k + 1) c l ((d, v x) :: E) (post x)) : DL P n w0 ops Q D R L B cp k c (⟨some d, op, ty, pos, after, none⟩ :: l) E F := DL_ho h he ha hd ⟨true, rfl⟩ hn
theorem DL_h0 (h : OpH P n w0 ⟨none, op, ty, pos, after, none⟩ E F v post) (he : effB op = true) (ha : isAlloc op = false)
    (hn : ∀ x, DL P n w0 ops Q D R L B cp (k + 1) c l E (post x)) : DL P n w0 ops Q D R L B cp k c (⟨none, op, ty, pos, after, none⟩ :: l) E F := DL_ho h he ha rfl ⟨true, rfl⟩ hn
theorem DL_q (he : effB op = false) (hd : Nat.blt d n.tmps = true) (hop : ∀ F', OpQ P n w0 ⟨some d, op, ty, pos, after, none⟩ E (R * F') u) (h : DL P n w0 ops Q D R L B cp (k + 1) c l ((d, u) :: E) F) : DL P n w0 ops Q D R L B cp k c (⟨some d, op, ty, pos, after, none⟩ :: l) E F := .q he hd ⟨true, rfl⟩ hop h
theorem DL_qp (he : effB op = false) (hd : Nat.blt d n.tmps = true) (hB : B k = true) (hop : ∀ F', OpQ P n w0 ⟨some d, op, ty, pos, after, none⟩ E (R * (L * F')) u) (h : DL P n w0 ops Q D R L B cp (k + 1) false l ((d, u) :: E) F) : DL P n w0 ops Q D R L B cp k false (⟨some d, op, ty, pos, after, none⟩ :: l) E F := .qp he hd hB ⟨true, rfl⟩ hop h
/-- The same under a guard that lets it come up; and one that is passed over. -/
theorem DL_qg {j : Nat} {b : Bool} (hg : guardV ops E ⟨some d, op, ty, pos, after, some (j, b)⟩ = some (b, b)) (he : effB op = false) (hd : Nat.blt d n.tmps = true) (hop : ∀ F', OpQ P n w0 ⟨some d, op, ty, pos, after, some (j, b)⟩ E (R * F') u) (h : DL P n w0 ops Q D R L B cp (k + 1) c l ((d, u) :: E) F) : DL P n w0 ops Q D R L B cp k c (⟨some d, op, ty, pos, after, some (j, b)⟩ :: l) E F := .q he hd ⟨b, hg⟩ hop h
theorem DL_qpg {j : Nat} {b : Bool} (hg : guardV ops E ⟨some d, op, ty, pos, after, some (j, b)⟩ = some (b, b)) (he : effB op = false) (hd : Nat.blt d n.tmps = true) (hB : B k = true) (hop : ∀ F', OpQ P n w0 ⟨some d, op, ty, pos, after, some (j, b)⟩ E (R * (L * F')) u) (h : DL P n w0 ops Q D R L B cp (k + 1) false l ((d, u) :: E) F) : DL P n w0 ops Q D R L B cp k false (⟨some d, op, ty, pos, after, some (j, b)⟩ :: l) E F := .qp he hd hB ⟨b, hg⟩ hop h
theorem DL_hg {j : Nat} {b : Bool} (hg : guardV ops E ⟨some d, op, ty, pos, after, some (j, b)⟩ = some (b, b)) (h : OpH P n w0 ⟨some d, op, ty, pos, after, some (j, b)⟩ E F v post) (he : effB op = true) (ha : isAlloc op = false) (hd : Nat.blt d n.tmps = true)
    (hn : ∀ x, DL P n w0 ops Q D R L B cp (k + 1) c l ((d, v x) :: E) (post x)) : DL P n w0 ops Q D R L B cp k c (⟨some d, op, ty, pos, after, some (j, b)⟩ :: l) E F := DL_ho h he ha hd ⟨b, hg⟩ hn
theorem DL_skip {j : Nat} {b b' : Bool} (hg : guardV ops E ⟨some d, op, ty, pos, after, some (j, b)⟩ = some (b', b)) (hb : b' = !b) (ha : isAlloc op = false) (hd : Nat.blt d n.tmps = true) (h : DL P n w0 ops Q D R L B cp (k + 1) c l ((d, undef) :: E) F) : DL P n w0 ops Q D R L B cp k c (⟨some d, op, ty, pos, after, some (j, b)⟩ :: l) E F :=
  .skip (b := !b) ha hd (by rw [hg, hb]; simp) h
theorem DL_alloc {t : TypeId} {z : Value} {zs : List Value} (hz : Zero P t z zs) (hd : Nat.blt d n.tmps = true) (hn : ∀ g, DL P n w0 ops Q D R L B cp (k + 1) c l ((d, ptr g 0) :: E) (cel g t zs * F)) : DL P n w0 ops Q D R L B cp k c (⟨some d, .alloc t, ty, pos, after, none⟩ :: l) E F := .a hd hz hn
/-- A test that a guard looks at: either way. -/
theorem DL_split {b : Bool} (h1 : b = true → DL P n w0 ops Q D R L B cp k c l E F) (h2 : b = false → DL P n w0 ops Q D R L B cp k c l E F) : DL P n w0 ops Q D R L B cp k c l E F := by
  cases b
  · exact h2 rfl
  · exact h1 rfl
/-- A test, and both its outcomes. -/
theorem LS_binS {Q : Exit → St → Prop} {ops : Array Oper} {l : List Oper} {d : Nat} {ty : TypeId} {pos : String} {after : Array Edge} {op : BinOp} {t t2 : TypeId} {x y : Operand} {v u : Value} {q : Prop} {inst : Decidable q} (hx : E.ev x = some v) (hy : E.ev y = some u) (h : BinV P op t v u (.bool (decide q))) (hd : Nat.blt d n.tmps = true)
    (h1 : q → LS P n w0 ops Q l ⟨(d, .bool true) :: E, D, H⟩) (h2 : ¬ q → LS P n w0 ops Q l ⟨(d, .bool false) :: E, D, H⟩) : LS P n w0 ops Q (⟨some d, .binOp op t x y t2, ty, pos, after, none⟩ :: l) ⟨E, D, H⟩ := by
  by_cases hq : q
  · exact LS_q (Q_bin_t hx hy h hq) hd (h1 hq)
  · exact LS_q (Q_bin_f hx hy h hq) hd (h2 hq)
theorem LS_binN {Q : Exit → St → Prop} {ops : Array Oper} {l : List Oper} {d : Nat} {ty : TypeId} {pos : String} {after : Array Edge} {op : BinOp} {t t2 : TypeId} {x y : Operand} {v u : Value} {q : Prop} {inst : Decidable q} (hx : E.ev x = some v) (hy : E.ev y = some u) (h : BinV P op t v u (.bool (!decide q))) (hd : Nat.blt d n.tmps = true)
    (h1 : q → LS P n w0 ops Q l ⟨(d, .bool false) :: E, D, H⟩) (h2 : ¬ q → LS P n w0 ops Q l ⟨(d, .bool true) :: E, D, H⟩) : LS P n w0 ops Q (⟨some d, .binOp op t x y t2, ty, pos, after, none⟩ :: l) ⟨E, D, H⟩ := by
  by_cases hq : q
  · exact LS_q (Q_bin_nf hx hy h hq) hd (h1 hq)
  · exact LS_q (Q_bin_nt hx hy h hq) hd (h2 hq)
theorem DL_binS {Q : Exit → St → Prop} {ops : Array Oper} {R L : HProp} {B : Nat → Bool} {cp k : Nat} {c : Bool} {l : List Oper} {d : Nat} {ty : TypeId} {pos : String} {after : Array Edge} {op : BinOp} {t t2 : TypeId} {x y : Operand} {v u : Value} {b : Bool} (hx : E.ev x = some v) (hy : E.ev y = some u) (h : BinV P op t v u (.bool b)) (hd : Nat.blt d n.tmps = true)
    (h1 : b = true → DL P n w0 ops Q D R L B cp (k + 1) c l ((d, .bool true) :: E) F) (h2 : b = false → DL P n w0 ops Q D R L B cp (k + 1) c l ((d, .bool false) :: E) F) : DL P n w0 ops Q D R L B cp k c (⟨some d, .binOp op t x y t2, ty, pos, after, none⟩ :: l) E F := by
  cases b
  · exact .q rfl hd ⟨true, rfl⟩ (fun F' => Q_bin hx hy h) (h2 rfl)
  · exact .q rfl hd ⟨true, rfl⟩ (fun F' => Q_bin hx hy h) (h1 rfl)
theorem OpTQ.toIn {o : Oper} {v : Value} (hop : OpTQ P n w0 o E H v) {a : Act} {w : World} {K : Act → World → Prop} {Q : Exit → Act → World → Prop} (s : Sees n E a) (hs : Sat w0 w H) (h : ∀ w', Sat w0 w' H → K (a.put o.dst v) w') : o.wpIn (fen n.round) 0 P a w K Q :=
  wpIn_of_wp (.inr (wp_not_defer (hop a w _ _ s hs fun w' _ => put_defers _ _ _))) (hop a w K Q s hs h)
theorem LS_tqo (hop : OpTQ P n w0 o E H u) (hd : okDst n o.dst = true) (hg : o.guard = none) (h : LS P n w0 ops Q l ⟨E.putO o.dst u, D, H⟩) : LS P n w0 ops Q (o :: l) ⟨E, D, H⟩ := fun a w g =>
  wpListIn_plain hg fun K hK => hop.toIn g.sees g.sat fun w' hs => hK _ _ (h _ _ ⟨g.sees.putO _ _ hd, by have := g.defers; cases o.dst <;> exact this, hs⟩)
theorem LS_tq (hop : OpTQ P n w0 ⟨some d, op, ty, pos, after, none⟩ E H u) (hd : Nat.blt d n.tmps = true) (h : LS P n w0 ops Q l ⟨(d, u) :: E, D, H⟩) : LS P n w0 ops Q (⟨some d, op, ty, pos, after, none⟩ :: l) ⟨E, D, H⟩ := LS_tqo hop hd rfl h
theorem DL_tq (he : effB op = true) (ha : isAlloc op = false) (hd : Nat.blt d n.tmps = true) (hop : ∀ F', OpTQ P n w0 ⟨some d, op, ty, pos, after, none⟩ E (hp c R L F') u) (h : DL P n w0 ops Q D R L B cp (k + 1) c l ((d, u) :: E) F) : DL P n w0 ops Q D R L B cp k c (⟨some d, op, ty, pos, after, none⟩ :: l) E F := .tq he ha hd ⟨true, rfl⟩ hop h
end front

section ops
variable {d : Option Tmp} {ty : TypeId} {pos : String} {after : Array Edge} {gu : Option (Nat × Bool)} {x y : Operand} {v u : Value}
/-- A block more. -/
theorem T_new {f : Nat → Value} {t : TypeId} {cs : List Value} (h : ∀ a w, Sees n E a → (execOp a.eval o).run P w = .ok (.value (f w.heap.size)) (w.alloc (.cells cs.toArray t))) : OpT P n w0 o E emp f (fun g => cel g t cs) := fun G a w K Q s hs hK => by
  unfold Oper.wp
  rw [h a w s]
  rw [emp_star] at hs
  exact hK _ _ (hs.new t cs.toArray)
theorem H_new {f : Nat → Value} {t : TypeId} {cs : List Value} (h : ∀ a w, Sees n E a → (execOp a.eval o).run P w = .ok (.value (f w.heap.size)) (w.alloc (.cells cs.toArray t))) : OpH P n w0 o E H f (fun g => cel g t cs * H) := OpH.mk' (T_new h) emp_star.symm
theorem H_alloc {t : TypeId} {z : Value} {zs : List Value} (hz : Zero P t z zs) : OpH P n w0 ⟨d, .alloc t, ty, pos, after, gu⟩ E H (fun g => ptr g 0) (fun g => cel g t zs * H) := H_new fun a w s => execOp_alloc a.eval w hz
theorem H_box {t : TypeId} {vs : List Value} (hx : E.ev x = some (.agg vs.toArray)) : OpH P n w0 ⟨d, .box t x, ty, pos, after, gu⟩ E H (fun g => ptr g 0) (fun g => cel g t vs * H) := H_new fun a w s => by
  simp [execOp, s.ev hx, Instr.box, newVar, newRow, Value.cells]
theorem H_box1 {t : TypeId} (hx : E.ev x = some v) (h1 : v.oneCell' = true) : OpH P n w0 ⟨d, .box t x, ty, pos, after, gu⟩ E H (fun g => ptr g 0) (fun g => cel g t [v] * H) := H_new fun a w s => by
  have hc : v.cells = #[v] := by cases v <;> first | rfl | cases h1
  simp [execOp, s.ev hx, Instr.box, newVar, newRow, hc]
/-- The zeros of a row of n elements. -/
def zeroRow (zs : List Value) : Nat → List Value
  | 0 => []
  | k + 1 => zs ++ zeroRow zs k
def fillRow (size : Nat) : List Value → List (Nat × List Value) → Option (List Value)
  | cs, [] => some cs
  | cs, (i, vs) :: r => match pasteL cs (i * size) vs with
    | some cs' => fillRow size cs' r
    | none => none
def Env.parts (E : Env) : List (Nat × Operand) → Option (List (Nat × List Value))
  | [] => some []
  | (i, x) :: r => match E.ev x, Env.parts E r with
    | some v, some vs => some ((i, cellsL v) :: vs)
    | _, _ => none
def Env.partsV (E : Env) : List (Nat × Operand) → Option (List (Nat × Value))
  | [] => some []
  | (i, x) :: r => match E.ev x, Env.partsV E r with
    | some v, some vs => some ((i, v) :: vs)
    | _, _ => none
theorem Sees.partsV {a : Act} (h : Sees n E a) : ∀ {xs : List (Nat × Operand)} {vs : List (Nat × Value)}, E.partsV xs = some vs → xs.map (fun p => (p.1, a.eval p.2)) = vs
  | [], vs, e => by cases e; rfl
  | (i, x) :: r, vs, e => by
    simp only [Env.partsV] at e
    split at e
    · rename_i v us e1 e2
      cases e
      simp [h.ev e1, Sees.partsV h e2]
    · cases e
/-- Where the fields of a struct lie: first cell and number of cells. -/
def placesD (P : Program) (t : TypeId) : Option (List (Nat × Nat)) :=
  match P.underlying t with
  | some (.struct fs) => fs.toList.mapM (fun f => (P.info? f.type).map fun i => (f.offset, i.size))
  | _ => none
class Places (P : Program) (t : TypeId) (ps : outParam (List (Nat × Nat))) : Prop where
  eq : placesD P t = some ps
theorem Places.ex {P : Program} {t : TypeId} {ps : List (Nat × Nat)} (h : Places P t ps) : ∃ fs, P.underlying t = some (.struct fs) ∧ fs.toList.mapM (fun f => (P.info? f.type).map fun i => (f.offset, i.size)) = some ps := by
  have := h.eq
  unfold placesD at this
  split at this
  · rename_i fs hu; exact ⟨fs, hu, this⟩
  · cases this
def getP : List (Nat × Nat) → Nat → Option (Nat × Nat)
  | [], _ => none
  | p :: _, 0 => some p
  | _ :: r, i + 1 => getP r i
/-- A struct's cells, its parts laid in. -/
def buildL (ps : List (Nat × Nat)) : List Value → List (Nat × Value) → Option (List Value)
  | cs, [] => some cs
  | cs, (i, v) :: r => match getP ps i with
    | some (off, size) => bif Nat.beq (cellsL v).length size then match pasteL cs off (cellsL v) with
      | some cs' => buildL ps cs' r
      | none => none
      else none
    | none => none
theorem getP_eq : ∀ (ps : List (Nat × Nat)) (i : Nat), getP ps i = ps[i]?
  | [], i => by simp [getP]
  | v :: r, 0 => rfl
  | v :: r, i + 1 => by simp [getP, getP_eq r i]
theorem foldl_set (vs : List Value) : ∀ (k off : Nat) (cs : Array Value), off + k + vs.length ≤ cs.size →
    ((vs.zipIdx k).foldl (fun cs (c, j) => cs.setIfInBounds (off + j) c) cs).toList = cs.toList.take (off + k) ++ vs ++ cs.toList.drop (off + k + vs.length) := by
  induction vs with
  | nil => intro k off cs h; simp
  | cons v vs ih =>
    intro k off cs h
    simp only [List.zipIdx_cons, List.foldl_cons]
    rw [ih (k + 1) off _ (by simp at h ⊢; omega)]
    simp only [List.length_cons] at h
    rw [Array.toList_setIfInBounds, List.take_set, List.drop_set, if_pos (by omega)]
    have e1 : (cs.toList.take (off + (k + 1))).set (off + k) v = cs.toList.take (off + k) ++ [v] := by
      rw [List.set_eq_take_append_cons_drop, if_pos (by simp; omega)]
      simp [List.take_take, List.drop_take, show min (off + k) (off + (k + 1)) = off + k by omega]
      omega
    rw [e1]
    simp [show off + (k + 1) + vs.length = off + k + (vs.length + 1) by omega]
theorem fill_eq (ps : List (Nat × Nat)) : ∀ (parts : List (Nat × Value)) (cs r : List Value), buildL ps cs parts = some r → Instr.fill (ps.toArray[·]?) cs.toArray parts = some r.toArray
  | [], cs, r, h => by cases h; rfl
  | (i, v) :: parts, cs, r, h => by
    simp only [buildL, getP_eq] at h
    cases hp : ps[i]? with
    | none => rw [hp] at h; cases h
    | some p =>
      obtain ⟨off, size⟩ := p
      rw [hp] at h
      simp only at h
      cases hs : Nat.beq (cellsL v).length size with
      | false => rw [hs] at h; cases h
      | true =>
        rw [hs] at h
        simp only [cond_true] at h
        cases hq : pasteL cs off (cellsL v) with
        | none => rw [hq] at h; cases h
        | some cs' =>
          rw [hq] at h
          simp only at h
          obtain ⟨hle, hcs⟩ := pasteL_eq hq
          have hsz : v.cells.size = size := by rw [cellsL_eq]; simpa using Nat.eq_of_beq_eq_true hs
          have hfold : ((v.cells.zipIdx).foldl (fun cs (c, j) => cs.setIfInBounds (off + j) c) cs.toArray) = cs'.toArray := by
            apply Array.ext'
            have := foldl_set (cellsL v) 0 off cs.toArray (by simpa using hle)
            rw [← Array.foldl_toList]
            simp only [cellsL_eq]
            simpa [hcs] using this
          have hp' : ps.toArray[i]? = some (off, size) := by simp [hp]
          unfold Instr.fill
          rw [hp']
          simp only
          rw [if_neg (by
            rw [cellsL_eq] at hsz ⊢
            simp only [List.size_toArray] at hsz ⊢
            simp [hsz]; omega), hfold]
          exact fill_eq ps parts cs' r h
theorem Q_build {t : TypeId} {parts : List (Nat × Operand)} {vs : List (Nat × Value)} {ps : List (Nat × Nat)} {z : Value} {zs cs : List Value} (hz : Zero P t z zs) (hp : Places P t ps) (hv : E.partsV parts = some vs) (hb : buildL ps zs vs = some cs) :
    OpQ P n w0 ⟨d, .build t parts.toArray, ty, pos, after, gu⟩ E H (.agg cs.toArray) := fun a w s hs => by
  obtain ⟨fs, hu, hps⟩ := hp.ex
  obtain ⟨it, hit, hit2⟩ := Option.map_eq_some_iff.1 hz.eq
  have e1 := s.partsV hv
  have e2 : (parts.toArray.map fun (i, x) => (i, a.eval x)).toList = vs := by simpa using e1
  have h := run_build (P := P) w t (parts.toArray.map fun (i, x) => (i, a.eval x)) cs.toArray (by
    rw [e2]
    simp only [Program.built, hit, hu, hit2, hps]
    rw [cellsL_eq, hz.cells]
    exact fill_eq ps vs zs cs hb)
  simp only [execOp, Sem.run_bind, h, Result.andThen_ok, Sem.run_pure]
theorem run_storeVar_cel (w : World) {g off : Nat} {bt t : TypeId} {cs cs' vs : List Value} {val : Value} (hs : Sat w0 w (cel g bt cs * F)) (hsz : (P.info? t).map (·.size) = some vs.length) (hv : val.cells = vs.toArray) (h1 : ∀ u ∈ vs, u.oneCell' = true) (hp : pasteL cs off vs = some cs') :
    ∃ w', (storeVar t ⟨g, off, none⟩ val).run P w = .ok () w' ∧ Sat w0 w' (cel g bt cs' * F) := by
  obtain ⟨hle, hcs⟩ := pasteL_eq hp
  obtain ⟨i, hi, hi2⟩ := Option.map_eq_some_iff.1 hsz
  have hz : (sizeOf t).run P w = .ok vs.length w := by simp [sizeOf, typeInfo, hi, hi2]
  have hr := run_storeCells_fr (P := P) g off bt (0, 0) vs 0 cs.toArray w (Sat.at_ hs) (by simpa using hle) h1 (fun i _ _ => by simp)
  refine ⟨w.setRow g (cs.toArray.toList.take (off + 0) ++ vs ++ cs.toArray.toList.drop (off + 0 + vs.length)).toArray, ?_, ?_⟩
  · simp only [storeVar, Sem.run_bind, hz, Result.andThen_ok, hv, List.size_toArray]
    rw [if_neg (by simp)]
    exact hr
  · refine Sat.put (o := .cells cs.toArray bt (0, 0)) hs rfl rfl rfl ?_ fun k _ hk => setRow_other w g k _ hk
    have := setRow_heap w g cs.toArray (cs.toArray.toList.take (off + 0) ++ vs ++ cs.toArray.toList.drop (off + 0 + vs.length)).toArray bt (0, 0) (Sat.at_ hs)
    rw [this, hcs]
    simp
theorem cells_one {v : Value} (h : v.oneCell' = true) : v.cells = [v].toArray := by cases v <;> first | rfl | cases h
theorem H_store {t bt : TypeId} {g off : Nat} {cs cs' : List Value} (hx : E.ev x = some (ptr g off)) (hy : E.ev y = some v) (ht : Scal P t) (h1 : v.oneCell' = true) (hl : LimbB H g bt cs F) (hset : pasteL cs off [v] = some cs') :
    OpH P n w0 ⟨none, .store t x y, ty, pos, after, gu⟩ E H (fun _ : Unit => undef) (fun _ => cel g bt cs' * F) := OpH.mk' (pre := cel g bt cs) (post := fun _ => cel g bt cs') (fun G a w K Q s hs hK => by
  obtain ⟨w', hr, hs'⟩ := run_storeVar_cel (P := P) (t := t) (vs := [v]) w hs ht.size (cells_one h1) (by simpa using h1) hset
  have := hK () w' hs'
  simp only [Act.put] at this
  simp only [Oper.wp, execOp, s.ev hx, s.ev hy, Instr.storeAt, Instr.sureAddr, Sem.run_bind, Sem.run_pure, Result.andThen_ok, hr, Oper.upon_skip]
  exact this) hl.eq
theorem H_storeA {t bt : TypeId} {g off : Nat} {cs cs' vs : List Value} (hx : E.ev x = some (ptr g off)) (hy : E.ev y = some (.agg vs.toArray)) (ht : Aggr P t vs.length) (hl : LimbB H g bt cs F) (h1 : vs.all (·.oneCell') = true) (hset : pasteL cs off vs = some cs') :
    OpH P n w0 ⟨none, .store t x y, ty, pos, after, gu⟩ E H (fun _ : Unit => undef) (fun _ => cel g bt cs' * F) := OpH.mk' (pre := cel g bt cs) (post := fun _ => cel g bt cs') (fun G a w K Q s hs hK => by
  obtain ⟨w', hr, hs'⟩ := run_storeVar_cel (P := P) (t := t) (vs := vs) (val := .agg vs.toArray) w hs ht.size rfl (by simpa using h1) hset
  have := hK () w' hs'
  simp only [Act.put] at this
  simp only [Oper.wp, execOp, s.ev hx, s.ev hy, Instr.storeAt, Instr.sureAddr, Sem.run_bind, Sem.run_pure, Result.andThen_ok, hr, Oper.upon_skip]
  exact this) hl.eq
end ops

/-! ### Calls -/
/-- A contract: the function turns pre into one of post, whatever stands beside it, and returns. -/
def Spec (P : Program) (w0 : World) (f : FuncId) (args : List Value) (pre : HProp) {α : Type} (res : α → Value) (post : α → HProp) : Prop :=
  ∀ (G : HProp) w, Sat w0 w (pre * G) → Calls P f args.toArray w fun e w' => ∃ x, e = .returned (res x) ∧ Sat w0 w' (post x * G)
class IsFun (P : Program) (f : FuncId) : Prop where
  ok : ∃ fn, P.funcs[f]? = some fn ∧ fn.name ≠ "runtime.NumGoroutine" ∧ fn.body.isNone = false
theorem run_callFunc {f : FuncId} (hf : IsFun P f) (args : Array Value) (w : World) : (callFunc f args).run P w = .ok (.enter f args) w := by
  obtain ⟨fn, h1, h2, h3⟩ := hf.ok
  cases hb : fn.body with
  | none => rw [hb] at h3; cases h3
  | some c => simp [callFunc, h1, h2, hb]
section call
variable {α : Type} {f : FuncId} {args : List Value} {pre : HProp} {res : α → Value} {post : α → HProp} {d : Option Tmp} {xs : List Operand} {ts : Array TypeId} {ty : TypeId} {pos : String} {after : Array Edge} {gu : Option (Nat × Bool)}
theorem T_call (hf : IsFun P f) (hargs : E.evs xs = some args) (spec : Spec P w0 f args pre res post) : OpT P n w0 ⟨d, .call ⟨.value (.func f), xs.toArray, ts⟩, ty, pos, after, gu⟩ E pre res post := fun G a w K Q s hs hK => by
  have e := s.evs hargs
  have hr : (execOp a.eval ⟨d, .call ⟨.value (.func f), xs.toArray, ts⟩, ty, pos, after, gu⟩).run P w = .ok (.enter f args.toArray) w := by
    have h := run_callFunc hf args.toArray w
    simp [execOp, resolve, Act.eval, Deferred.ofValue, invoke, e, h]
  unfold Oper.wp
  rw [hr]
  refine (spec G w hs).mono ?_
  rintro e w' ⟨x, rfl, hs'⟩
  exact hK x w' hs'
/-- A call of a value: a closure or a method value. -/
theorem T_callV {t : Tmp} {caps : List Value} (hf : IsFun P f) (ht : E.get t = some (.func (.func f) #[] caps.toArray)) (hargs : E.evs xs = some args) (spec : Spec P w0 f (args ++ caps) pre res post) : OpT P n w0 ⟨d, .call ⟨.value (.tmp t), xs.toArray, ts⟩, ty, pos, after, gu⟩ E pre res post := fun G a w K Q s hs hK => by
  have e := s.evs hargs
  have e2 : a.eval (.tmp t) = .func (.func f) #[] caps.toArray := s.ev (x := .tmp t) ht
  have hr : (execOp a.eval ⟨d, .call ⟨.value (.tmp t), xs.toArray, ts⟩, ty, pos, after, gu⟩).run P w = .ok (.enter f (args ++ caps).toArray) w := by
    have h := run_callFunc hf (args ++ caps).toArray w
    simp [execOp, resolve, e2, Deferred.ofValue, invoke, e] at h ⊢
    exact h
  unfold Oper.wp
  rw [hr]
  refine (spec G w hs).mono ?_
  rintro e w' ⟨x, rfl, hs'⟩
  exact hK x w' hs'
theorem H_call0 (hf : IsFun P f) (hargs : E.evs xs = some args) (spec : Spec P w0 f args emp res post) : OpH P n w0 ⟨d, .call ⟨.value (.func f), xs.toArray, ts⟩, ty, pos, after, gu⟩ E H res (fun x => post x * H) := OpH.mk' (T_call hf hargs spec) emp_star.symm
theorem H_call1 {β : Type} {p : β → HProp} {b : β} (hf : IsFun P f) (hargs : E.evs xs = some args) (spec : Spec P w0 f args (p b) res post) (hl : Limb H p b F) : OpH P n w0 ⟨d, .call ⟨.value (.func f), xs.toArray, ts⟩, ty, pos, after, gu⟩ E H res (fun x => post x * F) := OpH.mk' (T_call hf hargs spec) hl.eq
theorem H_callH (hf : IsFun P f) (hargs : E.evs xs = some args) (spec : Spec P w0 f args pre res post) (hH : H = pre * F) : OpH P n w0 ⟨d, .call ⟨.value (.func f), xs.toArray, ts⟩, ty, pos, after, gu⟩ E H res (fun x => post x * F) := OpH.mk' (T_call hf hargs spec) hH
end call

/-- The contract of a function that only reads: from any memory that meets H. -/
def SpecQ (P : Program) (w0 : World) (f : FuncId) (args : List Value) (H : HProp) (v : Value) : Prop :=
  ∀ w, Sat w0 w H → Calls P f args.toArray w fun e w' => e = .returned v ∧ Sat w0 w' H
theorem TQ_call {f : FuncId} {args : List Value} {v : Value} {d : Option Tmp} {xs : List Operand} {ts : Array TypeId} {ty : TypeId} {pos : String} {after : Array Edge} {gu : Option (Nat × Bool)} (hf : IsFun P f) (hargs : E.evs xs = some args) (spec : SpecQ P w0 f args H v) : OpTQ P n w0 ⟨d, .call ⟨.value (.func f), xs.toArray, ts⟩, ty, pos, after, gu⟩ E H v := fun a w K Q s hs hK => by
  have e := s.evs hargs
  have hr : (execOp a.eval ⟨d, .call ⟨.value (.func f), xs.toArray, ts⟩, ty, pos, after, gu⟩).run P w = .ok (.enter f args.toArray) w := by
    have h := run_callFunc hf args.toArray w
    simp [execOp, resolve, Act.eval, Deferred.ofValue, invoke, e, h]
  unfold Oper.wp
  rw [hr]
  refine (spec w hs).mono ?_
  rintro e w' ⟨rfl, hs'⟩
  exact hK w' hs'
/-! ### Entering and leaving -/
def argE : Nat → List Value → Env
  | _, [] => []
  | k, v :: r => (k, v) :: argE (k + 1) r
theorem argE_get : ∀ (l : List Value) (k t : Nat) (v : Value), (argE k l).get t = some v → k ≤ t ∧ l[t - k]? = some v
  | [], k, t, v, h => by simp [argE, Env.get] at h
  | u :: r, k, t, v, h => by
    rw [argE, Env.get_cons] at h
    split at h
    · rename_i e; subst e; simp at h; simp [h]
    · obtain ⟨h1, h2⟩ := argE_get r (k + 1) t v h
      refine ⟨by omega, ?_⟩
      rw [show t - k = (t - (k + 1)) + 1 by omega]; simpa using h2
/-- What a function's body must come to: it returns; v: its result. -/
def retS (P : Program) (n : Frm) (w0 : World) (fn : Func) (R : Value → HProp → Prop) : Exit → St → Prop
  | .normal, σ | .ret, σ => σ.D = [] ∧ ∃ v, (∀ a w, Good n w0 σ a w → (results fn a.tmps).run P w = .ok v w) ∧ R v σ.H
  | _, _ => False
theorem Spec.enter {α : Type} {f : FuncId} {fn : Func} {c : Code} {args : List Value} {pre : HProp} {res : α → Value} {post : α → HProp} {m : Nat} (hf : P.funcs[f]? = some fn) (hb : fn.body = some c) (hn : fn.ntmps = m) (hle : Nat.ble args.length m = true)
    (h : ∀ G, WS P ⟨m, none⟩ w0 c (retS P ⟨m, none⟩ w0 fn fun v H' => ∃ x, v = res x ∧ Ent H' (post x * G)) ⟨argE 0 args, [], pre * G⟩) : Spec P w0 f args pre res post := by
  intro G w hs
  subst hn
  have hle' : args.length ≤ fn.ntmps := Nat.le_of_ble_eq_true hle
  refine calls_of_wp hf hb (wp_mono ((wpIn_wide (n := 0)).1 (h G _ w ⟨⟨by simp; omega, fun t v ht => ?_⟩, rfl, hs⟩)) ?_)
  · obtain ⟨_, h2⟩ := argE_get args 0 t v ht
    have hlt := (List.getElem?_eq_some_iff.1 h2).1
    simp only [Nat.sub_zero] at h2 hlt
    simp [Array.getElem?_append, hlt] at h2 ⊢
    simp [h2]
  · intro e a w' ⟨σ, h1, h2⟩
    cases e with
    | normal => obtain ⟨hD, v, hr, x, hv, he⟩ := h1; exact ⟨h2.defers.trans hD, v, hr a w' h2, x, by rw [hv], he.sat h2.sat⟩
    | ret => obtain ⟨hD, v, hr, x, hv, he⟩ := h1; exact ⟨h2.defers.trans hD, v, hr a w' h2, x, by rw [hv], he.sat h2.sat⟩
    | _ => exact h1.elim
theorem SpecQ.enter {f : FuncId} {fn : Func} {c : Code} {args : List Value} {v : Value} {m : Nat} (hf : P.funcs[f]? = some fn) (hb : fn.body = some c) (hn : fn.ntmps = m) (hle : Nat.ble args.length m = true)
    (h : WS P ⟨m, none⟩ w0 c (retS P ⟨m, none⟩ w0 fn fun u H' => u = v ∧ Ent H' H) ⟨argE 0 args, [], H⟩) : SpecQ P w0 f args H v := by
  intro w hs
  subst hn
  have hle' : args.length ≤ fn.ntmps := Nat.le_of_ble_eq_true hle
  refine calls_of_wp hf hb (wp_mono ((wpIn_wide (n := 0)).1 (h _ w ⟨⟨by simp; omega, fun t v ht => ?_⟩, rfl, hs⟩)) ?_)
  · obtain ⟨_, h2⟩ := argE_get args 0 t v ht
    have hlt := (List.getElem?_eq_some_iff.1 h2).1
    simp only [Nat.sub_zero] at h2 hlt
    simp [Array.getElem?_append, hlt] at h2 ⊢
    simp [h2]
  · intro e a w' ⟨σ, h1, h2⟩
    cases e with
    | normal => obtain ⟨hD, u, hr, hv, he⟩ := h1; exact ⟨h2.defers.trans hD, u, hr a w' h2, by rw [hv], he.sat h2.sat⟩
    | ret => obtain ⟨hD, u, hr, hv, he⟩ := h1; exact ⟨h2.defers.trans hD, u, hr a w' h2, by rw [hv], he.sat h2.sat⟩
    | _ => exact h1.elim
section ret
variable {fn : Func} {R : Value → HProp → Prop}
theorem ret_none {e : Exit} (he : e = .ret ∨ e = .normal) (hr : fn.results = #[]) (h : R (.tuple #[]) H) : retS P n w0 fn R e ⟨E, [], H⟩ := by
  rcases he with rfl | rfl <;> exact ⟨rfl, _, fun a w g => results_none hr _ _ _, h⟩
theorem ret_tmp {e : Exit} {t : Nat} {v : Value} (he : e = .ret ∨ e = .normal) (hr : fn.results = #[.tmp t]) (hv : E.get t = some v) (h : R v H) : retS P n w0 fn R e ⟨E, [], H⟩ := by
  rcases he with rfl | rfl <;> exact ⟨rfl, v, fun a w g => by rw [results_tmp hr, g.sees.get t v hv], h⟩
theorem ret_tmp2 {e : Exit} {t t' : Nat} {v u : Value} (he : e = .ret ∨ e = .normal) (hr : fn.results = #[.tmp t, .tmp t']) (hv : E.get t = some v) (hu : E.get t' = some u) (h : R (.tuple #[v, u]) H) : retS P n w0 fn R e ⟨E, [], H⟩ := by
  rcases he with rfl | rfl <;> exact ⟨rfl, _, fun a w g => by rw [results_tmp2 hr, g.sees.get t v hv, g.sees.get t' u hu], h⟩
end ret
end Go.Proofs.Ytapoehkdnglahaa
