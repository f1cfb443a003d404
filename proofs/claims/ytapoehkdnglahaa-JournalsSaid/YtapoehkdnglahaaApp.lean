/- Slice literals, append, parts of slices, strings and bytes. No program in sight. -/
import Derived.Test.YtapoehkdnglahaaRow
import Derived.Great.BuildSlice
import Derived.Laws.BytesString
import Derived.Laws.IdiomStrings
import Derived.Laws.Strings
namespace Go.Proofs.Ytapoehkdnglahaa
open Go.RowKit
set_option linter.unusedVariables false
set_option linter.unusedSimpArgs false
variable {P : Program} {n : Frm} {w0 : World} {E : Env} {D : List Deferred} {H F F2 R : HProp} {ops : Array Oper} {l' : List Oper} {Q : Exit → St → Prop} {w : World}
/-! ### Literals -/
def bsL (size : Nat) : List Value → List (Nat × Value) → Option (List Value)
  | cs, [] => some cs
  | cs, (i, v) :: r => bif Nat.beq (cellsL v).length size then match pasteL cs (i * size) (cellsL v) with
    | some cs' => bsL size cs' r
    | none => none
    else none
theorem fill_bs (size : Nat) : ∀ (parts : List (Nat × Value)) (cs r : List Value), bsL size cs parts = some r → Instr.fill (fun i => some (i * size, size)) cs.toArray parts = some r.toArray
  | [], cs, r, h => by cases h; rfl
  | (i, v) :: parts, cs, r, h => by
    simp only [bsL] at h
    cases hs : Nat.beq (cellsL v).length size with
    | false => rw [hs] at h; cases h
    | true =>
      rw [hs] at h
      simp only [cond_true] at h
      cases hq : pasteL cs (i * size) (cellsL v) with
      | none => rw [hq] at h; cases h
      | some cs' =>
        rw [hq] at h
        simp only at h
        obtain ⟨hle, hcs⟩ := pasteL_eq hq
        have hsz : v.cells.size = size := by rw [cellsL_eq]; simpa using Nat.eq_of_beq_eq_true hs
        have hfold : ((v.cells.zipIdx).foldl (fun cs (c, j) => cs.setIfInBounds (i * size + j) c) cs.toArray) = cs'.toArray := by
          apply Array.ext'
          have := foldl_set (cellsL v) 0 (i * size) cs.toArray (by simpa using hle)
          rw [← Array.foldl_toList]
          simp only [cellsL_eq]
          simpa [hcs] using this
        unfold Instr.fill
        simp only
        rw [if_neg (by
          rw [cellsL_eq] at hsz ⊢
          simp only [List.size_toArray] at hsz ⊢
          simp [hsz]; omega), hfold]
        exact fill_bs size parts cs' r h
theorem zeroRow_length (zs : List Value) : ∀ k, (zeroRow zs k).length = k * zs.length
  | 0 => by simp [zeroRow]
  | k + 1 => by simp [zeroRow, zeroRow_length zs k, Nat.succ_mul]; omega
theorem zeroRow_at (zs : List Value) : ∀ (k i : Nat), i < k * zs.length → (zeroRow zs k)[i]? = zs[i % zs.length]?
  | 0, i, h => by simp at h
  | k + 1, i, h => by
    simp only [zeroRow]
    rw [List.getElem?_append]
    split
    · rename_i hi; rw [Nat.mod_eq_of_lt hi]
    · rename_i hi
      have hpos : 0 < zs.length := by
        rcases Nat.eq_zero_or_pos zs.length with h0 | h0
        · rw [h0] at h; simp at h
        · exact h0
      rw [zeroRow_at zs k (i - zs.length) (by rw [Nat.succ_mul] at h; omega)]
      congr 1
      exact (Nat.mod_eq_sub_mod (by omega)).symm
section lit
variable {d : Option Tmp} {ty : TypeId} {pos : String} {after : Array Edge} {gu : Option (Nat × Bool)}
theorem H_buildSlice {t e : TypeId} {len size : Nat} {parts : List (Nat × Operand)} {vs : List (Nat × Value)} {z : Value} {zs cs : List Value} (ht : Und P t (.slice e)) (hz : Zero P e z zs) (hs : Siz P e size) (hl : Nat.beq zs.length size = true) (hsm : Nat.ble (len * size) 16777216 = true) (hpos : Nat.blt 0 (len * size) = true) (hv : E.partsV parts = some vs) (hb : bsL size (zeroRow zs len) vs = some cs) :
    OpH P n w0 ⟨d, .buildSlice t len parts.toArray, ty, pos, after, gu⟩ E H (fun g => .slice (some ⟨g, 0, none⟩) len len) (fun g => cel g e cs * H) := H_new fun a w s => by
  obtain ⟨ie, hie, hiz⟩ := Option.map_eq_some_iff.1 hz.eq
  obtain ⟨ie2, hie2, his⟩ := Option.map_eq_some_iff.1 hs.eq
  rw [hie] at hie2; cases hie2
  have hl' : zs.length = size := Nat.eq_of_beq_eq_true hl
  have hsm' : len * size ≤ 16777216 := Nat.le_of_ble_eq_true hsm
  have hpos' : 0 < len * size := by simpa using hpos
  have e1 := s.partsV hv
  have e2 : (parts.toArray.map fun (i, x) => (i, a.eval x)).toList = vs := by simpa using e1
  have harr : ((Array.range (len * size)).map (z.cells[· % z.cells.size]!)) = (zeroRow zs len).toArray := by
    apply Array.ext'
    apply List.ext_getElem?
    intro i
    have hc : z.cells = zs.toArray := by rw [cellsL_eq, hz.cells]
    rw [hc]
    by_cases hi : i < len * size
    · rw [List.toList_toArray, zeroRow_at zs len i (by rw [hl']; exact hi)]
      have hm : i % zs.length < zs.length := Nat.mod_lt _ (by
        rcases Nat.eq_zero_or_pos zs.length with h0 | h0
        · rw [hl'] at h0; rw [h0] at hpos'; simp at hpos'
        · exact h0)
      simp [hi, hm]
    · rw [List.getElem?_eq_none (by simpa using hi), List.getElem?_eq_none (by rw [List.toList_toArray, zeroRow_length, hl']; omega)]
  have h := run_buildSlice (P := P) w t e len (parts.toArray.map fun (i, x) => (i, a.eval x)) cs.toArray ie z ht.eq hie hiz (by rw [his]; omega) (by rw [his]; omega) (by
    rw [his, e2, harr]; exact fill_bs size vs _ _ hb)
  simp only [execOp, Sem.run_bind, h, Result.andThen_ok, Sem.run_pure]
theorem H_buildSlice0 {t e : TypeId} {size : Nat} (ht : Und P t (.slice e)) (hs : Siz P e size) :
    OpH P n w0 ⟨d, .buildSlice t 0 #[], ty, pos, after, gu⟩ E H (fun g => .slice (some ⟨g, 0, none⟩) 0 0) (fun g => cel g e [] * H) := H_new fun a w s => by
  obtain ⟨ie, hie, his⟩ := Option.map_eq_some_iff.1 hs.eq
  simp [execOp, Instr.buildSlice, run_underlying ht.eq, sizeOf, typeInfo, hie, newRow, Instr.fill]
  exact congrArg (fun c => w.alloc (Obj.cells c e)) (by apply Array.ext'; simp)
end lit
/-- A whole new block, as a slice of data. -/
theorem Ent.rows_new {α : Type} (l : List α) {g : Nat} {e : TypeId} {size m : Nat} {f : α → List Value} {cs : List Value} [hf : FixLen f size] (hc : cs = l.flatMap f) (hm : l.length = m) (hmax : m ≤ 1000000) : Ent (cel g e cs * F) (rows e size f (.slice (some ⟨g, 0, none⟩) m m) l * F) := fun h hh => by
  refine ⟨h, ?_, fun _ _ e => e⟩
  obtain ⟨a, b, hd, he, hp, hq⟩ := hh
  refine ⟨a, b, hd, he, ⟨by rw [flatMap_length f size hf.eq], .inr ⟨g, 0, m, cs.toArray, (0, 0), ?_, by omega, by simp only [maxLen]; omega, ?_, ?_, fun i _ _ => by simp, hp⟩⟩, hq⟩
  · rw [hm]
  · simp [hc, flatMap_length f size hf.eq, hm]
  · simp only [List.drop_zero]
    rw [hc, ← flatMap_length f size hf.eq, List.take_length]

/-! ### Append -/
section append
variable {α : Type} {e : TypeId} {size bytes : Nat} {f : α → List Value} {v u : Value} {l : List α} {d : Option Tmp} {ty : TypeId} {pos : String} {after : Array Edge} {gu : Option (Nat × Bool)} {x y : Operand} {t t2 : TypeId}
theorem T_append (ys : List α) (X : HProp) (hx : E.ev x = some v) (hy : E.ev y = some u) (hT : SlT P t e size bytes) (h2 : P.underlying t2 = some (.slice e) ∨ P.underlying t2 = some .string) (hf : FixLen f size) (h1 : ∀ z, ∀ c ∈ f z, c.oneCell' = true)
    (hsrc : ∀ w G, Sat w0 w (rows e size f v l * (X * G)) → Src P w size ys.length u (ys.flatMap f)) (hn : l.length + ys.length ≤ 1000000) (hby : bytes ≤ 1000) :
    OpT P n w0 ⟨d, .call ⟨.builtin .append, #[x, y], #[t, t2]⟩, ty, pos, after, gu⟩ E (rows e size f v l * X) (fun v' : Value => v') (fun v' => rows e size f v' (l ++ ys) * X) := fun G a w K Q s hs hK => by
  rw [star_assoc] at hs
  refine wp_append_sl hT h2 x y rfl hs (s.ev hx) (s.ev hy) (hsrc w G hs) (fun c hc => ?_) (by simp only [maxLen]; omega) ?_ fun v' w' hs' => hK v' w' ?_
  · obtain ⟨z, _, hz⟩ := List.mem_flatMap.1 hc; exact h1 z c hz
  · have : (l.length + ys.length) * bytes ≤ 1000000 * 1000 := Nat.mul_le_mul hn hby
    omega
  · rw [star_assoc]
    unfold rows
    rw [List.length_append, List.flatMap_append]
    exact hs'
/-- One element more, out of a literal. -/
theorem H_append1 (z : α) {g c : Nat} {cs : List Value} (hx : E.ev x = some v) (hy : E.ev y = some (.slice (some ⟨g, 0, none⟩) 1 c)) (hl : RowsOf H v α e size f l F) (hb : LimbB F g e cs F2) (hc : cs = f z) (hT : SlTC P t e size bytes) (hf : FixLen f size) (h1 : ∀ z, ∀ c ∈ f z, c.oneCell' = true) (hn : l.length + 1 ≤ 1000000) (hby : Nat.ble bytes 1000 = true) :
    OpH P n w0 ⟨d, .call ⟨.builtin .append, #[x, y], #[t, t]⟩, ty, pos, after, gu⟩ E H (fun v' : Value => v') (fun v' => rows e size f v' (l ++ [z]) * F2) := by
  refine ⟨rows e size f v l * cel g e cs, fun v' => rows e size f v' (l ++ [z]), F2, ?_, by rw [hl.eq, hb.eq, star_assoc], fun _ => rfl⟩
  intro G a w K Q s hs hK
  refine T_append [z] (cel g e cs) hx hy hT.out (.inl hT.out.ht) hf h1 (fun w G hs => ?_) hn (Nat.le_of_ble_eq_true hby) G a w K Q s hs fun v' w' hs' => hK v' w' ?_
  · refine Src.slice size 1 c _ _ (by simp [hf.eq]) fun j u hu => ?_
    rw [add_lit, Nat.zero_add, Sat.cell hs.p2]
    rw [hc]
    simpa using hu
  · rw [star_assoc] at hs'
    exact hs'.d2
theorem src_of_rows {w : World} {α : Type} {size : Nat} {f : α → List Value} {u : Value} {ys : List α} (h : RowsAt w size f u ys) (hf : ∀ x, (f x).length = size) : Src P w size ys.length u (ys.flatMap f) := by
  obtain ⟨A, c, rfl, _⟩ := h.form
  by_cases hy : ys = []
  · subst hy; exact Src.nothing size c A
  · obtain ⟨g, off, cap, hv2, _⟩ := h.cell 0 (List.length_pos_iff.2 hy)
    injection hv2 with e1 e2 e3
    subst e1
    refine Src.slice size ys.length c _ _ (flatMap_length f size hf ys) fun j u hu => ?_
    rw [add_lit]
    have hj := (List.getElem?_eq_some_iff.1 hu).1
    rw [flatMap_length f size hf] at hj
    have hpos : 0 < size := by
      rcases Nat.eq_zero_or_pos size with h0 | h0
      · rw [h0] at hj; simp at hj
      · exact h0
    have hk : j / size < ys.length := Nat.div_lt_of_lt_mul (by rw [Nat.mul_comm]; exact hj)
    obtain ⟨g', off', cap', hv3, hc⟩ := h.cell (j / size) hk
    injection hv3 with e1
    injection e1 with e1
    injection e1 with e1 e2
    subst e1; subst e2
    have hjj : j / size * size + j % size = j := Nat.div_add_mod' j size
    have := hc (j % size) u (Nat.mod_lt _ hpos) (by
      rw [← flatMap_at f size hf ys (j / size) (j % size) ys[j / size] (by simp) (Nat.mod_lt _ hpos), hjj]; exact hu)
    rwa [hjj] at this
/-- All elements of a slice that can be read, whoever owns it. -/
theorem H_appendX {ys : List α} (X : HProp) {f' : α → List Value} (hx : E.ev x = some v) (hy : E.ev y = some u) (hl : RowsOf H v α e size f l F) (hX : Rdr w0 X u α size f' ys) (hF : F = X * F2) (hff : f' = f) (hT : SlTC P t e size bytes) (hf : FixLen f size) (h1 : ∀ z, ∀ c ∈ f z, c.oneCell' = true) (hn : l.length + ys.length ≤ 1000000) (hby : Nat.ble bytes 1000 = true) :
    OpH P n w0 ⟨d, .call ⟨.builtin .append, #[x, y], #[t, t]⟩, ty, pos, after, gu⟩ E H (fun v' : Value => v') (fun v' => rows e size f v' (l ++ ys) * (X * F2)) := by
  subst hff
  refine ⟨rows e size f' v l * X, fun v' => rows e size f' v' (l ++ ys) * X, F2, ?_, by rw [hl.eq, hF, star_assoc], fun _ => by rw [star_assoc]⟩
  exact T_append ys X hx hy hT.out (.inl hT.out.ht) hf h1 (fun w G hs => src_of_rows (hX.at_ w hs.p2.keep) hf.eq) hn (Nat.le_of_ble_eq_true hby)
/-- All elements of another slice that is owned. -/
theorem H_appendR {ys : List α} (hx : E.ev x = some v) (hy : E.ev y = some u) (hl : RowsOf H v α e size f l F) {f' : α → List Value} (hl2 : RowsOf F u α e size f' ys F2) (hff : f' = f) (hT : SlTC P t e size bytes) (hf : FixLen f size) (h1 : ∀ z, ∀ c ∈ f z, c.oneCell' = true) (hn : l.length + ys.length ≤ 1000000) (hby : Nat.ble bytes 1000 = true) :
    OpH P n w0 ⟨d, .call ⟨.builtin .append, #[x, y], #[t, t]⟩, ty, pos, after, gu⟩ E H (fun v' : Value => v') (fun v' => rows e size f v' (l ++ ys) * (rows e size f u ys * F2)) := by
  subst hff
  refine ⟨rows e size f' v l * rows e size f' u ys, fun v' => rows e size f' v' (l ++ ys) * rows e size f' u ys, F2, ?_, by rw [hl.eq, hl2.eq, star_assoc], fun _ => by rw [star_assoc]⟩
  exact T_append ys _ hx hy hT.out (.inl hT.out.ht) hf h1 (fun w G hs => Src.own hs.p2) hn (Nat.le_of_ble_eq_true hby)
end append

/-! ### Bytes and strings -/
/-- A byte's cell. -/
def byteC (b : UInt8) : List Value := [u8 b]
instance : FixLen byteC 1 := ⟨fun _ => rfl⟩
theorem byteC_one : ∀ z, ∀ c ∈ byteC z, c.oneCell' = true := by intro z c hc; simp [byteC] at hc; subst hc; rfl
theorem byteC_flat (l : List UInt8) : l.flatMap byteC = u8s l := by
  induction l with
  | nil => rfl
  | cons b l ih => rw [List.flatMap_cons, ih]; rfl
section bytes
variable {v u : Value} {l : List UInt8} {d : Option Tmp} {ty : TypeId} {pos : String} {after : Array Edge} {gu : Option (Nat × Bool)} {x y : Operand} {t t2 e src dst : TypeId} {f : UInt8 → List Value} {size : Nat}
theorem H_appendS {ys : List UInt8} {bytes : Nat} (hx : E.ev x = some v) (hy : E.ev y = some (strV ys)) (hl : RowsOf H v UInt8 e 1 f l F) (hfb : f = byteC) (hT : SlTC P t e 1 bytes) (h2 : Und P t2 .string) (hn : l.length + ys.length ≤ 1000000) (hby : Nat.ble bytes 1000 = true) :
    OpH P n w0 ⟨d, .call ⟨.builtin .append, #[x, y], #[t, t2]⟩, ty, pos, after, gu⟩ E H (fun v' : Value => v') (fun v' => rows e 1 f v' (l ++ ys) * F) := by
  subst hfb
  refine ⟨rows e 1 byteC v l * emp, fun v' => rows e 1 byteC v' (l ++ ys) * emp, F, ?_, by rw [hl.eq, star_emp], fun _ => by dsimp only; rw [star_emp]⟩
  refine T_append ys emp hx hy hT.out (.inr h2.eq) inferInstance byteC_one (fun w G hs => ?_) hn (Nat.le_of_ble_eq_true hby)
  have := Src.string (P := P) (w := w) ⟨ys.toArray⟩
  rw [byteC_flat]
  exact this
theorem conv_bytes {w : World} (A : Option Addr) (cap : Nat) (g off : Nat) (xs : List UInt8) (hs : Und P src (.slice e)) (he : Und P e (.int .u8)) (hd : Und P dst .string) (hA : xs ≠ [] → A = some ⟨g, off, none⟩) (hc : ∀ j u, (u8s xs)[j]? = some u → w.cell? ⟨g, off + j, none⟩ = some u) :
    (convert src dst (.slice A xs.length cap)).run P w = .ok (strV xs) w := by
  have key : (loadCells ⟨g, off, none⟩ xs.length).run P w = .ok (u8s xs).toArray w := by
    have := run_loadCells_list (P := P) (w := w) ⟨g, off, none⟩ (u8s xs) (fun j v hj => by rw [add_lit]; exact hc j v hj)
    rwa [u8s_length] at this
  by_cases hx : xs = []
  · subst hx
    show (convert src dst (.slice A 0 cap)).run P w = _
    rw [run_convert_bytes_string w src dst e A 0 cap hs.eq he.eq hd.eq]
    cases A with
    | none => simp [Conv.bytesToString]; rfl
    | some a => simp [Conv.bytesToString, loadCells, loadCellsFrom]; rfl
  · rw [hA hx, run_convert_bytes_string w src dst e _ _ cap hs.eq he.eq hd.eq, run_bytesToString w _ xs.length cap (xs.map fun b => (b.toNat : Int)) (by rw [key]; simp [u8s, u8, Function.comp_def]), foldl_push_byteCells]
    have he : (⟨ByteArray.empty.data ++ xs.toArray⟩ : ByteArray) = ⟨xs.toArray⟩ := by apply ByteArray.ext; simp
    rw [he]
theorem RowsAt.bytes {w : World} {v : Value} {l : List UInt8} (h : RowsAt w 1 byteC v l) : ∃ A c g off, v = .slice A l.length c ∧ (l ≠ [] → A = some ⟨g, off, none⟩) ∧ ∀ j u, (u8s l)[j]? = some u → w.cell? ⟨g, off + j, none⟩ = some u := by
  obtain ⟨A, c, hv, _⟩ := h.form
  by_cases hl : l = []
  · exact ⟨A, c, 0, 0, hv, fun h => absurd hl h, by subst hl; simp [u8s]⟩
  · obtain ⟨g, off, cap, hv2, _⟩ := h.cell 0 (List.length_pos_iff.2 hl)
    refine ⟨A, c, g, off, hv, fun _ => by rw [hv] at hv2; injection hv2, fun j u hu => ?_⟩
    have hj : j < l.length := by have := (List.getElem?_eq_some_iff.1 hu).1; rwa [u8s_length] at this
    obtain ⟨g', off', cap', hv3, hc⟩ := h.cell j hj
    rw [hv2] at hv3
    injection hv3 with e1
    injection e1 with e1
    injection e1 with e1 e2
    subst e1; subst e2
    have := hc 0 u (by omega) (by simp [byteC]; simpa [u8s, hj] using hu)
    simpa using this
/-- 'string(b)' of bytes that can be read. -/
theorem Q_convS (hx : E.ev x = some v) (hl : Rdr w0 H v UInt8 1 f l) (hfb : f = byteC) (hs : Und P src (.slice e)) (he : Und P e (.int .u8)) (hd : Und P dst .string) : OpQ P n w0 ⟨d, .convert src dst x, ty, pos, after, gu⟩ E H (strV l) := fun a w s hs' => by
  subst hfb
  obtain ⟨A, c, g, off, rfl, hA, hc⟩ := (hl.at_ w hs').bytes
  have hr : (convert src dst (.slice A l.length c)).run P w = .ok (strV l) w := conv_bytes A c g off l hs he hd hA hc
  simp only [execOp, s.ev hx, Sem.run_bind, hr, Result.andThen_ok, Sem.run_pure]
/-- '[]byte(s)': new bytes. -/
theorem H_convB (hx : E.ev x = some (strV l)) (hs : Und P src .string) (hd : Und P dst (.slice e)) (he : Und P e (.int .u8)) (hn : l.length ≤ 1000000) : OpH P n w0 ⟨d, .convert src dst x, ty, pos, after, gu⟩ E H (fun v' : Value => v') (fun v' => rows e 1 byteC v' l * H) := by
  refine OpH.mk' (pre := emp) (post := fun v' => rows e 1 byteC v' l) ?_ emp_star.symm
  intro G a w K Q s hs' hK
  rw [emp_star] at hs'
  have hr := run_bytes_of_string (P := P) w src dst e ⟨l.toArray⟩ hs.eq hd.eq he.eq
  have hsz : (⟨l.toArray⟩ : ByteArray).size = l.length := rfl
  have hge := grownCap_ge w (⟨l.toArray⟩ : ByteArray).size 0 e
  have hle := grownCap_le_maxLen w (⟨l.toArray⟩ : ByteArray).size 0 e (by rw [hsz]; simp only [maxLen]; omega)
  rw [hsz] at hr hge hle
  simp only [Oper.wp, execOp, s.ev hx, Sem.run_bind, hr, Result.andThen_ok, Sem.run_pure, Oper.upon_value]
  refine hK _ _ ?_
  have h1 := (hs'.drew.alloc (.cells (bytesRow ⟨l.toArray⟩ (grownCap w l.length 0 e)) e ((bytesRow ⟨l.toArray⟩ (grownCap w l.length 0 e)).size, (bytesRow ⟨l.toArray⟩ (grownCap w l.length 0 e)).size + 1)))
  have hbsz : (bytesRow ⟨l.toArray⟩ (grownCap w l.length 0 e)).size = grownCap w l.length 0 e := by simp [bytesRow]; omega
  refine Sat.slc_mk e 1 l.length w.heap.size 0 _ (bytesRow ⟨l.toArray⟩ (grownCap w l.length 0 e)) _ _ h1 ?_ hge hle ?_ ?_ ?_
  · rw [byteC_flat, u8s_length]; simp
  · rw [hbsz]; simp
  · rw [byteC_flat]
    simp [bytesRow, u8s, u8, List.take_append_of_le_length]
  · intro i h1 h2
    rw [hbsz]
    simp; omega
theorem Q_addS {a b : List UInt8} (hx : E.ev x = some (strV a)) (hy : E.ev y = some (strV b)) (hn : a.length + b.length ≤ 9223372036854775807) : OpQ P n w0 ⟨d, .binOp .add t x y t2, ty, pos, after, gu⟩ E H (strV (a ++ b)) := fun ac w s hs => by
  have hsz : ((⟨a.toArray⟩ : ByteArray).size + (⟨b.toArray⟩ : ByteArray).size : Nat) = a.length + b.length := rfl
  have hap : (⟨a.toArray⟩ : ByteArray) ++ ⟨b.toArray⟩ = ⟨(a ++ b).toArray⟩ := by apply ByteArray.ext; simp
  have hg : ¬ (((⟨a.toArray⟩ : ByteArray).size + (⟨b.toArray⟩ : ByteArray).size : Nat) : Int) > IntKind.i64.max := by rw [hsz]; simp [IntKind.max, IntKind.signed, IntKind.bits]; omega
  simp only [execOp, s.ev hx, s.ev hy, eqGuard, binOp, Op.stringOp]
  rw [if_neg hg, hap]
  rfl
theorem Q_sliceS_h {a : List UInt8} {q : IntKind} {i : Int} {k : Nat} (hx : E.ev x = some (strV a)) (hy : E.ev y = some (.int q i)) (hi : AsNat i k) (ht : Und P t .string) (hk : k ≤ a.length) : OpQ P n w0 ⟨d, .slice t x none (some y) none, ty, pos, after, gu⟩ E H (strV (a.take k)) := fun ac w s hs => by
  obtain rfl := hi.eq
  have hr := run_slice_string_h (P := P) w t ⟨a.toArray⟩ ht.eq q (k : Int) (by omega) (by show (k : Int) ≤ (a.length : Nat); omega)
  have e1 : (⟨a.toArray⟩ : ByteArray).extract 0 k = ⟨(a.take k).toArray⟩ := by apply ByteArray.ext; simp
  simp only [execOp, s.ev hx, s.ev hy, Option.map_some, Option.map_none, run_sliceAt_string w t _ _ _ _ ht.eq, Sem.run_bind, hr, Result.andThen_ok, Sem.run_pure, Int.toNat_natCast, e1]
theorem Q_sliceS_l {a : List UInt8} {q : IntKind} {i : Int} {k : Nat} (hx : E.ev x = some (strV a)) (hy : E.ev y = some (.int q i)) (hi : AsNat i k) (ht : Und P t .string) (hk : k ≤ a.length) : OpQ P n w0 ⟨d, .slice t x (some y) none none, ty, pos, after, gu⟩ E H (strV (a.drop k)) := fun ac w s hs => by
  obtain rfl := hi.eq
  have hr := run_slice_string_l (P := P) w t ⟨a.toArray⟩ ht.eq q (k : Int) (by omega) (by show (k : Int) ≤ (a.length : Nat); omega)
  have e1 : (⟨a.toArray⟩ : ByteArray).extract k (⟨a.toArray⟩ : ByteArray).size = ⟨(a.drop k).toArray⟩ := by apply ByteArray.ext; simp [ByteArray.size]; exact List.take_of_length_le (by simp)
  simp only [execOp, s.ev hx, s.ev hy, Option.map_some, Option.map_none, run_sliceAt_string w t _ _ _ _ ht.eq, Sem.run_bind, hr, Result.andThen_ok, Sem.run_pure, Int.toNat_natCast, e1]
theorem Q_indexS {a : List UInt8} {q : IntKind} {i : Int} {k : Nat} {b : UInt8} (hx : E.ev x = some (strV a)) (hy : E.ev y = some (.int q i)) (hi : AsNat i k) (ht : Und P t .string) (hb : a[k]? = some b) : OpQ P n w0 ⟨d, .index t x y, ty, pos, after, gu⟩ E H (u8 b) := fun ac w s hs => by
  obtain rfl := hi.eq
  have hk : k < a.length := (List.getElem?_eq_some_iff.1 hb).1
  have hr := run_index_string (P := P) w t ⟨a.toArray⟩ q (k : Int) ht.eq
  have hcond : (0 : Int) ≤ (k : Int) ∧ (k : Int) < ((⟨a.toArray⟩ : ByteArray).size : Nat) := ⟨by omega, by show (k : Int) < (a.length : Nat); omega⟩
  rw [dif_pos hcond] at hr
  have hbb : (⟨a.toArray⟩ : ByteArray)[((k : Int)).toNat]'(by rw [Int.toNat_natCast]; exact hk) = b := by
    rw [← (List.getElem?_eq_some_iff.1 hb).2]
    rfl
  rw [hbb] at hr
  simp only [execOp, s.ev hx, s.ev hy, Sem.run_bind, hr, Result.andThen_ok, Sem.run_pure]
  rfl
/-- A byte stored. -/
theorem H_store8 {t : TypeId} {k : Nat} {b : UInt8} (hx : E.ev x = some (eptr v 1 k 0)) (hy : E.ev y = some u) (hb : AsU8 u b) (hl : RowsOf H v UInt8 e 1 f l F) (hfb : f = byteC) (ht : Scal P t) (hk : k < l.length) :
    OpH P n w0 ⟨none, .store t x y, ty, pos, after, gu⟩ E H (fun _ : Unit => undef) (fun _ => rows e 1 f v (l.set k b) * F) := by
  subst hfb
  obtain rfl := hb.eq
  exact H_storeR (z := l[k]) b hx hy hl ht inferInstance rfl (by simp) rfl
/-- A whole number as a byte. -/
def b8 (m : Int) : UInt8 := UInt8.ofNat (m % 256).toNat
theorem Q_conv8 {m : Int} {k : IntKind} {ds : TypeDesc} (hx : E.ev x = some (.int k m)) (hs : Und P src ds) (hd : Und P dst (.int .u8)) : OpQ P n w0 ⟨d, .convert src dst x, ty, pos, after, gu⟩ E H (u8 (b8 m)) :=
  Q_convI hx hs hd (by
    rw [wrap_u8]
    have h0 := Int.emod_nonneg m (show (256 : Int) ≠ 0 by omega)
    have h1 := Int.emod_lt_of_pos m (show (0 : Int) < 256 by omega)
    simp only [b8, UInt8.toNat_ofNat']
    omega)
theorem Q_convI8 {b : UInt8} (hx : E.ev x = some (u8 b)) {ds : TypeDesc} (hs : Und P src ds) (hd : Und P dst (.int .i64)) : OpQ P n w0 ⟨d, .convert src dst x, ty, pos, after, gu⟩ E H (.int .i64 (b.toNat : Int)) :=
  Q_convI hx hs hd (by have := b.toNat_lt; exact IntWalk.i64_in _ (by omega))
theorem Q_conv328 {b : UInt8} (hx : E.ev x = some (u8 b)) {ds : TypeDesc} (hs : Und P src ds) (hd : Und P dst (.int .u32)) : OpQ P n w0 ⟨d, .convert src dst x, ty, pos, after, gu⟩ E H (u32 b.toUInt32) :=
  Q_convI hx hs hd (by have := b.toNat_lt; rw [wrap_u32]; simp; omega)
theorem Q_convSame {k : IntKind} {m : Int} (hx : E.ev x = some (.int .i64 m)) {ds : TypeDesc} (hs : Und P src ds) (hd : Und P dst (.int .i64)) (hm : -9223372036854775808 ≤ m ∧ m ≤ 9223372036854775807) : OpQ P n w0 ⟨d, .convert src dst x, ty, pos, after, gu⟩ E H (.int .i64 m) :=
  Q_convI hx hs hd (IntWalk.i64_in _ hm)
/-- An element of an array of scalars, by value. -/
theorem Q_indexA {t et : TypeId} {len : Nat} {cs : List Value} {q : IntKind} {i : Int} {k : Nat} {val : Value} (hx : E.ev x = some (.agg cs.toArray)) (hy : E.ev y = some (.int q i)) (hi : AsNat i k) (ht : Und P t (.array len et)) (hs : Scal P et) (hk : k < len) (hv : cs[k]? = some val) : OpQ P n w0 ⟨d, .index t x y, ty, pos, after, gu⟩ E H val := fun a w s hs' => by
  obtain rfl := hi.eq
  have hd := hs.ok
  obtain ⟨dd, hdd⟩ : ∃ dd, P.underlying et = some dd := by
    cases hu : P.underlying et with
    | none => rw [hu] at hd; cases hd
    | some dd => exact ⟨dd, rfl⟩
  rw [hdd] at hd
  have hagg : (isAgg et).run P w = .ok false w := by
    simp only [isAgg, Sem.run_bind, run_underlying hdd, Result.andThen_ok]
    cases dd <;> simp_all [scalarD]
  obtain ⟨ie, hie, his⟩ := Option.map_eq_some_iff.1 hs.size
  have hk2 : (k : Int) < (len : Int) := by omega
  simp [execOp, s.ev hx, s.ev hy, Instr.index, asIntOf, run_underlying ht.eq, hk2, hk, Nat.not_le.2 hk, part, hagg, sizeOf, typeInfo, hie, his, hv]
end bytes
instance eqlS {t : TypeId} {a b : List UInt8} : BinV P .eql t (strV a) (strV b) (.bool (decide (a = b))) := ⟨fun w => by
  have : decide (a = b) = ((⟨a.toArray⟩ : ByteArray).toList == (⟨b.toArray⟩ : ByteArray).toList) := by rw [ByteArray.toList_mk, ByteArray.toList_mk, Bool.eq_iff_iff]; simp
  rw [this]; rfl, fun w _ _ => rfl⟩
instance neqS {t : TypeId} {a b : List UInt8} : BinV P .neq t (strV a) (strV b) (.bool (!decide (a = b))) := ⟨fun w => by
  have : decide (a = b) = ((⟨a.toArray⟩ : ByteArray).toList == (⟨b.toArray⟩ : ByteArray).toList) := by rw [ByteArray.toList_mk, ByteArray.toList_mk, Bool.eq_iff_iff]; simp
  rw [this]; rfl, fun w _ _ => rfl⟩
end Go.Proofs.Ytapoehkdnglahaa
