/- Slices that a call owns, as separating assertions: reading, storing, append from whatever source: no program in sight. -/
import Derived.Test.YtapoehkdnglahaaSL
import Derived.Laws.AppendOwn
import Derived.Laws.Tables
import Derived.Laws.CopyRow
import Derived.OwnWalk
namespace Go.Proofs.Ytapoehkdnglahaa
open Go.RowKit
set_option linter.unusedVariables false
variable {w0 w w' : World} {F : HProp} {P : Program}

def unfrozen (fr : Nat × Nat) (lo hi : Nat) : Prop := ∀ i, lo ≤ i → i < hi → (decide (fr.1 ≤ i) && decide (i < fr.2)) = false
/-- The slice value v of n elements (size cells each, element type e) owns its block, and its elements' cells are xs; a slice without capacity owns nothing. -/
def slc (e : TypeId) (size : Nat) (v : Value) (n : Nat) (xs : List Value) : HProp :=
  ⟨fun h => xs.length = n * size ∧ ((∃ A, v = .slice A 0 0 ∧ n = 0 ∧ ∀ k, h k = none) ∨
    ∃ g off cap cur fr, v = .slice (some ⟨g, off, none⟩) n cap ∧ n ≤ cap ∧ cap ≤ maxLen ∧ off + cap * size ≤ cur.size ∧ (cur.toList.drop off).take (n * size) = xs ∧
      unfrozen fr off (off + cap * size) ∧ h = fun k => if k = g then some (.cells cur e fr) else none)⟩

theorem Sat.slc_nil (h : Sat w0 w F) (e : TypeId) (size : Nat) (A : Option Addr) : Sat w0 w (slc e size (.slice A 0 0) 0 [] * F) := by
  rw [← emp_star (F := F)] at h
  exact h.mono fun x ⟨a, b, hd, he, hp, hq⟩ => ⟨a, b, hd, he, ⟨by simp, .inl ⟨A, rfl, rfl, hp⟩⟩, hq⟩

theorem Sat.slc_mk (e : TypeId) (size n g off cap : Nat) (cur : Array Value) (fr : Nat × Nat) (xs : List Value) (h : Sat w0 w (pts g (.cells cur e fr) * F))
    (hl : xs.length = n * size) (hn : n ≤ cap) (hm : cap ≤ maxLen) (hc : off + cap * size ≤ cur.size) (ht : (cur.toList.drop off).take (n * size) = xs) (hf : unfrozen fr off (off + cap * size)) :
    Sat w0 w (slc e size (.slice (some ⟨g, off, none⟩) n cap) n xs * F) :=
  h.mono fun _ ⟨a, b, hd, he, hp, hq⟩ => ⟨a, b, hd, he, ⟨hl, .inr ⟨g, off, cap, cur, fr, rfl, hn, hm, hc, ht, hf, hp⟩⟩, hq⟩

theorem Sat.slc_cases {e : TypeId} {size : Nat} {v : Value} {n : Nat} {xs : List Value} (h : Sat w0 w (slc e size v n xs * F)) :
    xs.length = n * size ∧ ((∃ A, v = .slice A 0 0 ∧ n = 0 ∧ Sat w0 w F) ∨
      ∃ g off cap cur fr, v = .slice (some ⟨g, off, none⟩) n cap ∧ n ≤ cap ∧ cap ≤ maxLen ∧ off + cap * size ≤ cur.size ∧ (cur.toList.drop off).take (n * size) = xs ∧
        unfrozen fr off (off + cap * size) ∧ Sat w0 w (pts g (.cells cur e fr) * F)) := by
  obtain ⟨x, ⟨a, b, hd, he, ⟨hl, hp⟩, hq⟩, hk⟩ := h.heap
  refine ⟨hl, ?_⟩
  rcases hp with ⟨A, rfl, rfl, hn⟩ | ⟨g, off, cap, cur, fr, rfl, hn, hm, hc, ht, hf, hp⟩
  · exact .inl ⟨A, rfl, rfl, h.drop⟩
  · exact .inr ⟨g, off, cap, cur, fr, rfl, hn, hm, hc, ht, hf, h.os, h.tape, h.output, x, ⟨a, b, hd, he, hp, hq⟩, hk⟩

theorem Sat.slc_form {e : TypeId} {size : Nat} {v : Value} {n : Nat} {xs : List Value} (h : Sat w0 w (slc e size v n xs * F)) : ∃ A c, v = .slice A n c := by
  obtain ⟨_, ⟨A, rfl, rfl, _⟩ | ⟨g, off, cap, _, _, rfl, _⟩⟩ := h.slc_cases
  · exact ⟨_, _, rfl⟩
  · exact ⟨_, _, rfl⟩
def sliceLen : Value → Nat
  | .slice _ n _ => n
  | _ => 0
theorem add_lit (g off j : Nat) : (⟨g, off, none⟩ : Addr).add j = ⟨g, off + j, none⟩ := by unfold Addr.add; split <;> simp_all

theorem slc_at {cur : Array Value} {off k j : Nat} {xs : List Value} {u : Value} (ht : (cur.toList.drop off).take k = xs) (hu : xs[j]? = some u) : cur[off + j]? = some u := by
  rw [← ht, List.getElem?_take] at hu
  split at hu
  · rw [List.getElem?_drop] at hu; simpa using hu
  · cases hu

/-- Its cells, read. -/
theorem Sat.slc_cell {e : TypeId} {size : Nat} {v : Value} {n : Nat} {xs : List Value} (h : Sat w0 w (slc e size v n xs * F)) (hn : xs ≠ []) :
    ∃ g off cap, v = .slice (some ⟨g, off, none⟩) n cap ∧ n ≤ cap ∧ cap ≤ maxLen ∧ (∀ j u, xs[j]? = some u → w.cell? ⟨g, off + j, none⟩ = some u ∧ w.frozen? ⟨g, off + j, none⟩ = false) := by
  obtain ⟨hl, ⟨A, rfl, rfl, _⟩ | ⟨g, off, cap, cur, fr, rfl, hn, hm, hc, ht, hf, hs⟩⟩ := h.slc_cases
  · exact absurd (List.eq_nil_of_length_eq_zero (by simpa using hl)) hn
  · refine ⟨g, off, cap, rfl, hn, hm, fun j u hu => ?_⟩
    have hg := hs.at_
    have hj : j < n * size := by rw [← hl]; exact (List.getElem?_eq_some_iff.1 hu).1
    have hle : n * size ≤ cap * size := Nat.mul_le_mul_right _ hn
    exact ⟨by simp [World.cell?, hg, slc_at ht hu], by have := hf (off + j) (by omega) (by omega); simpa [World.frozen?, hg] using this⟩

theorem Sat.slc_get {e : TypeId} {size g off n cap : Nat} {xs : List Value} (h : Sat w0 w (slc e size (.slice (some ⟨g, off, none⟩) n cap) n xs * F)) (j : Nat) (u : Value) (hu : xs[j]? = some u) :
    w.cell? ⟨g, off + j, none⟩ = some u ∧ w.frozen? ⟨g, off + j, none⟩ = false := by
  obtain ⟨g', off', cap', hv, _, _, hc⟩ := h.slc_cell (by rintro rfl; simp at hu)
  injection hv with h1 _ _
  injection h1 with h1
  injection h1 with h1 h2
  subst h1; subst h2
  exact hc j u hu
/-- One cell stored. -/
theorem Sat.slc_set {e : TypeId} {size g off n cap : Nat} {xs : List Value} (h : Sat w0 w (slc e size (.slice (some ⟨g, off, none⟩) n cap) n xs * F)) (j : Nat) (hj : j < n * size) (v : Value) :
    Sat w0 (w.setCell ⟨g, off + j, none⟩ v) (slc e size (.slice (some ⟨g, off, none⟩) n cap) n (xs.set j v) * F) := by
  obtain ⟨hl, ⟨A, hv, rfl, _⟩ | ⟨g', off', cap', cur, fr, hv, hn, hm, hc, ht, hf, hs⟩⟩ := h.slc_cases
  · omega
  · injection hv with h1 _ h3
    injection h1 with h1
    injection h1 with h1 h2
    subst h1; subst h2; subst h3
    have hle : n * size ≤ cap * size := Nat.mul_le_mul_right _ hn
    refine Sat.slc_mk e size n g off cap (cur.setIfInBounds (off + j) v) fr _ ?_ (by simpa using hl) hn hm (by simpa using hc) ?_ hf
    · refine Sat.put hs rfl rfl rfl ?_ fun k _ hne => Below.heap_setCell w ⟨g, off + j, none⟩ v k hne
      have hg := hs.at_
      simp [World.setCell, Array.getElem?_modify, hg]
    · subst ht
      rw [Array.toList_setIfInBounds, List.drop_set, if_neg (by omega), show off + j - off = j by omega, List.take_set]
/-- A whole new block as a slice. -/
theorem Sat.slc_new {g : Nat} {t : TypeId} {cs : Array Value} {xs : List Value} (size n : Nat) (h : Sat w0 w (blk g t cs * F)) (he : cs.toList = xs) (hl : xs.length = n * size) (hm : n ≤ maxLen) : Sat w0 w (slc t size (.slice (some ⟨g, 0, none⟩) n n) n xs * F) := by
  subst he
  refine Sat.slc_mk t size n g 0 n cs (0, 0) _ h hl (Nat.le_refl _) hm (by simp at hl; omega) ?_ ?_
  · rw [← hl, List.drop_zero, List.take_length]
  · intro i _ _; simp

/-- What append takes behind it: m elements, the cells news. -/
structure Src (P : Program) (w : World) (size m : Nat) (x : Value) (news : List Value) : Prop where
  len : Builtin.lenOf x = pure m
  length : news.length = m * size
  cells : ∀ w' : World, w'.heap = w.heap → (Builtin.firstCells size m x).run P w' = .ok news.toArray w'

theorem Src.slice (size m c : Nat) (a : Addr) (news : List Value) (hl : news.length = m * size) (h : ∀ j u, news[j]? = some u → w.cell? (a.add j) = some u) :
    Src P w size m (.slice (some a) m c) news :=
  ⟨rfl, hl, fun w' hw => run_firstCells_some w' size m a m c news hl fun j u hu => (World.cell?_of_block (by rw [hw])).trans (h j u hu)⟩
theorem Src.nil (size c : Nat) : Src P w size 0 (.slice none 0 c) [] := ⟨rfl, by simp, fun w' _ => run_firstCells_none w' size 0 0 c⟩
theorem Src.string (s : ByteArray) : Src P w 1 s.size (.string s) (s.data.toList.map fun b => .int .u8 b.toNat) :=
  ⟨rfl, by simp, fun w' _ => by
    have hx : (s.extract 0 s.size) = s := by simp
    simp only [Builtin.firstCells, hx, Sem.run_pure]
    congr 1
    apply Array.ext'
    simp⟩
theorem Src.nothing (size c : Nat) (A : Option Addr) : Src P w size 0 (.slice A 0 c) [] := by
  cases A with
  | none => exact Src.nil size c
  | some a => exact Src.slice size 0 c a [] (by simp) (by simp)
theorem Src.row {A : Option Addr} {size n cap g off : Nat} {xs : List Value} (hs : 0 < size) (hl : xs.length = n * size) (hA : xs ≠ [] → A = some ⟨g, off, none⟩) (hc : ∀ j u, xs[j]? = some u → w.cell? ⟨g, off + j, none⟩ = some u) : Src P w size n (.slice A n cap) xs := by
  by_cases hx : xs = []
  · subst hx
    have : n = 0 := by
      rcases Nat.eq_zero_or_pos n with h | h
      · exact h
      · have := Nat.mul_pos h hs; simp at hl; omega
    subst this
    exact Src.nothing size cap A
  · rw [hA hx]
    exact Src.slice size n cap _ xs hl fun j u hu => by rw [add_lit]; exact hc j u hu
/-- A slice that the call owns is a source too; a whole block. -/
theorem Src.new {g : Nat} {t : TypeId} {cs : Array Value} {xs : List Value} (he : cs.toList = xs) (size m c : Nat) (h : Sat w0 w (blk g t cs * F)) (hl : xs.length = m * size) : Src P w size m (.slice (some ⟨g, 0, none⟩) m c) xs :=
  Src.slice size m c _ _ hl fun j u hu => by
    subst he
    rw [add_lit, h.cell]
    simpa using hu
theorem Src.own {e : TypeId} {size : Nat} {v : Value} {n : Nat} {xs : List Value} (h : Sat w0 w (slc e size v n xs * F)) : Src P w size n v xs := by
  obtain ⟨hl, ⟨A, rfl, rfl, _⟩ | ⟨g, off, cap, cur, fr, rfl, hn, hm, hc, ht, hf, hs⟩⟩ := h.slc_cases
  · obtain rfl : xs = [] := List.eq_nil_of_length_eq_zero (by simpa using hl)
    exact Src.nothing size 0 A
  · refine Src.slice size n cap _ xs hl fun j u hu => ?_
    rw [add_lit]
    have hg := hs.at_
    simp [World.cell?, hg, slc_at ht hu]

/-- A row of stores inside one block. -/
theorem run_storeCells_fr (g o : Nat) (t : TypeId) (fr : Nat × Nat) : ∀ (vs : List Value) (i : Nat) (cur : Array Value) (w : World), w.heap[g]? = some (.cells cur t fr) → o + i + vs.length ≤ cur.size → (∀ v ∈ vs, v.oneCell' = true) →
    unfrozen fr (o + i) (o + i + vs.length) →
    (storeCells ⟨g, o, none⟩ vs i).run P w = .ok () (w.setRow g (cur.toList.take (o + i) ++ vs ++ cur.toList.drop (o + i + vs.length)).toArray)
  | [], i, cur, w, hg, _, _, _ => by
    simp only [storeCells, List.append_nil, List.length_nil, Nat.add_zero, List.take_append_drop, Array.toArray_toList]
    rw [setRow_self w g cur t fr hg]
    rfl
  | v :: rest, i, cur, w, hg, hl, h1, hf => by
    have hi : o + i < cur.size := by simp at hl; omega
    have hadd : (⟨g, o, none⟩ : Addr).add i = ⟨g, o + i, none⟩ := add_lit g o i
    have hcell : w.cell? ⟨g, o + i, none⟩ = some cur[o + i] := by simp [World.cell?, hg, hi]
    have hfro : w.frozen? ⟨g, o + i, none⟩ = false := by
      have := hf (o + i) (by omega) (by simp)
      simpa [World.frozen?, hg] using this
    have hst : (store ((⟨g, o, none⟩ : Addr).add i) v).run P w = .ok () (w.setRow g (cur.setIfInBounds (o + i) v)) := by
      rw [hadd, run_store P w _ v _ (h1 v (by simp)), hcell]
      simp [hfro, setCell_eq_setRow w g (o + i) cur t fr v hg]
    have ih := run_storeCells_fr g o t fr rest (i + 1) (cur.setIfInBounds (o + i) v) (w.setRow g (cur.setIfInBounds (o + i) v)) (setRow_heap w g cur _ t _ hg) (by simp at hl ⊢; omega) (fun x hx => h1 x (by simp [hx]))
      (fun k hk1 hk2 => hf k (by omega) (by simp; omega))
    simp only [storeCells, Sem.run_bind, hst, Result.andThen]
    rw [ih]
    congr 1
    rw [setRow_setRow]
    congr 1
    apply Array.ext'
    apply List.ext_getElem?
    intro j
    simp only [Array.toList_setIfInBounds, List.length_cons]
    rw [List.getElem?_append, List.getElem?_append, List.getElem?_append, List.getElem?_append]
    simp only [List.length_append, List.length_take, List.length_set, Array.length_toList, List.getElem?_take, List.getElem?_drop, List.length_cons, List.getElem?_set]
    have e1 : min (o + (i + 1)) cur.size = o + i + 1 := by omega
    have e2 : min (o + i) cur.size = o + i := by omega
    rw [e1, e2]
    by_cases c1 : j < o + i
    · simp [c1, show j < o + i + 1 by omega, show j < o + i + 1 + rest.length by omega, show j < o + i + (rest.length + 1) by omega, show ¬ (o + i = j) by omega, show j < o + (i + 1) by omega]
    · by_cases c2 : j = o + i
      · subst c2
        simp [show o + i < o + (i + 1) by omega, show o + i < o + i + 1 + rest.length by omega, hi]
      · by_cases c3 : j < o + i + 1 + rest.length
        · have : j - (o + i) = (j - (o + i + 1)) + 1 := by omega
          simp [show ¬ j < o + i + 1 by omega, c1, show j < o + i + (rest.length + 1) by omega, c3, this]
        · simp [show ¬ j < o + i + (rest.length + 1) by omega, c3, show ¬ (o + i = o + (i + 1) + rest.length + (j - (o + i + 1 + rest.length))) by omega]
          congr 1
          omega

section append
variable (P) (t t2 ty e : TypeId) (i : TypeInfo) (z : Value) (size bytes : Nat)

theorem take_drop_mid {xs ys : List Value} {cur : List Value} {off k m : Nat} (ht : (cur.drop off).take k = xs) (hk : off + k + ys.length ≤ cur.length) (hx : xs.length = k) (hm : m = k + ys.length) :
    ((cur.take (off + k) ++ ys ++ cur.drop (off + k + ys.length)).drop off).take m = xs ++ ys := by
  subst hm
  have h1 : (cur.take (off + k)).drop off = xs := by rw [List.drop_take, ← ht]; congr 1; omega
  rw [List.append_assoc, List.drop_append_of_le_length (by simp; omega), h1, ← List.append_assoc, List.take_append_of_le_length (by simp; omega)]
  exact List.take_of_length_le (by simp; omega)

theorem run_append_sl (ht : P.underlying t = some (.slice e)) (h2 : P.underlying t2 = some (.slice e) ∨ P.underlying t2 = some .string) (hi : P.info? e = some i) (hz : i.zero = some z)
    (hsize : i.size = size) (hby : i.bytes = bytes) (hzs : z.cells.size = size) (hsz : 0 < size)
    (v : Value) (n : Nat) (xs : List Value) (h : Sat w0 w (slc e size v n xs * F)) (m : Nat) (x : Value) (news : List Value) (src : Src P w size m x news) (h1 : ∀ u ∈ news, u.oneCell' = true)
    (h63 : n + m ≤ maxLen) (hbytes : (n + m) * bytes ≤ 140737488355328) :
    ∃ v' w', (Builtin.append_ #[t, t2] ty #[v, x]).run P w = .ok v' w' ∧ Sat w0 w' (slc e size v' (n + m) (xs ++ news) * F) := by
  subst hsize
  subst hby
  obtain ⟨hl, hc⟩ := h.slc_cases
  have hlen : (xs ++ news).length = (n + m) * i.size := by rw [List.length_append, hl, src.length, Nat.add_mul]
  have hx0 := src.len
  have grow : ∀ (old : Nat) (A : Option Addr), old < n + m → v = .slice A n old → (∀ w' : World, w'.heap = w.heap → (Builtin.firstCells i.size n v).run P w' = .ok xs.toArray w') → Sat w0 w F →
      ∃ v' w', (Builtin.append_ #[t, t2] ty #[v, x]).run P w = .ok v' w' ∧ Sat w0 w' (slc e i.size v' (n + m) (xs ++ news) * F) := by
    intro old A ho hv hold hF
    subst hv
    have hge := grownCap_ge w (n + m) old e
    have hcm : grownCap w (n + m) old e ≤ maxLen := grownCap_le_maxLen w (n + m) old e h63
    have hn : ¬ (n + m ≤ old) := by omega
    have h63' : ¬ (9223372036854775807 < ((n : Int) + (m : Int))) := by simp only [maxLen] at h63; omega
    have hfit := growslice_fits ho hbytes
    have h48' : ¬ (281474976710656 < Builtin.nextslicecap (n + m) old * i.bytes) := by omega
    have hf := src.cells w.drew rfl
    have hfo := hold w.drew rfl
    have hcell : (w.drew.alloc (.cells (xs.toArray ++ news.toArray ++ Builtin.zeroCells z.cells (grownCap w (n + m) old e - (n + m))) e)) = w.drew.alloc (.cells (xs.toArray ++ news.toArray ++ Builtin.zeroCells z.cells (grownCap w (n + m) old e - (n + m))) e) := rfl
    refine ⟨.slice (some ⟨w.heap.size, 0, none⟩) (n + m) (grownCap w (n + m) old e), w.drew.alloc (.cells (xs.toArray ++ news.toArray ++ Builtin.zeroCells z.cells (grownCap w (n + m) old e - (n + m))) e), ?_, ?_⟩
    · unfold Builtin.append_
      rcases h2 with hu | hu <;> simp [run_underlying ht, run_underlying hu, sizeOf, typeInfo, zeroValue, hi, hz, hx0, hn, h63', h48', Question.forced, hf, hfo, newRow, grownCap] <;> (congr 2; apply Array.ext'; simp [List.append_assoc])
    · refine Sat.slc_mk e i.size (n + m) w.heap.size 0 _ _ (0, 0) _ (hF.drew.alloc _) hlen hge hcm ?_ ?_ ?_
      · simp only [Array.size_append, List.size_toArray, size_zeroCells, hzs, hl, src.length, Nat.zero_add]
        rw [← Nat.add_mul, ← Nat.add_mul]
        exact Nat.mul_le_mul_right _ (by omega)
      · simp only [Array.toList_append, List.append_assoc, List.drop_zero]
        rw [← List.append_assoc, ← hlen]
        exact List.take_left
      · intro k _ _
        simp
  rcases hc with ⟨A, rfl, rfl, hF⟩ | ⟨g, off, cap, cur, fr, rfl, hnc, hm, hcs, htake, hfr, hs⟩
  · have hx : xs = [] := List.eq_nil_of_length_eq_zero (by simpa using hl)
    subst hx
    by_cases hm : m = 0
    · subst hm
      have hn : news = [] := List.eq_nil_of_length_eq_zero (by simpa using src.length)
      subst hn
      refine ⟨.slice A 0 0, w, ?_, by simpa using hF.slc_nil e i.size A⟩
      have hf := src.cells w rfl
      unfold Builtin.append_
      rcases h2 with hu | hu <;> cases A <;> simp [run_underlying ht, run_underlying hu, sizeOf, typeInfo, hi, hx0, hf, storeCells]
    · exact grow 0 A (by omega) rfl (fun w' hw' => by cases A <;> simp [Builtin.firstCells, loadCells, loadCellsFrom]) hF
  · by_cases hroom : n + m ≤ cap
    · have hle : (n + m) * i.size ≤ cap * i.size := Nat.mul_le_mul_right _ hroom
      have hfit : off + n * i.size + news.length ≤ cur.size := by rw [src.length]; rw [Nat.add_mul] at hle; omega
      have hst := run_storeCells_fr (P := P) g (off + n * i.size) e fr news 0 cur w hs.at_ (by omega) h1 (fun k hk1 hk2 => hfr k (by omega) (by rw [src.length] at hk2; rw [Nat.add_mul] at hle; omega))
      simp only [Nat.add_zero] at hst
      refine ⟨.slice (some ⟨g, off, none⟩) (n + m) cap, w.setRow g (cur.toList.take (off + n * i.size) ++ news ++ cur.toList.drop (off + n * i.size + news.length)).toArray, ?_, ?_⟩
      · have hf := src.cells w rfl
        unfold Builtin.append_
        rcases h2 with hu | hu <;> simp [run_underlying ht, run_underlying hu, sizeOf, typeInfo, hi, hx0, hroom, hf, add_lit, hst]
      · refine Sat.slc_mk e i.size (n + m) g off cap (cur.toList.take (off + n * i.size) ++ news ++ cur.toList.drop (off + n * i.size + news.length)).toArray fr _ ?_ hlen hroom hm ?_ ?_ hfr
        · exact Sat.put hs rfl rfl rfl (setRow_heap w g cur _ e fr hs.at_) fun k _ hk => setRow_other w g k _ hk
        · simp only [List.size_toArray, List.length_append, List.length_take, List.length_drop, Array.length_toList]
          omega
        · exact take_drop_mid htake (by simpa using hfit) hl (by rw [src.length, Nat.add_mul])
    · exact grow cap (some ⟨g, off, none⟩) (by omega) rfl (fun w' hw' => (Src.own (P := P) h).cells w' hw') hs.drop

end append

/-- A slice type and its element's type, as the program has them. -/
structure SlT (P : Program) (t e : TypeId) (size bytes : Nat) : Prop where
  ht : P.underlying t = some (.slice e)
  info : ∃ i z, P.info? e = some i ∧ i.zero = some z ∧ i.size = size ∧ i.bytes = bytes ∧ z.cells.size = size
  pos : 0 < size
theorem SlT.of {t e size bytes : Nat} {z : Value} (ht : P.underlying t = some (.slice e)) (h : (P.info? e).map (fun i => (i.zero, i.size, i.bytes)) = some (some z, size, bytes)) (hz : z.cells.size = size) (hp : 0 < size) : SlT P t e size bytes := by
  obtain ⟨i, hi, h1, h2, h3⟩ := info_parts h
  exact ⟨ht, ⟨i, z, hi, h1, h2, h3, hz⟩, hp⟩

section
variable {t e size bytes : Nat} {ops : Array Oper} {rest : List Oper} {o : Oper} {a : Act} {K : Act → World → Prop} {Q : Exit → Act → World → Prop} {v xv : Value} {n m : Nat} {xs news : List Value}

theorem wp_append_sl (T : SlT P t e size bytes) {t2 : TypeId} (h2 : P.underlying t2 = some (.slice e) ∨ P.underlying t2 = some .string) (s x : Operand)
    (ho : o.op = .call { callee := .builtin .append, args := #[s, x], argTypes := #[t, t2] })
    (hS : Sat w0 w (slc e size v n xs * F)) (hs : a.eval s = v) (hx : a.eval x = xv) (src : Src P w size m xv news) (h1 : ∀ u ∈ news, u.oneCell' = true)
    (h63 : n + m ≤ maxLen) (hbytes : (n + m) * bytes ≤ 140737488355328)
    (h : ∀ v' w', Sat w0 w' (slc e size v' (n + m) (xs ++ news) * F) → K (a.put o.dst v') w') : o.wp P a w K Q := by
  obtain ⟨i, z, hi, hz, hsize, hby, hzs⟩ := T.info
  obtain ⟨v', w', hr, hS'⟩ := run_append_sl P t t2 o.type e i z size bytes T.ht h2 hi hz hsize hby hzs T.pos v n xs hS m xv news src h1 h63 hbytes
  unfold Oper.wp execOp
  simp only [ho, resolve, invoke, builtin, Sem.run_bind, Sem.run_pure, Result.andThen_ok, List.map_toArray, List.map_cons, List.map_nil, hs, hx, hr]
  exact h v' w' hS'
/-- 'append(s, x...)' and 'append(s, ..)', wherever it stands by itself. -/
theorem wpList_append_sl (T : SlT P t e size bytes) (hS : Sat w0 w (slc e size v n xs * F)) (src : Src P w size m xv news) (h1 : ∀ u ∈ news, u.oneCell' = true)
    (h63 : n + m ≤ maxLen) (hbytes : (n + m) * bytes ≤ 140737488355328) (s x : Operand) (hgd : o.guard = none)
    (ho : o.op = .call { callee := .builtin .append, args := #[s, x], argTypes := #[t, t] }) (hs : a.eval s = v) (hx : a.eval x = xv)
    (h : ∀ v' w', Sat w0 w' (slc e size v' (n + m) (xs ++ news) * F) → wpList P ops Q rest (a.put o.dst v') w') : wpList P ops Q (o :: rest) a w :=
  wpList_plain hgd fun _ hK => wp_append_sl T (.inl T.ht) s x ho hS hs hx src h1 h63 hbytes fun v' w' h' => hK _ _ (h v' w' h')
/-- 'append(s, x...)' of a string's bytes. -/
theorem wpList_append_str (T : SlT P t e size bytes) {t2 : TypeId} (h2 : P.underlying t2 = some .string) (hS : Sat w0 w (slc e size v n xs * F)) (src : Src P w size m xv news) (h1 : ∀ u ∈ news, u.oneCell' = true)
    (h63 : n + m ≤ maxLen) (hbytes : (n + m) * bytes ≤ 140737488355328) (s x : Operand) (hgd : o.guard = none)
    (ho : o.op = .call { callee := .builtin .append, args := #[s, x], argTypes := #[t, t2] }) (hs : a.eval s = v) (hx : a.eval x = xv)
    (h : ∀ v' w', Sat w0 w' (slc e size v' (n + m) (xs ++ news) * F) → wpList P ops Q rest (a.put o.dst v') w') : wpList P ops Q (o :: rest) a w :=
  wpList_plain hgd fun _ hK => wp_append_sl T (.inr h2) s x ho hS hs hx src h1 h63 hbytes fun v' w' h' => hK _ _ (h v' w' h')
end
end Go.Proofs.Ytapoehkdnglahaa
