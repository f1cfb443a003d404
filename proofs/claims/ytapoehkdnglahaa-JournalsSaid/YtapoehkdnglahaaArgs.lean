/- How arguments are opened, and how a law's row closes: of no program but for the numbers of types. -/
import Derived.Test.YtapoehkdnglahaaRows
import Derived.Test.YtapoehkdnglahaaSlc
import Derived.Test.YtapoehkdnglahaaWireP
import Derived.ProofKit
import Derived.OpenShut
import Derived.Deep.Slices
import Derived.Deep.Fields
namespace Go.Proofs.Ytapoehkdnglahaa
open Go.ChangeShapes Go.WideShapes Go.ChangeAt Go.RowKit Go.Deep
set_option linter.unusedVariables false
section
variable {H : Type} {enc : TypeId × Value → H} {P : Program} {w : World} {base : Nat} {spare : Nat → Bool} {held : Bool}

/-- A slice whose elements decode: its elements as a list, their cells in one row. -/
theorem open_rows {α : Type} (f : α → List Value) {size : Nat} (hf : ∀ x, (f x).length = size) (hp : 0 < size) {t e : TypeId} {fuel : Nat} {cs : List Value} {x : DataW H × List MemPlace} (ht : P.underlying t = some (.slice e)) (hC : P.cellsOf e = size)
    (hdec : ∀ (n : Nat) (c : List Value) (y : DataW H × List MemPlace), DataW.trod enc P w base spare held n e c = some y → ∃ r, c = f r) (h : DataW.trod enc P w base spare held fuel t cs = some x) :
    ∃ (A : Option Addr) (l : List α) (cap g off : Nat), cs = [.slice A l.length cap] ∧ l.length ≤ cap ∧ cap ≤ maxLen ∧ (l.flatMap f ≠ [] → A = some ⟨g, off, none⟩) ∧ ∀ j u, (l.flatMap f)[j]? = some u → w.cell? ⟨g, off + j, none⟩ = some u := by
  rcases open_slice ht h with ⟨rfl, _⟩ | ⟨a, len, cap, m, n, D, Pl, rfl, hb, hl, hm, hmm, hx, hi⟩
  · exact ⟨none, [], 0, 0, 0, rfl, Nat.le_refl _, Nat.zero_le _, by simp, by simp⟩
  · have hlm : len ≤ m := by rw [hmm]; split <;> omega
    have key : ∀ i, i < len → ∃ r : α, ∀ j u, (f r)[j]? = some u → w.cell? (a.add (i * size + j)) = some u := by
      intro i hi'
      obtain ⟨c, hc, ht'⟩ := hi i (by omega)
      obtain ⟨r, rfl⟩ := hdec _ _ _ ht'
      rw [hC] at hc
      obtain ⟨_, _, hat⟩ := World.cells?_some hc
      refine ⟨r, fun j u hu => ?_⟩
      have hj : j < size := by rw [← hf r]; exact (List.getElem?_eq_some_iff.1 hu).1
      rw [← Go.Deep.add_add, hat j hj, hu]
    have build : ∀ k, k ≤ len → ∃ l : List α, l.length = k ∧ ∀ j u, (l.flatMap f)[j]? = some u → w.cell? (a.add j) = some u := by
      intro k
      induction k with
      | zero => intro _; exact ⟨[], rfl, by simp⟩
      | succ k ih =>
        intro hk
        obtain ⟨l, hll, hlc⟩ := ih (by omega)
        obtain ⟨r, hr⟩ := key k (by omega)
        have hfl : (l.flatMap f).length = k * size := by
          clear hlc
          induction l generalizing k with
          | nil => simp at hll; subst hll; simp
          | cons y l ih2 =>
            obtain ⟨k, rfl⟩ : ∃ k', k = k' + 1 := ⟨l.length, by simpa using hll.symm⟩
            have e : ∀ l' : List α, (l'.flatMap f).length = l'.length * size := by
              intro l'
              induction l' with
              | nil => simp
              | cons z l' ih3 => simp [ih3, hf, Nat.succ_mul]; omega
            rw [e, hll]
        refine ⟨l ++ [r], by simp [hll], fun j u hu => ?_⟩
        rw [List.flatMap_append, List.getElem?_append] at hu
        split at hu
        · exact hlc j u hu
        · rename_i hge
          have := hr (j - (l.flatMap f).length) u (by simpa using hu)
          rwa [← hfl, Nat.add_sub_cancel' (by omega)] at this
    obtain ⟨l, hll, hlc⟩ := build len (Nat.le_refl _)
    subst hll
    by_cases hne : l.flatMap f = []
    · exact ⟨some a, l, cap, 0, 0, rfl, hl, hm, fun hh => absurd hne hh, fun j u hu => by rw [hne] at hu; simp at hu⟩
    · obtain ⟨u0, hu0⟩ : ∃ u, (l.flatMap f)[0]? = some u := by
        cases hq : l.flatMap f with
        | nil => exact absurd hq hne
        | cons q qs => exact ⟨q, rfl⟩
      have h0 := hlc 0 u0 hu0
      have hspot : a = ⟨a.block, a.off, none⟩ := by
        obtain ⟨b, o, s⟩ := a
        cases s with
        | none => rfl
        | some s => simp [World.cell?, Addr.add] at h0; split at h0 <;> simp at h0
      refine ⟨some a, l, cap, a.block, a.off, rfl, hl, hm, fun _ => by rw [← hspot], fun j u hu => ?_⟩
      have := hlc j u hu
      rw [hspot, add_lit] at this
      exact this
theorem wf_u32 {n : Int} (h : (Lit.int .u32 n).wf = true) : ∃ k : UInt32, n = (k.toNat : Int) := by
  have hb : 0 ≤ n ∧ n ≤ 4294967295 := by simpa [Lit.wf, IntKind.min, IntKind.max, IntKind.signed, IntKind.bits] using h
  exact ⟨UInt32.ofNat n.toNat, by rw [UInt32.toNat_ofNat']; omega⟩
theorem wf_u64 {n : Int} (h : (Lit.int .u64 n).wf = true) : ∃ k : UInt64, n = (k.toNat : Int) := by
  have hb : 0 ≤ n ∧ n ≤ 18446744073709551615 := by simpa [Lit.wf, IntKind.min, IntKind.max, IntKind.signed, IntKind.bits] using h
  exact ⟨UInt64.ofNat n.toNat, by rw [UInt64.toNat_ofNat']; omega⟩
theorem wf_i64 {n : Int} (h : (Lit.int .i64 n).wf = true) : -9223372036854775808 ≤ n ∧ n ≤ 9223372036854775807 := by
  simpa [Lit.wf, IntKind.min, IntKind.max, IntKind.signed, IntKind.bits] using h
/-- A struct's fields, one cell each, in their order. -/
theorem struct_cells {t : TypeId} {fs : Array Field} {fuel : Nat} {c : List Value} {y : DataW H × List MemPlace} (hs : P.underlying t = some (.struct fs)) (hone : oneCellFields P fs = true) (hC : P.cellsOf t = fs.size)
    (h : DataW.trod enc P w base spare held fuel t c = some y) :
    c.length = fs.size ∧ ∃ (ys : List (DataW H × List MemPlace)) (n : Nat), y = (.agg (ys.map (·.1)), ys.flatMap (·.2)) ∧ ys.length = fs.size ∧ ∀ (j : Nat) (f : Field), fs[j]? = some f → ∃ v y', c[j]? = some v ∧ ys[j]? = some y' ∧ DataW.trod enc P w base spare held n f.type [v] = some y' := by
  obtain ⟨ys, n, _, hy, hlen, hyl, hf⟩ := DataW.trod_struct hs h
  refine ⟨hlen.trans hC, ys, n, hy, hyl, fun j f hj => ?_⟩
  obtain ⟨ho, hk⟩ := hone_of hone j f hj
  have hjl : j < fs.size := (Array.getElem?_eq_some_iff.1 hj).1
  have hjc : j < c.length := by rw [hlen, hC]; exact hjl
  have h1 := hf j f hj
  rw [ho, hk] at h1
  have hone' : (c.drop j).take 1 = [c[j]] := by
    rw [List.drop_eq_getElem_cons hjc]; rfl
  rw [hone'] at h1
  have hys : ys[j]? = some (ys[j]'(by omega)) := List.getElem?_eq_getElem (by omega)
  exact ⟨c[j], _, List.getElem?_eq_getElem hjc, hys, h1.trans hys⟩
end
theorem laid : laidOutB Try.prog = true := by kernel_rfl
theorem knob : ownKnob Try.prog.godebug = none := by kernel_rfl
/-- A record out of its three cells. -/
theorem dec_rec {H : Type} {enc : TypeId × Value → H} {w : World} {base : Nat} {spare : Nat → Bool} {held : Bool} (n : Nat) (c : List Value) (y : DataW H × List MemPlace)
    (h : DataW.trod enc Try.prog w base spare held n 28 c = some y) : ∃ r : Rec, c = r.cells := by
  obtain ⟨hl, ys, m, _, _, hf⟩ := struct_cells Try.underlying28 (by kernel_rfl) (by kernel_rfl) h
  obtain ⟨v0, y0, e0, _, t0⟩ := hf 0 _ rfl
  obtain ⟨v1, y1, e1, _, t1⟩ := hf 1 _ rfl
  obtain ⟨v2, y2, e2, _, t2⟩ := hf 2 _ rfl
  obtain ⟨a, q0, _⟩ := DataW.trod_bool Try.underlying4 t0
  obtain ⟨b, q1, _, wb⟩ := DataW.trod_int Try.underlying26 t1
  obtain ⟨s, q2, _, ws⟩ := DataW.trod_int Try.underlying26 t2
  obtain ⟨b, rfl⟩ := wf_u32 wb
  obtain ⟨s, rfl⟩ := wf_u32 ws
  simp only [List.cons.injEq, and_true] at q0 q1 q2
  subst q0; subst q1; subst q2
  refine ⟨⟨a, b, s⟩, ?_⟩
  match c, hl with
  | [c0, c1, c2], _ =>
    simp at e0 e1 e2
    subst e0; subst e1; subst e2; rfl
end Go.Proofs.Ytapoehkdnglahaa
