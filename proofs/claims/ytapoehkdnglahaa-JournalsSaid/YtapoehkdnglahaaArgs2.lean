/- How arguments read as data of Lean: by type; how a law's row closes. -/
import Derived.Test.YtapoehkdnglahaaArgs
import Derived.Test.YtapoehkdnglahaaSub
import Derived.Test.YtapoehkdnglahaaPk
namespace Go.Proofs.Ytapoehkdnglahaa
open Go.ChangeShapes Go.WideShapes Go.ChangeAt Go.RowKit Go.Deep
set_option linter.unusedVariables false
/-- What decodes at type t is some a, its cells f a; ok: what holds of it in that memory. -/
def Dec (t : TypeId) {α : Type} (f : α → List Value) (ok : World → α → Prop) : Prop :=
  ∀ {H : Type} {enc : TypeId × Value → H} {w : World} {base : Nat} {spare : Nat → Bool} {held : Bool} {n : Nat} {c : List Value} {y : DataW H × List MemPlace}, DataW.trod enc Try.prog w base spare held n t c = some y → ∃ a, c = f a ∧ ok w a
def i64C (n : Int) : List Value := [.int .i64 n]
def u32C (x : UInt32) : List Value := [u32 x]
def u64C (x : UInt64) : List Value := [u64 x]
def boolC (b : Bool) : List Value := [.bool b]
def strC (l : List UInt8) : List Value := [strV l]
instance : FixLen i64C 1 := ⟨fun _ => rfl⟩
instance : FixLen u32C 1 := ⟨fun _ => rfl⟩
instance : FixLen u64C 1 := ⟨fun _ => rfl⟩
instance : FixLen boolC 1 := ⟨fun _ => rfl⟩
instance : FixLen strC 1 := ⟨fun _ => rfl⟩
theorem dec_i64 {t : TypeId} (ht : Try.prog.underlying t = some (.int .i64)) : Dec t i64C (fun _ n => i64R n) := fun h => by
  obtain ⟨n, rfl, _, hw⟩ := DataW.trod_int ht h
  exact ⟨n, rfl, wf_i64 hw⟩
theorem dec_u32 {t : TypeId} (ht : Try.prog.underlying t = some (.int .u32)) : Dec t u32C (fun _ _ => True) := fun h => by
  obtain ⟨n, rfl, _, hw⟩ := DataW.trod_int ht h
  obtain ⟨k, rfl⟩ := wf_u32 hw
  exact ⟨k, rfl, trivial⟩
theorem dec_u64 {t : TypeId} (ht : Try.prog.underlying t = some (.int .u64)) : Dec t u64C (fun _ _ => True) := fun h => by
  obtain ⟨n, rfl, _, hw⟩ := DataW.trod_int ht h
  obtain ⟨k, rfl⟩ := wf_u64 hw
  exact ⟨k, rfl, trivial⟩
theorem dec_bool {t : TypeId} (ht : Try.prog.underlying t = some .bool) : Dec t boolC (fun _ _ => True) := fun h => by
  obtain ⟨b, rfl, _⟩ := DataW.trod_bool ht h
  exact ⟨b, rfl, trivial⟩
theorem dec_str {t : TypeId} (ht : Try.prog.underlying t = some .string) : Dec t strC (fun _ l => l.length ≤ maxLen) := fun h => by
  obtain ⟨s, rfl, _, hs⟩ := DataW.trod_string ht h
  refine ⟨s.data.toList, ?_, by simpa using hs⟩
  show [Value.string s] = [Value.string ⟨s.data.toList.toArray⟩]
  simp
/-- A slice of what decodes. -/
def slV {α : Type} (x : Value × List α) : List Value := [x.1]
theorem dec_slice {α : Type} {f : α → List Value} {ok : World → α → Prop} {size : Nat} {t e : TypeId} (hf : ∀ x, (f x).length = size) (hp : 0 < size) (ht : Try.prog.underlying t = some (.slice e)) (hC : Try.prog.cellsOf e = size) (hd : Dec e f ok) :
    Dec t slV (fun w x => RowsAt w size f x.1 x.2 ∧ ∀ a ∈ x.2, ok w a) := fun {H enc w base spare held n c y} h => by
  rcases open_slice ht h with ⟨rfl, _⟩ | ⟨a, len, cap, m, n, D, Pl, rfl, hb, hl, hm, hmm, hx, hi⟩
  · exact ⟨(.slice none 0 0, []), rfl, ⟨⟨none, 0, rfl, Nat.le_refl _, Nat.zero_le _⟩, fun k hk => absurd hk (Nat.not_lt_zero _)⟩, fun a ha => by cases ha⟩
  · have hlm : len ≤ m := by rw [hmm]; split <;> omega
    have key : ∀ i, i < len → ∃ r : α, ok w r ∧ ∀ j u, (f r)[j]? = some u → w.cell? (a.add (i * size + j)) = some u := by
      intro i hi'
      obtain ⟨c, hc, ht'⟩ := hi i (by omega)
      obtain ⟨r, rfl, hr⟩ := hd ht'
      rw [hC] at hc
      obtain ⟨_, _, hat⟩ := World.cells?_some hc
      refine ⟨r, hr, fun j u hu => ?_⟩
      have hj : j < size := by rw [← hf r]; exact (List.getElem?_eq_some_iff.1 hu).1
      rw [← Go.Deep.add_add, hat j hj, hu]
    have build : ∀ k, k ≤ len → ∃ l : List α, l.length = k ∧ (∀ r ∈ l, ok w r) ∧ ∀ i (hi : i < l.length), ∀ j u, (f l[i])[j]? = some u → w.cell? (a.add (i * size + j)) = some u := by
      intro k
      induction k with
      | zero => intro _; exact ⟨[], rfl, by simp, fun i hi => by simp at hi⟩
      | succ k ih =>
        intro hk
        obtain ⟨l, hll, hlo, hlc⟩ := ih (by omega)
        obtain ⟨r, hr1, hr⟩ := key k (by omega)
        refine ⟨l ++ [r], by simp [hll], ?_, fun i hi j u hu => ?_⟩
        · intro x hx
          rcases List.mem_append.1 hx with hx | hx
          · exact hlo x hx
          · simp at hx; subst hx; exact hr1
        · by_cases hik : i < l.length
          · rw [List.getElem_append_left hik] at hu
            exact hlc i hik j u hu
          · simp at hi
            have : i = l.length := by omega
            subst this
            simp at hu
            rw [hll]; exact hr j u hu
    obtain ⟨l, hll, hlo, hlc⟩ := build len (Nat.le_refl _)
    subst hll
    refine ⟨(.slice (some a) l.length cap, l), rfl, ⟨⟨some a, cap, rfl, hl, hm⟩, fun k hk => ?_⟩, hlo⟩
    have hz : 0 < l.length := Nat.lt_of_le_of_lt (Nat.zero_le _) hk
    have h0 : ∃ u, (f l[0])[0]? = some u := ⟨(f l[0])[0]'(by rw [hf]; exact hp), List.getElem?_eq_getElem _⟩
    obtain ⟨u0, hu0⟩ := h0
    have hc0 := hlc 0 hz 0 u0 hu0
    rw [Nat.zero_mul] at hc0
    have hspot : a = ⟨a.block, a.off, none⟩ := by
      obtain ⟨b, o, s⟩ := a
      cases s with
      | none => rfl
      | some s => simp [World.cell?, Addr.add] at hc0; split at hc0 <;> simp at hc0
    refine ⟨a.block, a.off, cap, by rw [← hspot], fun j u hj hu => ?_⟩
    have := hlc k hk j u hu
    rw [hspot, add_lit] at this
    exact this
theorem RowsAt.rdr {α : Type} {w : World} {size : Nat} {f : α → List Value} {v : Value} {l : List α} (h : RowsAt w size f v l) : Rdr w (old w) v α size f l := ⟨fun w' hs => by
  have hs' : Sat w w' (old w * emp) := hs.cast star_emp.symm
  refine ⟨h.form, fun k hk => ?_⟩
  obtain ⟨g, off, cap, hv, hc⟩ := h.cell k hk
  exact ⟨g, off, cap, hv, fun j u hj hu => hs'.old_cell (hc j u hj hu)⟩⟩
/-- What the walk of a law says, as its row wants it. -/
theorem Spec.law {f : FuncId} {args : List Value} {w : World} (h : Spec Try.prog w f args (old w) (fun _ : Unit => .bool true) (fun _ => old w)) : Calls Try.prog f args.toArray w fun e w' => e = .returned (.bool true) ∧ Below w.heap.size w w' :=
  (h emp w ((Sat.start w).cast star_emp.symm)).mono fun e w' ⟨_, he, hs⟩ => ⟨he, hs.ends⟩
theorem dec_lost : Dec 96 lostC (fun _ _ => True) := fun {H enc w base spare held n c y} h => by
  obtain ⟨hl, ys, m, _, _, hf⟩ := struct_cells Try.underlying96 (by kernel_rfl) (by kernel_rfl) h
  obtain ⟨v0, y0, e0, _, t0⟩ := hf 0 _ rfl
  obtain ⟨v1, y1, e1, _, t1⟩ := hf 1 _ rfl
  obtain ⟨a, q0, _⟩ := dec_u32 Try.underlying26 t0
  obtain ⟨b, q1, _⟩ := dec_u32 Try.underlying26 t1
  refine ⟨(a, b), ?_, trivial⟩
  simp only [u32C, List.cons.injEq, and_true] at q0 q1
  subst q0; subst q1
  match c, hl with
  | [c0, c1], _ => simp at e0 e1; subst e0; subst e1; rfl
theorem dec_packet : Dec 38 (fun x : Pk × Value => x.1.cells x.2) (fun w x => i64R x.1.ttl ∧ i64R x.1.kind ∧ i64R x.1.hops ∧ x.1.payload.length ≤ maxLen ∧ RowsAt w 2 lostC x.2 x.1.lost) := fun {H enc w base spare held n c y} h => by
  obtain ⟨hl, ys, m, _, _, hf⟩ := struct_cells Try.underlying38 (by kernel_rfl) (by kernel_rfl) h
  obtain ⟨v0, y0, e0, _, t0⟩ := hf 0 _ rfl
  obtain ⟨v1, y1, e1, _, t1⟩ := hf 1 _ rfl
  obtain ⟨v2, y2, e2, _, t2⟩ := hf 2 _ rfl
  obtain ⟨v3, y3, e3, _, t3⟩ := hf 3 _ rfl
  obtain ⟨v4, y4, e4, _, t4⟩ := hf 4 _ rfl
  obtain ⟨v5, y5, e5, _, t5⟩ := hf 5 _ rfl
  obtain ⟨v6, y6, e6, _, t6⟩ := hf 6 _ rfl
  obtain ⟨v7, y7, e7, _, t7⟩ := hf 7 _ rfl
  obtain ⟨v8, y8, e8, _, t8⟩ := hf 8 _ rfl
  obtain ⟨v9, y9, e9, _, t9⟩ := hf 9 _ rfl
  obtain ⟨v10, y10, e10, _, t10⟩ := hf 10 _ rfl
  obtain ⟨v11, y11, e11, _, t11⟩ := hf 11 _ rfl
  obtain ⟨a0, q0, k0⟩ := dec_i64 Try.underlying3 t0
  obtain ⟨a1, q1, k1⟩ := dec_i64 Try.underlying35 t1
  obtain ⟨a2, q2, k2⟩ := dec_i64 Try.underlying3 t2
  obtain ⟨a3, q3, k3⟩ := dec_bool Try.underlying4 t3
  obtain ⟨a4, q4, k4⟩ := dec_u32 Try.underlying26 t4
  obtain ⟨a5, q5, k5⟩ := dec_u32 Try.underlying26 t5
  obtain ⟨a6, q6, k6⟩ := dec_u32 Try.underlying26 t6
  obtain ⟨a7, q7, k7⟩ := dec_u32 Try.underlying26 t7
  obtain ⟨a8, q8, k8⟩ := dec_u32 Try.underlying26 t8
  obtain ⟨a9, q9, k9⟩ := dec_u32 Try.underlying26 t9
  obtain ⟨⟨a10, l10⟩, q10, k10, _⟩ := dec_slice (f := lostC) (size := 2) (fun _ => rfl) (by decide) Try.underlying36 (by kernel_rfl) dec_lost t10
  obtain ⟨a11, q11, k11⟩ := dec_str Try.underlying9 t11
  refine ⟨(⟨a0, a1, a2, a3, a4, a5, a6, a7, a8, a9, l10, a11⟩, a10), ?_, k0, k1, k2, k11, k10⟩
  simp only [i64C, u32C, boolC, strC, slV, List.cons.injEq, and_true] at q0 q1 q2 q3 q4 q5 q6 q7 q8 q9 q10 q11
  subst q0 q1 q2 q3 q4 q5 q6 q7 q8 q9 q10 q11
  match c, hl with
  | [c0, c1, c2, c3, c4, c5, c6, c7, c8, c9, c10, c11], _ =>
    simp at e0 e1 e2 e3 e4 e5 e6 e7 e8 e9 e10 e11
    subst e0 e1 e2 e3 e4 e5 e6 e7 e8 e9 e10 e11; rfl
/-- An argument of a struct's type, of a slice's. -/
theorem dec_arg {t : TypeId} {α : Type} {f : α → List Value} {ok : World → α → Prop} (hd : Dec t f ok) {H : Type} {enc : TypeId × Value → H} {w : World} {base : Nat} {spare : Nat → Bool} {held : Bool} {v : Value} {d : DataW H} {ps : List MemPlace} (h : DataW.Trod enc Try.prog w base spare held t v d ps) : ∃ a, v.cells.toList = f a ∧ ok w a := by
  obtain ⟨n, hn⟩ := h
  exact hd hn
end Go.Proofs.Ytapoehkdnglahaa
