/- The comparison of records that Compact sorts by, walked in whatever world; slices.SortFunc as a contract over rows. -/
import Derived.Test.YtapoehkdnglahaaSortL
import Derived.TacticsIn
import Derived.Shelf.SlSortCmp.NoneTotal
namespace Go.Proofs.Ytapoehkdnglahaa
open Go.RowKit Go.Shelf
open Go.Sort (flatK HoldsK get_flatK)
set_option linter.unusedVariables false
set_option linter.unusedSimpArgs false
set_option maxRecDepth 100000
theorem nan_ex (a : UInt32) (W : World) : Calls Try.prog 118 #[u32 a] W fun e w' => e = .returned (.bool false) ∧ w' = W := by
  unfold u32
  generalize ((a.toNat : Nat) : Int) = x
  go_enter Try.func118, Try.ntmps118
  go_wp2_with fail
  go_ret
  simp
theorem nan_exI (x : Int) (W : World) : Calls Try.prog 118 #[.int .u32 x] W fun e w' => e = .returned (.bool false) ∧ w' = W := by
  go_enter Try.func118, Try.ntmps118
  go_wp2_with fail
  go_ret
  simp
def cmpI (x y : Int) : Int := if x < y then -1 else if y < x then 1 else 0
theorem cmp_exI (x y : Int) (W : World) : Calls Try.prog 103 #[.int .u32 x, .int .u32 y] W fun e w' => e = .returned (.int .i64 (cmpI x y)) ∧ w' = W := by
  have hn := nan_exI
  go_enter Try.func103, Try.ntmps103
  go_wp2_with (go_at_call 118; refine (hn _ _).mono ?_; rintro e w' ⟨rfl, rfl⟩)
  all_goals go_ret
  all_goals first | omega | (simp_all [cmpI]; done) | (simp_all [cmpI]; omega)
theorem cmpI_A (a b : UInt32) : cmpI (a.toNat : Int) (b.toNat : Int) = cmpA a b := by
  unfold cmpI cmpA
  simp only [UInt32.lt_iff_toNat_lt, Int.ofNat_lt]
theorem clos_ex (o1 o2 : Bool) (x y s1 s2 : Int) (W : World) : Calls Try.prog 102 #[.agg #[.bool o1, .int .u32 x, .int .u32 s1], .agg #[.bool o2, .int .u32 y, .int .u32 s2]] W fun e w' => e = .returned (.int .i64 (if o1 != o2 then (if o1 then -1 else 1) else cmpI x y)) ∧ ∃ q os', w' = Go.Sort.grow (W.drewN q) os' := by
  have hcon := fun W' => cmp_exI x y W'
  generalize cmpI x y = r at hcon ⊢
  go_enter Try.func102, Try.ntmps102
  go_wp2_with (go_at_call 103; refine (hcon _).mono ?_; rintro e w' ⟨rfl, rfl⟩)
  all_goals try go_ret
  all_goals (refine ⟨?_, 0, _, by rw [Go.Sort.alloc_eq_grow, Go.Sort.alloc_eq_grow, Go.Sort.grow_grow]; rfl⟩)
  all_goals (show Ending.returned (Value.int _ _) = _; clear hcon; cases o1 <;> cases o2 <;> first | rfl | contradiction)
theorem clos_rec (a b : Rec) (W : World) : Calls Try.prog 102 (#[.agg a.cells.toArray, .agg b.cells.toArray] ++ #[]) W fun e w' => e = .returned (.int .i64 (cmpRec a b)) ∧ ∃ q os', w' = Go.Sort.grow (W.drewN q) os' := by
  have h := clos_ex a.own b.own a.addr.toNat b.addr.toNat a.seq.toNat b.seq.toNat W
  rw [cmpI_A] at h
  exact h
instance : Inhabited Rec := ⟨⟨false, 0, 0⟩⟩
theorem flatK_get (l : List Rec) (j : Nat) (h : j < l.length * 3) : (flatK Rec.cells 3 l.toArray)[j]! = (l.flatMap Rec.cells)[j]'(by rw [flatMap_length Rec.cells 3 (fun _ => rfl)]; exact h) := by
  have hq : j / 3 < l.length := by omega
  rw [get_flatK _ _ _ _ (by simpa using h)]
  have h2 := flatMap_at Rec.cells 3 (fun _ => rfl) l (j / 3) (j % 3) l[j / 3] (by simp [hq]) (by omega)
  rw [show j / 3 * 3 + j % 3 = j by omega] at h2
  have h3 := List.getElem?_eq_getElem (l := l.flatMap Rec.cells) (i := j) (by rw [flatMap_length Rec.cells 3 (fun _ => rfl)]; exact h)
  rw [h3] at h2
  have h4 : l.toArray[j / 3]! = l[j / 3] := by simp [hq]
  rw [h4]
  have h5 : j % 3 < (Rec.cells l[j / 3]).length := by show j % 3 < 3; omega
  rw [List.getElem?_eq_getElem h5] at h2
  rw [getElem!_pos (Rec.cells l[j / 3]) (j % 3) h5]
  exact (Option.some.inj h2).symm
/-- The row laid anew, draws, blocks behind. -/
theorem Sat.sortK {w0 w : World} {e : TypeId} {g off cap : Nat} {l l' : List Rec} {F : HProp} (n : Nat) (os : Array Obj) (hs : Sat w0 w (rows e 3 Rec.cells (.slice (some ⟨g, off, none⟩) l.length cap) l * F)) (hn : 0 < l.length) (hl : l'.length = l.length) :
    Sat w0 (sortWorldK Rec.cells 3 w g off n l'.toArray os) (rows e 3 Rec.cells (.slice (some ⟨g, off, none⟩) l.length cap) l' * F) := by
  obtain ⟨hx, ⟨A, hv, h0, _⟩ | ⟨g', off', cap', cur, fr, hv, hle, hm, hc, ht, hf, hp⟩⟩ := hs.slc_cases
  · omega
  injection hv with e1 _ e3
  injection e1 with e1
  injection e1 with e1 e2
  subst e1; subst e2; subst e3
  have hg := hp.at_
  let cur' : Array Value := Go.Sort.putCells id off (flatK Rec.cells 3 l'.toArray) cur
  have hsz : cur'.size = cur.size := by simp [cur', Go.Sort.putCells]
  have hlt : g < w.heap.size := hp.lt
  have hp2 : Sat w0 (sortWorldK Rec.cells 3 w g off n l'.toArray os) (pts g (.cells cur' e fr) * F) := by
    refine Sat.put hp rfl rfl rfl ?_ fun k hk hne => ?_
    · show ((w.heap.modify g _) ++ os)[g]? = _
      rw [Array.getElem?_append_left (by simpa using hlt), Array.getElem?_modify, if_pos rfl, hg]
      rfl
    · show ((w.heap.modify g _) ++ os)[k]? = _
      rw [Array.getElem?_append_left (by simpa using hk), Array.getElem?_modify, if_neg (Ne.symm hne)]
  unfold rows
  rw [hl]
  refine Sat.slc_mk e 3 l.length g off cap cur' fr _ hp2 ?_ hle hm (by rw [hsz]; exact hc) ?_ hf
  · rw [flatMap_length Rec.cells 3 (fun _ => rfl), hl]
  · have hle3 : l.length * 3 ≤ cap * 3 := Nat.mul_le_mul_right _ hle
    apply List.ext_getElem?
    intro j
    rw [List.getElem?_take]
    by_cases hj : j < l.length * 3
    · rw [if_pos hj, List.getElem?_drop, Array.getElem?_toList]
      have hin : off + j < cur.size := by omega
      have hj' : j < l'.length * 3 := by rw [hl]; exact hj
      have h1 : cur'[off + j]? = some ((flatK Rec.cells 3 l'.toArray)[j]!) := by
        simp only [cur', Go.Sort.putCells, Array.getElem?_mapIdx]
        rw [Array.getElem?_eq_getElem hin]
        simp only [Option.map_some, id]
        rw [if_pos ⟨by omega, by simp; omega⟩, Nat.add_sub_cancel_left]
      rw [h1, flatK_get l' j hj', ← List.getElem?_eq_getElem]
    · rw [if_neg hj]
      symm
      apply List.getElem?_eq_none
      rw [flatMap_length Rec.cells 3 (fun _ => rfl), hl]; omega
theorem perm_all {l : List Rec} {d' : Array Rec} (h : Go.Sort.PermIn 0 l.toArray.size l.toArray d') : d'.toList.Perm l := by
  obtain ⟨h1, _, h3⟩ := h
  have e1 : d'.extract 0 l.toArray.size = d' := by rw [← h1]; simp
  have e2 : l.toArray.extract 0 l.toArray.size = l.toArray := by simp
  rw [e1, e2] at h3
  simpa using h3
theorem sorted_all {l : List Rec} {d' : Array Rec} (hz : d'.size = l.length) (h : Go.Sort.SortedIn (Go.Proofs.ltOf cmpRec) 0 l.toArray.size d') : d'.toList.Pairwise (fun a b => b.lt a = false) := by
  rw [List.pairwise_iff_getElem]
  intro i j hi hj hij
  have := h i j (Nat.zero_le _) hij (by simp at hj ⊢; omega)
  rw [cmpRec_lt] at this
  simp only [Array.length_toList] at hi hj
  rw [getElem!_pos d' i hi, getElem!_pos d' j hj] at this
  simpa using this
structure SortedR (l : List Rec) where
  l' : List Rec
  perm : l'.Perm l
  rise : l'.Pairwise (fun a b => b.lt a = false)
theorem sortF_spec (w0 : World) (v : Value) (l : List Rec) (hl : l.length ≤ 1000000) : Spec Try.prog w0 116 [v, .func (.func 102) #[] #[]] (rows 28 3 Rec.cells v l) (fun _ : SortedR l => .tuple #[]) (fun s => rows 28 3 Rec.cells v s.l') := by
  intro G w hs
  rcases Nat.eq_zero_or_pos l.length with h0 | hpos
  · obtain rfl := List.eq_nil_of_length_eq_zero h0
    obtain ⟨A, c, rfl⟩ := rows_form hs
    have := AnyF.slices_SortFunc_none sortLays A c (.func (.func 102) #[] #[]) w
    refine Calls.mono (this) ?_
    rintro e w' ⟨rfl, rfl⟩
    exact ⟨⟨[], .refl _, .nil⟩, rfl, hs⟩
  · have hne : l.flatMap Rec.cells ≠ [] := by
      intro e0
      have := flatMap_length Rec.cells 3 (fun _ => rfl) l
      rw [e0] at this
      simp at this; omega
    obtain ⟨g, off, cap, rfl, hle, hm, hc⟩ := Sat.slc_cell hs hne
    have hH : HoldsK Rec.cells 3 w g off l.toArray := by
      intro j hj
      have hj' : j < l.length * 3 := by simpa using hj
      have := hc j ((l.flatMap Rec.cells)[j]'(by rw [flatMap_length Rec.cells 3 (fun _ => rfl)]; exact hj')) (List.getElem?_eq_getElem _)
      rw [flatK_get l j hj']
      exact this
    have hblk : g < w.heap.size := by
      have := (hc 0 ((l.flatMap Rec.cells)[0]'(List.length_pos_iff.2 hne)) (List.getElem?_eq_getElem _)).1
      unfold World.cell? at this
      rcases Nat.lt_or_ge g w.heap.size with hlt | hge
      · exact hlt
      · simp [Array.getElem?_eq_none hge] at this
    have eg : ∀ args w, (callFunc 102 args).run Try.prog w = .ok (.enter 102 args) w := enters_of Try.func102 (by kernel_rfl) rfl
    have hcon := AnyQ.slices_SortFunc sortLays 3 Try.isAgg28 Try.sizeOf28 Rec.cells (fun _ => rfl) (fun z v hv => by simp [Rec.cells] at hv; rcases hv with rfl | rfl | rfl <;> rfl) cmpRec swo_rec 102 #[] g off cap l.toArray w eg (fun _ _ _ _ x y => clos_rec x y _) hH hblk (by simp; omega)
    refine Calls.mono (hcon) ?_
    rintro e w' ⟨rfl, d', n, os, hp, hso, rfl⟩
    have hz : d'.size = l.length := by simpa using hp.1
    refine ⟨⟨d'.toList, perm_all hp, sorted_all hz hso⟩, rfl, ?_⟩
    exact Sat.sortK n os hs hpos (by simpa using hz)
end Go.Proofs.Ytapoehkdnglahaa
