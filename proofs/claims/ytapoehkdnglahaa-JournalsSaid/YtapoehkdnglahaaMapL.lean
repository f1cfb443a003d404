/- Lists of pairs as maps, in plain Lean. -/
import Derived.Test.YtapoehkdnglahaaMap
namespace Go.Proofs.Ytapoehkdnglahaa
set_option linter.unusedVariables false
set_option linter.unusedSectionVars false
section
variable {κ ν : Type} [DecidableEq κ]
/-- No key stands twice. -/
def KN (m : List (κ × ν)) : Prop := (m.map (·.1)).Nodup
theorem KN.nil : KN ([] : List (κ × ν)) := List.nodup_nil
theorem mget_cons (k : κ) (v : ν) (m : List (κ × ν)) (k' : κ) : mget ((k, v) :: m) k' = if k = k' then some v else mget m k' := by
  unfold mget
  simp only [mfind]
  by_cases h : k = k'
  · simp [h]
  · simp only [h, if_false]
    cases mfind m k' with
    | none => rfl
    | some i => simp
theorem mget_nil (k : κ) : mget ([] : List (κ × ν)) k = none := rfl
theorem mset_cons (k : κ) (v : ν) (m : List (κ × ν)) (k' : κ) (v' : ν) : mset ((k, v) :: m) k' v' = if k = k' then (k', v') :: m else (k, v) :: mset m k' v' := by
  unfold mset
  simp only [mfind]
  by_cases h : k = k'
  · simp [h]
  · simp only [h, if_false]
    cases mfind m k' with
    | none => rfl
    | some i => simp
theorem mset_nil (k : κ) (v : ν) : mset ([] : List (κ × ν)) k v = [(k, v)] := rfl
theorem mdel_cons (k : κ) (v : ν) (m : List (κ × ν)) (k' : κ) : mdel ((k, v) :: m) k' = if k = k' then m else (k, v) :: mdel m k' := by
  unfold mdel
  simp only [mfind]
  by_cases h : k = k'
  · simp [h]
  · simp only [h, if_false]
    cases mfind m k' with
    | none => rfl
    | some i => simp
theorem mdel_nil (k : κ) : mdel ([] : List (κ × ν)) k = [] := rfl
theorem mget_mset (m : List (κ × ν)) (k : κ) (v : ν) (k' : κ) : mget (mset m k v) k' = if k = k' then some v else mget m k' := by
  induction m with
  | nil => rw [mset_nil, mget_cons, mget_nil]
  | cons p m ih =>
    obtain ⟨a, b⟩ := p
    rw [mset_cons]
    split
    · rename_i h; subst h; rw [mget_cons, mget_cons]; split <;> rfl
    · rename_i h
      rw [mget_cons, mget_cons, ih]
      split
      · rename_i h2; subst h2; rw [if_neg (Ne.symm h)]
      · rfl
theorem mget_none_iff (m : List (κ × ν)) (k : κ) : mget m k = none ↔ k ∉ m.map (·.1) := by
  induction m with
  | nil => simp [mget_nil]
  | cons p m ih =>
    obtain ⟨a, b⟩ := p
    rw [mget_cons]
    split
    · rename_i h; subst h; simp
    · rename_i h; rw [ih]; simp [Ne.symm h]
theorem mget_mem {m : List (κ × ν)} {k : κ} {v : ν} (h : mget m k = some v) : (k, v) ∈ m := by
  induction m with
  | nil => cases h
  | cons p m ih =>
    obtain ⟨a, b⟩ := p
    rw [mget_cons] at h
    split at h
    · rename_i e; subst e; cases h; simp
    · exact List.mem_cons_of_mem _ (ih h)
theorem mget_of_mem {m : List (κ × ν)} (hn : KN m) {k : κ} {v : ν} (h : (k, v) ∈ m) : mget m k = some v := by
  induction m with
  | nil => cases h
  | cons p m ih =>
    obtain ⟨a, b⟩ := p
    have hn' : a ∉ m.map (·.1) ∧ (m.map (·.1)).Nodup := by simpa [KN] using hn
    rw [mget_cons]
    rcases List.mem_cons.1 h with h | h
    · cases h; simp
    · rw [if_neg, ih hn'.2 h]
      rintro rfl
      exact hn'.1 (List.mem_map.2 ⟨_, h, rfl⟩)
theorem mset_keys (m : List (κ × ν)) (k : κ) (v : ν) : (mset m k v).map (·.1) = if k ∈ m.map (·.1) then m.map (·.1) else m.map (·.1) ++ [k] := by
  induction m with
  | nil => simp [mset_nil]
  | cons p m ih =>
    obtain ⟨a, b⟩ := p
    rw [mset_cons]
    split
    · rename_i h; subst h; simp
    · rename_i h
      simp only [List.map_cons, ih, List.mem_cons, Ne.symm h, false_or]
      split <;> simp
theorem KN.mset {m : List (κ × ν)} (h : KN m) (k : κ) (v : ν) : KN (mset m k v) := by
  unfold KN at *
  rw [mset_keys]
  split
  · exact h
  · rename_i hk
    refine List.nodup_append.2 ⟨h, by simp, ?_⟩
    intro a ha b hb
    simp at hb; subst hb
    rintro rfl; exact hk ha
theorem mdel_sublist (m : List (κ × ν)) (k : κ) : (mdel m k).Sublist m := by
  induction m with
  | nil => simp [mdel_nil]
  | cons p m ih =>
    obtain ⟨a, b⟩ := p
    rw [mdel_cons]
    split
    · exact List.sublist_cons_self _ _
    · exact ih.cons_cons _
theorem KN.mdel {m : List (κ × ν)} (h : KN m) (k : κ) : KN (mdel m k) := h.sublist ((mdel_sublist m k).map _)
theorem mget_mdel {m : List (κ × ν)} (h : KN m) (k : κ) (k' : κ) : mget (mdel m k) k' = if k = k' then none else mget m k' := by
  induction m with
  | nil => simp [mdel_nil, mget_nil]
  | cons p m ih =>
    obtain ⟨a, b⟩ := p
    have hn' : a ∉ m.map (·.1) ∧ (m.map (·.1)).Nodup := by simpa [KN] using h
    rw [mdel_cons]
    split
    · rename_i e; subst e
      rw [mget_cons]
      split
      · rename_i e; subst e; exact (mget_none_iff _ _).2 hn'.1
      · rfl
    · rename_i e
      rw [mget_cons, mget_cons, ih hn'.2]
      split
      · rename_i e2; subst e2; rw [if_neg (Ne.symm e)]
      · rfl
theorem mset_length (m : List (κ × ν)) (k : κ) (v : ν) : (mset m k v).length = if k ∈ m.map (·.1) then m.length else m.length + 1 := by
  have := congrArg List.length (mset_keys m k v)
  simp only [List.length_map] at this
  rw [this]
  split <;> simp
theorem mget_some_iff {m : List (κ × ν)} (hn : KN m) (k : κ) (v : ν) : mget m k = some v ↔ (k, v) ∈ m := ⟨mget_mem, mget_of_mem hn⟩
theorem mdel_length {m : List (κ × ν)} (k : κ) : (mdel m k).length = if k ∈ m.map (·.1) then m.length - 1 else m.length := by
  induction m with
  | nil => simp [mdel_nil]
  | cons p m ih =>
    obtain ⟨a, b⟩ := p
    rw [mdel_cons]
    split
    · rename_i e; subst e; simp
    · rename_i e
      simp only [List.length_cons, ih, List.map_cons, List.mem_cons, Ne.symm e, false_or]
      split
      · rename_i h
        have : 0 < m.length := by
          cases m with
          | nil => simp at h
          | cons _ _ => simp
        omega
      · rfl
end
end Go.Proofs.Ytapoehkdnglahaa
