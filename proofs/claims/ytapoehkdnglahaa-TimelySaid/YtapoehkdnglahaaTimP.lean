/- Timers in a heap, and timers in a list, in plain Lean: both answer alike. No program in sight. -/
import Derived.WalkKit
namespace Go.Proofs.Ytapoehkdnglahaa
set_option linter.unusedVariables false
/-- Something that is to happen. -/
structure Tm where
  at_ : UInt64
  id : Int
  what : Int
deriving DecidableEq
instance : Inhabited Tm := ⟨⟨0, 0, 0⟩⟩
/-- One comes ahead of another. -/
def Tm.ahead (t u : Tm) : Bool := decide (t.at_ < u.at_) || (decide (t.at_ = u.at_) && decide (t.id < u.id))
theorem ahead_iff {t u : Tm} : t.ahead u = true ↔ (t.at_.toNat < u.at_.toNat ∨ (t.at_.toNat = u.at_.toNat ∧ t.id < u.id)) := by
  simp [Tm.ahead, UInt64.lt_iff_toNat_lt, ← UInt64.toNat_inj]
theorem ahead_irrefl (t : Tm) : t.ahead t = false := by
  cases h : t.ahead t with
  | false => rfl
  | true => rw [ahead_iff] at h; omega
theorem ahead_trans {t u v : Tm} (h : t.ahead u = true) (h2 : u.ahead v = true) : t.ahead v = true := by
  rw [ahead_iff] at *; omega
theorem ahead_asymm {t u : Tm} (h : t.ahead u = true) : u.ahead t = false := by
  cases h2 : u.ahead t with
  | false => rfl
  | true => rw [ahead_iff] at *; omega
/-- Not behind. -/
theorem nahead_trans {t u v : Tm} (h : u.ahead t = false) (h2 : v.ahead u = false) : v.ahead t = false := by
  cases h3 : v.ahead t with
  | false => rfl
  | true =>
    have h' : ¬ u.ahead t = true := by simp [h]
    have h2' : ¬ v.ahead u = true := by simp [h2]
    rw [ahead_iff] at *; omega
/-- Element k. -/
def at' (l : List Tm) (k : Nat) : Tm := l[k]?.getD default
theorem at'_get {l : List Tm} {k : Nat} (h : k < l.length) : l[k]? = some (at' l k) := by simp [at', h]
theorem at'_some {l : List Tm} {k : Nat} {t : Tm} (h : l[k]? = some t) : at' l k = t := by simp [at', h]
def swp (l : List Tm) (i j : Nat) : List Tm := (l.set i (at' l j)).set j (at' l i)
@[simp] theorem swp_length (l : List Tm) (i j : Nat) : (swp l i j).length = l.length := by simp [swp]
theorem at'_set {l : List Tm} {i : Nat} (t : Tm) (h : i < l.length) (k : Nat) : at' (l.set i t) k = if k = i then t else at' l k := by
  unfold at'
  rw [List.getElem?_set]
  by_cases e : i = k
  · subst e; simp [h]
  · simp [e, Ne.symm e]
theorem at'_swp {l : List Tm} {i j : Nat} (hi : i < l.length) (hj : j < l.length) (k : Nat) : at' (swp l i j) k = if k = j then at' l i else if k = i then at' l j else at' l k := by
  unfold swp
  rw [at'_set _ (by simpa using hj), at'_set _ hi]
theorem swp_perm {l : List Tm} {i j : Nat} (hi : i < l.length) (hj : j < l.length) : (swp l i j).Perm l := by
  have e1 : at' l i = l[i] := by simp [at', hi]
  have e2 : at' l j = l[j] := by simp [at', hj]
  unfold swp
  rw [e1, e2]
  exact List.set_set_perm hi hj
/-- The way up. -/
def upF : Nat → List Tm → Nat → List Tm
  | 0, l, _ => l
  | f + 1, l, i => if 0 < i ∧ (at' l i).ahead (at' l ((i - 1) / 2)) = true then upF f (swp l i ((i - 1) / 2)) ((i - 1) / 2) else l
/-- Of i and its children the one that comes first. -/
def firstF (l : List Tm) (i : Nat) : Nat :=
  let a := if 2 * i + 1 < l.length ∧ (at' l (2 * i + 1)).ahead (at' l i) = true then 2 * i + 1 else i
  if 2 * i + 2 < l.length ∧ (at' l (2 * i + 2)).ahead (at' l a) = true then 2 * i + 2 else a
/-- The way down. -/
def downF : Nat → List Tm → Nat → List Tm
  | 0, l, _ => l
  | f + 1, l, i => if firstF l i = i then l else downF f (swp l i (firstF l i)) (firstF l i)
theorem firstF_lt {l : List Tm} {i : Nat} (h : i < l.length) : firstF l i < l.length := by
  unfold firstF; simp only; repeat' split
  all_goals omega
theorem firstF_cases (l : List Tm) (i : Nat) : firstF l i = i ∨ (firstF l i = 2 * i + 1 ∧ 2 * i + 1 < l.length) ∨ (firstF l i = 2 * i + 2 ∧ 2 * i + 2 < l.length) := by
  unfold firstF; simp only; repeat' split
  all_goals omega
theorem firstF_spec (l : List Tm) (i : Nat) : (∀ k, (k = 2 * i + 1 ∨ k = 2 * i + 2) → k < l.length → (at' l k).ahead (at' l (firstF l i)) = false) ∧ (at' l i).ahead (at' l (firstF l i)) = false ∧ (firstF l i ≠ i → (at' l (firstF l i)).ahead (at' l i) = true) := by
  unfold firstF
  by_cases h1 : 2 * i + 1 < l.length ∧ (at' l (2 * i + 1)).ahead (at' l i) = true
  · simp only [h1, and_self, if_true]
    by_cases h2 : 2 * i + 2 < l.length ∧ (at' l (2 * i + 2)).ahead (at' l (2 * i + 1)) = true
    · simp only [h2, and_self, if_true]
      refine ⟨fun k hk hl => ?_, ahead_asymm (ahead_trans h2.2 h1.2), fun _ => ahead_trans h2.2 h1.2⟩
      rcases hk with rfl | rfl
      · exact ahead_asymm h2.2
      · exact ahead_irrefl _
    · simp only [h2, if_false]
      refine ⟨fun k hk hl => ?_, ahead_asymm h1.2, fun _ => h1.2⟩
      rcases hk with rfl | rfl
      · exact ahead_irrefl _
      · cases hh : (at' l (2 * i + 2)).ahead (at' l (2 * i + 1)) with
        | false => rfl
        | true => exact absurd ⟨hl, hh⟩ h2
  · simp only [h1, if_false]
    by_cases h2 : 2 * i + 2 < l.length ∧ (at' l (2 * i + 2)).ahead (at' l i) = true
    · rw [if_pos h2]
      refine ⟨fun k hk hl => ?_, ahead_asymm h2.2, fun _ => h2.2⟩
      rcases hk with rfl | rfl
      · cases hh : (at' l (2 * i + 1)).ahead (at' l (2 * i + 2)) with
        | false => rfl
        | true => exact absurd ⟨hl, ahead_trans hh h2.2⟩ h1
      · exact ahead_irrefl _
    · simp only [h2, if_false]
      refine ⟨fun k hk hl => ?_, ahead_irrefl _, fun h => absurd rfl h⟩
      rcases hk with rfl | rfl
      · cases hh : (at' l (2 * i + 1)).ahead (at' l i) with
        | false => rfl
        | true => exact absurd ⟨hl, hh⟩ h1
      · cases hh : (at' l (2 * i + 2)).ahead (at' l i) with
        | false => rfl
        | true => exact absurd ⟨hl, hh⟩ h2
theorem upF_perm (f : Nat) : ∀ (l : List Tm) (i : Nat), i < l.length → (upF f l i).Perm l := by
  induction f with
  | zero => intro l i _; exact List.Perm.refl _
  | succ f ih =>
    intro l i hi
    unfold upF
    split
    · exact (ih _ _ (by simp; omega)).trans (swp_perm hi (by omega))
    · exact List.Perm.refl _
theorem downF_perm (f : Nat) : ∀ (l : List Tm) (i : Nat), i < l.length → (downF f l i).Perm l := by
  induction f with
  | zero => intro l i _; exact List.Perm.refl _
  | succ f ih =>
    intro l i hi
    unfold downF
    split
    · exact List.Perm.refl _
    · exact (ih _ _ (by simpa using firstF_lt hi)).trans (swp_perm hi (firstF_lt hi))
/-- No element is ahead of the one over it. -/
def Hp (l : List Tm) : Prop := ∀ k, 0 < k → k < l.length → (at' l k).ahead (at' l ((k - 1) / 2)) = false
/-- The same, but for i against the one over it; what is under i is not ahead of that. -/
def HpUp (l : List Tm) (i : Nat) : Prop := (∀ k, 0 < k → k < l.length → k ≠ i → (at' l k).ahead (at' l ((k - 1) / 2)) = false) ∧ (0 < i → ∀ k, 0 < k → k < l.length → (k - 1) / 2 = i → (at' l k).ahead (at' l ((i - 1) / 2)) = false)
/-- The same, but for i against the one over it and those under it. -/
def HpAt (l : List Tm) (i : Nat) : Prop := (∀ k, 0 < k → k < l.length → k ≠ i → (k - 1) / 2 ≠ i → (at' l k).ahead (at' l ((k - 1) / 2)) = false) ∧ (0 < i → ∀ k, 0 < k → k < l.length → (k - 1) / 2 = i → (at' l k).ahead (at' l ((i - 1) / 2)) = false)
theorem Hp.up {l : List Tm} (h : Hp l) (i : Nat) (hi : i < l.length) : HpUp l i :=
  ⟨fun k h1 h2 _ => h k h1 h2, fun h0 k h1 h2 h3 => nahead_trans (h i h0 hi) (h3 ▸ h k h1 h2)⟩
theorem upF_hp (f : Nat) : ∀ (l : List Tm) (i : Nat), i < l.length → i ≤ f → HpUp l i → Hp (upF f l i) := by
  induction f with
  | zero =>
    intro l i hi hf h k h1 h2
    exact h.1 k h1 h2 (by omega)
  | succ f ih =>
    intro l i hi hf h
    unfold upF
    split
    · rename_i hc
      obtain ⟨h0, ha⟩ := hc
      have hp : (i - 1) / 2 < l.length := by omega
      have hpi : (i - 1) / 2 < i := by omega
      refine ih _ _ (by simpa using hp) (by omega) ⟨fun k h1 h2 hne => ?_, fun hp0 k h1 h2 hk => ?_⟩
      · simp only [swp_length] at h2
        rw [at'_swp hi hp, at'_swp hi hp, if_neg hne]
        by_cases hki : k = i
        · subst hki
          rw [if_pos rfl, if_pos rfl]; exact ahead_asymm ha
        · rw [if_neg hki]
          by_cases hkp : (k - 1) / 2 = (i - 1) / 2
          · rw [if_pos hkp]
            have := h.1 k h1 h2 hki
            rw [hkp] at this
            exact nahead_trans (ahead_asymm ha) this
          · rw [if_neg hkp]
            by_cases hkp2 : (k - 1) / 2 = i
            · rw [if_pos hkp2]
              exact h.2 h0 k h1 h2 hkp2
            · rw [if_neg hkp2]
              exact h.1 k h1 h2 hki
      · simp only [swp_length] at h2
        have hq := h.1 ((i - 1) / 2) hp0 hp (by omega)
        rw [at'_swp hi hp, at'_swp hi hp, if_neg (by omega), if_neg (c := ((i - 1) / 2 - 1) / 2 = (i - 1) / 2) (by omega), if_neg (c := ((i - 1) / 2 - 1) / 2 = i) (by omega)]
        by_cases hki : k = i
        · subst hki; rw [if_pos rfl]; exact hq
        · rw [if_neg hki]
          have := h.1 k h1 h2 hki
          rw [hk] at this
          exact nahead_trans hq this
    · rename_i hc
      intro k h1 h2
      by_cases hki : k = i
      · subst hki
        cases hh : (at' l k).ahead (at' l ((k - 1) / 2)) with
        | false => rfl
        | true => exact absurd ⟨h1, hh⟩ hc
      · exact h.1 k h1 h2 hki
/-- Behind the way down all is well but for i against the one over it; if it moved, all is well. -/
theorem downF_hp (f : Nat) : ∀ (l : List Tm) (i : Nat), i < l.length → l.length ≤ f + i → HpAt l i → ((0 < i → (at' l i).ahead (at' l ((i - 1) / 2)) = false) → Hp (downF f l i)) ∧ HpUp (downF f l i) i := by
  induction f with
  | zero => intro l i hi hf h; omega
  | succ f ih =>
    intro l i hi hf h
    unfold downF
    split
    · rename_i hc
      obtain ⟨s1, _, _⟩ := firstF_spec l i
      rw [hc] at s1
      have hall : ∀ k, 0 < k → k < l.length → k ≠ i → (at' l k).ahead (at' l ((k - 1) / 2)) = false := fun k h1 h2 h3 => by
        by_cases hk : (k - 1) / 2 = i
        · rw [hk]; exact s1 k (by omega) h2
        · exact h.1 k h1 h2 h3 hk
      refine ⟨fun hov k h1 h2 => ?_, hall, h.2⟩
      by_cases hk : k = i
      · subst hk; exact hov h1
      · exact hall k h1 h2 hk
    · rename_i hc
      obtain ⟨s1, s2, s3⟩ := firstF_spec l i
      have s3 := s3 hc
      have hfl := firstF_lt hi
      have hcs := firstF_cases l i
      generalize firstF l i = j at *
      have hji : i < j := by omega
      have hpj : (j - 1) / 2 = i := by omega
      have hat : HpAt (swp l i j) j := by
        refine ⟨fun k h1 h2 h3 h4 => ?_, fun h0 k h1 h2 hk => ?_⟩
        · simp only [swp_length] at h2
          rw [at'_swp hi hfl, at'_swp hi hfl, if_neg h3, if_neg h4]
          by_cases hki : k = i
          · subst hki
            rw [if_pos rfl, if_neg (by omega)]
            exact h.2 h1 j (by omega) hfl hpj
          · rw [if_neg hki]
            by_cases hkp : (k - 1) / 2 = i
            · rw [if_pos hkp]; exact s1 k (by omega) h2
            · rw [if_neg hkp]; exact h.1 k h1 h2 hki hkp
        · simp only [swp_length] at h2
          rw [at'_swp hi hfl, at'_swp hi hfl, if_neg (by omega), if_neg (by omega), if_neg (by omega), if_pos hpj]
          have := h.1 k h1 h2 (by omega) (by omega)
          rwa [hk] at this
      have hov : 0 < j → (at' (swp l i j) j).ahead (at' (swp l i j) ((j - 1) / 2)) = false := fun _ => by
        rw [at'_swp hi hfl, at'_swp hi hfl, if_pos rfl, if_neg (by omega), if_pos hpj]
        exact ahead_asymm s3
      obtain ⟨g1, _⟩ := ih (swp l i j) j (by simpa using hfl) (by simp; omega) hat
      have hH := g1 hov
      refine ⟨fun _ => hH, hH.up i ?_⟩
      have := (downF_perm f (swp l i j) j (by simpa using hfl)).length_eq
      rw [this]; simpa using hi
theorem Hp.min {l : List Tm} (h : Hp l) : ∀ k, k < l.length → (at' l k).ahead (at' l 0) = false := by
  intro k
  induction k using Nat.strongRecOn with
  | _ k ih =>
    intro hk
    by_cases h0 : k = 0
    · subst h0; exact ahead_irrefl _
    · exact nahead_trans (ih ((k - 1) / 2) (by omega) (by omega)) (h k (by omega) hk)
/-- One more. -/
def addF (l : List Tm) (t : Tm) : List Tm := upF l.length (l ++ [t]) l.length
theorem addF_perm (l : List Tm) (t : Tm) : (addF l t).Perm (l ++ [t]) := upF_perm _ _ _ (by simp)
theorem addF_hp {l : List Tm} (t : Tm) (h : Hp l) : Hp (addF l t) := by
  have e : ∀ k, k < l.length → at' (l ++ [t]) k = at' l k := fun k hk => by simp [at', List.getElem?_append, hk]
  refine upF_hp _ _ _ (by simp) (Nat.le_refl _) ⟨fun k h1 h2 h3 => ?_, fun h0 k h1 h2 h3 => ?_⟩
  · simp only [List.length_append, List.length_cons, List.length_nil] at h2
    rw [e k (by omega), e _ (by omega)]
    exact h k h1 (by omega)
  · simp only [List.length_append, List.length_cons, List.length_nil] at h2
    omega
/-- One less. -/
def cutF (l : List Tm) (i : Nat) : List Tm := (swp l i (l.length - 1)).take (l.length - 1)
def remF (l : List Tm) (i : Nat) : List Tm := if i < l.length - 1 then upF i (downF l.length (cutF l i) i) i else cutF l i
theorem cutF_length {l : List Tm} {i : Nat} : (cutF l i).length = l.length - 1 := by simp [cutF]
theorem cutF_perm {l : List Tm} {i : Nat} (hi : i < l.length) : (at' l i :: cutF l i).Perm l := by
  have hp := swp_perm hi (show l.length - 1 < l.length by omega)
  refine List.Perm.trans ?_ hp
  have h1 : (swp l i (l.length - 1)).drop (l.length - 1) = [at' l i] := by
    apply List.ext_getElem?
    intro k
    rw [List.getElem?_drop]
    by_cases hk : k = 0
    · subst hk
      rw [at'_get (by simp; omega), at'_swp hi (by omega)]
      simp
    · rw [List.getElem?_eq_none (by simp; omega), List.getElem?_eq_none (by simp; omega)]
  have h2 := List.take_append_drop (l.length - 1) (swp l i (l.length - 1))
  rw [h1] at h2
  rw [← h2, cutF]
  exact (List.perm_append_singleton _ _).symm
theorem remF_perm {l : List Tm} {i : Nat} (hi : i < l.length) : (at' l i :: remF l i).Perm l := by
  unfold remF
  split
  · refine List.Perm.trans (List.Perm.cons _ ?_) (cutF_perm hi)
    have hd := downF_perm l.length (cutF l i) i (by rw [cutF_length]; omega)
    exact (upF_perm _ _ _ (by rw [hd.length_eq, cutF_length]; omega)).trans hd
  · exact cutF_perm hi
theorem at'_cutF {l : List Tm} {i : Nat} (hi : i < l.length) {k : Nat} (hk : k < l.length - 1) : at' (cutF l i) k = if k = i then at' l (l.length - 1) else at' l k := by
  have : at' (cutF l i) k = at' (swp l i (l.length - 1)) k := by simp only [at', cutF, List.getElem?_take, if_pos hk]
  rw [this, at'_swp hi (by omega), if_neg (by omega)]
theorem remF_hp {l : List Tm} {i : Nat} (hi : i < l.length) (h : Hp l) : Hp (remF l i) := by
  unfold remF
  split
  · rename_i hlt
    have hl := @cutF_length l i
    have hat : HpAt (cutF l i) i := by
      refine ⟨fun k h1 h2 h3 h4 => ?_, fun h0 k h1 h2 hk => ?_⟩
      · rw [hl] at h2
        rw [at'_cutF hi h2, at'_cutF hi (by omega), if_neg h3, if_neg h4]
        exact h k h1 (by omega)
      · rw [hl] at h2
        rw [at'_cutF hi h2, at'_cutF hi (by omega), if_neg (by omega), if_neg (by omega)]
        have e1 := h k h1 (by omega)
        rw [hk] at e1
        exact nahead_trans (h i h0 (by omega)) e1
    obtain ⟨_, g⟩ := downF_hp l.length (cutF l i) i (by rw [hl]; omega) (by rw [hl]; omega) hat
    have hd := (downF_perm l.length (cutF l i) i (by rw [hl]; omega)).length_eq
    exact upF_hp i _ i (by rw [hd, hl]; omega) (Nat.le_refl _) g
  · rename_i hlt
    intro k h1 h2
    rw [cutF_length] at h2
    rw [at'_cutF hi h2, at'_cutF hi (by omega), if_neg (by omega), if_neg (by omega)]
    exact h k h1 (by omega)
end Go.Proofs.Ytapoehkdnglahaa
