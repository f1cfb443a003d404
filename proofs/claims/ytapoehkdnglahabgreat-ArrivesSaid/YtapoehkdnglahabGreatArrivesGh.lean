/- A part of what Arrives needs. -/
import Derived.Test.YtapoehkdnglahabGreatArrivesGg
set_option maxHeartbeats 8000000
set_option linter.unusedVariables false
set_option linter.unusedSimpArgs false
set_option linter.unusedSectionVars false
namespace Go.Proofs.YtapoehkdnglahabGreat
section
structure Tm where
  at_ : UInt64
  id : Int
  what : Int
deriving DecidableEq
instance : Inhabited Tm := ⟨⟨0, 0, 0⟩⟩
def Tm.ahead (t u : Tm) : Bool := decide (t.at_ < u.at_) || (decide (t.at_ = u.at_) && decide (t.id < u.id))
theorem ahead_iff {t u : Tm} : t.ahead u = true ↔ (t.at_.toNat < u.at_.toNat ∨ (t.at_.toNat = u.at_.toNat ∧ t.id < u.id)) := by
 simp [Tm.ahead, UInt64.lt_iff_toNat_lt, ← UInt64.toNat_inj]
theorem ahead_irrefl (t : Tm) : t.ahead t = false := by
 cases h : t.ahead t with
 | false => rfl
 | true => rw [ahead_iff] at h; omega
theorem ahead_trans {t u v : Tm} (h : t.ahead u = true) (h2 : u.ahead v = true) : t.ahead v = true := by
 rw [ahead_iff] at *; omega
theorem ahead_asymm {t u : Tm} (h : t.ahead u = true) : u.ahead t = false := by
 cases h2 : u.ahead t with
 | false => rfl
 | true => rw [ahead_iff] at *; omega
theorem nahead_trans {t u v : Tm} (h : u.ahead t = false) (h2 : v.ahead u = false) : v.ahead t = false := by
 cases h3 : v.ahead t with
 | false => rfl
 | true =>
  have h' : ¬ u.ahead t = true := by simp [h]
  have h2' : ¬ v.ahead u = true := by simp [h2]
  rw [ahead_iff] at *; omega
def at' (l : List Tm) (k : Nat) : Tm := l[k]?.getD default
theorem at'_get {l : List Tm} {k : Nat} (h : k < l.length) : l[k]? = some (at' l k) := by simp [at', h]
def swp (l : List Tm) (i j : Nat) : List Tm := (l.set i (at' l j)).set j (at' l i)
@[simp] theorem swp_length (l : List Tm) (i j : Nat) : (swp l i j).length = l.length := by simp [swp]
theorem at'_set {l : List Tm} {i : Nat} (t : Tm) (h : i < l.length) (k : Nat) : at' (l.set i t) k = if k = i then t else at' l k := by
 unfold at'
 rw [List.getElem?_set]
 by_cases e : i = k
 ·subst e; simp [h]
 ·simp [e, Ne.symm e]
theorem at'_swp {l : List Tm} {i j : Nat} (hi : i < l.length) (hj : j < l.length) (k : Nat) : at' (swp l i j) k = if k = j then at' l i else if k = i then at' l j else at' l k := by
 unfold swp
 rw [at'_set _ (by simpa using hj), at'_set _ hi]
theorem swp_perm {l : List Tm} {i j : Nat} (hi : i < l.length) (hj : j < l.length) : (swp l i j).Perm l := by
 have e1 : at' l i = l[i] := by simp [at', hi]
 have e2 : at' l j = l[j] := by simp [at', hj]
 unfold swp
 rw [e1, e2]
 exact List.set_set_perm hi hj
def upF : Nat → List Tm → Nat → List Tm
 | 0, l, _ => l
 | f + 1, l, i => if 0 < i ∧ (at' l i).ahead (at' l ((i - 1) / 2)) = true then upF f (swp l i ((i - 1) / 2)) ((i - 1) / 2) else l
def firstF (l : List Tm) (i : Nat) : Nat :=
 let a := if 2 * i + 1 < l.length ∧ (at' l (2 * i + 1)).ahead (at' l i) = true then 2 * i + 1 else i
 if 2 * i + 2 < l.length ∧ (at' l (2 * i + 2)).ahead (at' l a) = true then 2 * i + 2 else a
def downF : Nat → List Tm → Nat → List Tm
 | 0, l, _ => l
 | f + 1, l, i => if firstF l i = i then l else downF f (swp l i (firstF l i)) (firstF l i)
theorem firstF_lt {l : List Tm} {i : Nat} (h : i < l.length) : firstF l i < l.length := by
  unfold firstF; simp only; repeat' split
  all_goals omega
theorem firstF_cases (l : List Tm) (i : Nat) : firstF l i = i ∨ (firstF l i = 2 * i + 1 ∧ 2 * i + 1 < l.length) ∨ (firstF l i = 2 * i + 2 ∧ 2 * i + 2 < l.length) := by
  unfold firstF; simp only; repeat' split
  all_goals omega
theorem firstF_spec (l : List Tm) (i : Nat) : (∀ k, (k = 2 * i + 1 ∨ k = 2 * i + 2) → k < l.length → (at' l k).ahead (at' l (firstF l i)) = false) ∧ (at' l i).ahead (at' l (firstF l i)) = false ∧ (firstF l i ≠ i → (at' l (firstF l i)).ahead (at' l i) = true) := by
 unfold firstF
 by_cases h1 : 2 * i + 1 < l.length ∧ (at' l (2 * i + 1)).ahead (at' l i) = true
 ·simp only [h1, and_self, if_true]
  by_cases h2 : 2 * i + 2 < l.length ∧ (at' l (2 * i + 2)).ahead (at' l (2 * i + 1)) = true
  ·simp only [h2, and_self, if_true]
   refine ⟨fun k hk hl => ?_, ahead_asymm (ahead_trans h2.2 h1.2), fun _ => ahead_trans h2.2 h1.2⟩
   rcases hk with rfl | rfl
   ·exact ahead_asymm h2.2
   ·exact ahead_irrefl _
  ·simp only [h2, if_false]
   refine ⟨fun k hk hl => ?_, ahead_asymm h1.2, fun _ => h1.2⟩
   rcases hk with rfl | rfl
   ·exact ahead_irrefl _
   ·cases hh : (at' l (2 * i + 2)).ahead (at' l (2 * i + 1)) with
    | false => rfl
    | true => exact absurd ⟨hl, hh⟩ h2
 ·simp only [h1, if_false]
  by_cases h2 : 2 * i + 2 < l.length ∧ (at' l (2 * i + 2)).ahead (at' l i) = true
  ·rw [if_pos h2]
   refine ⟨fun k hk hl => ?_, ahead_asymm h2.2, fun _ => h2.2⟩
   rcases hk with rfl | rfl
   ·cases hh : (at' l (2 * i + 1)).ahead (at' l (2 * i + 2)) with
    | false => rfl
    | true => exact absurd ⟨hl, ahead_trans hh h2.2⟩ h1
   ·exact ahead_irrefl _
  ·simp only [h2, if_false]
   refine ⟨fun k hk hl => ?_, ahead_irrefl _, fun h => absurd rfl h⟩
   rcases hk with rfl | rfl
   ·cases hh : (at' l (2 * i + 1)).ahead (at' l i) with
    | false => rfl
    | true => exact absurd ⟨hl, hh⟩ h1
   ·cases hh : (at' l (2 * i + 2)).ahead (at' l i) with
    | false => rfl
    | true => exact absurd ⟨hl, hh⟩ h2
theorem upF_perm (f : Nat) : ∀ (l : List Tm) (i : Nat), i < l.length → (upF f l i).Perm l := by
 induction f with
 | zero => intro l i _; exact List.Perm.refl _
 | succ f ih =>
  intro l i hi
  unfold upF
  split
  ·exact (ih _ _ (by simp; omega)).trans (swp_perm hi (by omega))
  ·exact List.Perm.refl _
theorem downF_perm (f : Nat) : ∀ (l : List Tm) (i : Nat), i < l.length → (downF f l i).Perm l := by
 induction f with
 | zero => intro l i _; exact List.Perm.refl _
 | succ f ih =>
  intro l i hi
  unfold downF
  split
  ·exact List.Perm.refl _
  ·exact (ih _ _ (by simpa using firstF_lt hi)).trans (swp_perm hi (firstF_lt hi))
def Hp (l : List Tm) : Prop := ∀ k, 0 < k → k < l.length → (at' l k).ahead (at' l ((k - 1) / 2)) = false
def HpUp (l : List Tm) (i : Nat) : Prop := (∀ k, 0 < k → k < l.length → k ≠ i → (at' l k).ahead (at' l ((k - 1) / 2)) = false) ∧ (0 < i → ∀ k, 0 < k → k < l.length → (k - 1) / 2 = i → (at' l k).ahead (at' l ((i - 1) / 2)) = false)
def HpAt (l : List Tm) (i : Nat) : Prop := (∀ k, 0 < k → k < l.length → k ≠ i → (k - 1) / 2 ≠ i → (at' l k).ahead (at' l ((k - 1) / 2)) = false) ∧ (0 < i → ∀ k, 0 < k → k < l.length → (k - 1) / 2 = i → (at' l k).ahead (at' l ((i - 1) / 2)) = false)
theorem Hp.up {l : List Tm} (h : Hp l) (i : Nat) (hi : i < l.length) : HpUp l i :=
 ⟨fun k h1 h2 _ => h k h1 h2, fun h0 k h1 h2 h3 => nahead_trans (h i h0 hi) (h3 ▸ h k h1 h2)⟩
theorem upF_hp (f : Nat) : ∀ (l : List Tm) (i : Nat), i < l.length → i ≤ f → HpUp l i → Hp (upF f l i) := by
 induction f with
 | zero =>
  intro l i hi hf h k h1 h2
  exact h.1 k h1 h2 (by omega)
 | succ f ih =>
  intro l i hi hf h
  unfold upF
  split
  ·rename_i hc
   obtain ⟨h0, ha⟩ := hc
   have hp : (i - 1) / 2 < l.length := by omega
   have hpi : (i - 1) / 2 < i := by omega
   refine ih _ _ (by simpa using hp) (by omega) ⟨fun k h1 h2 hne => ?_, fun hp0 k h1 h2 hk => ?_⟩
   ·simp only [swp_length] at h2
    rw [at'_swp hi hp, at'_swp hi hp, if_neg hne]
    by_cases hki : k = i
    ·subst hki
     rw [if_pos rfl, if_pos rfl]; exact ahead_asymm ha
    ·rw [if_neg hki]
     by_cases hkp : (k - 1) / 2 = (i - 1) / 2
     ·rw [if_pos hkp]
      have := h.1 k h1 h2 hki
      rw [hkp] at this
      exact nahead_trans (ahead_asymm ha) this
     ·rw [if_neg hkp]
      by_cases hkp2 : (k - 1) / 2 = i
      ·rw [if_pos hkp2]
       exact h.2 h0 k h1 h2 hkp2
      ·rw [if_neg hkp2]
       exact h.1 k h1 h2 hki
   ·simp only [swp_length] at h2
    have hq := h.1 ((i - 1) / 2) hp0 hp (by omega)
    rw [at'_swp hi hp, at'_swp hi hp, if_neg (by omega), if_neg (c := ((i - 1) / 2 - 1) / 2 = (i - 1) / 2) (by omega), if_neg (c := ((i - 1) / 2 - 1) / 2 = i) (by omega)]
    by_cases hki : k = i
    ·subst hki; rw [if_pos rfl]; exact hq
    ·rw [if_neg hki]
     have := h.1 k h1 h2 hki
     rw [hk] at this
     exact nahead_trans hq this
  ·rename_i hc
   intro k h1 h2
   by_cases hki : k = i
   ·subst hki
    cases hh : (at' l k).ahead (at' l ((k - 1) / 2)) with
    | false => rfl
    | true => exact absurd ⟨h1, hh⟩ hc
   ·exact h.1 k h1 h2 hki
theorem downF_hp (f : Nat) : ∀ (l : List Tm) (i : Nat), i < l.length → l.length ≤ f + i → HpAt l i → ((0 < i → (at' l i).ahead (at' l ((i - 1) / 2)) = false) → Hp (downF f l i)) ∧ HpUp (downF f l i) i := by
 induction f with
 | zero => intro l i hi hf h; omega
 | succ f ih =>
  intro l i hi hf h
  unfold downF
  split
  ·rename_i hc
   obtain ⟨s1, _, _⟩ := firstF_spec l i
   rw [hc] at s1
   have hall : ∀ k, 0 < k → k < l.length → k ≠ i → (at' l k).ahead (at' l ((k - 1) / 2)) = false := fun k h1 h2 h3 => by
    by_cases hk : (k - 1) / 2 = i
    ·rw [hk]; exact s1 k (by omega) h2
    ·exact h.1 k h1 h2 h3 hk
   refine ⟨fun hov k h1 h2 => ?_, hall, h.2⟩
   by_cases hk : k = i
   ·subst hk; exact hov h1
   ·exact hall k h1 h2 hk
  ·rename_i hc
   obtain ⟨s1, s2, s3⟩ := firstF_spec l i
   have s3 := s3 hc
   have hfl := firstF_lt hi
   have hcs := firstF_cases l i
   generalize firstF l i = j at *
   have hji : i < j := by omega
   have hpj : (j - 1) / 2 = i := by omega
   have hat : HpAt (swp l i j) j := by
    refine ⟨fun k h1 h2 h3 h4 => ?_, fun h0 k h1 h2 hk => ?_⟩
    ·simp only [swp_length] at h2
     rw [at'_swp hi hfl, at'_swp hi hfl, if_neg h3, if_neg h4]
     by_cases hki : k = i
     ·subst hki
      rw [if_pos rfl, if_neg (by omega)]
      exact h.2 h1 j (by omega) hfl hpj
     ·rw [if_neg hki]
      by_cases hkp : (k - 1) / 2 = i
      ·rw [if_pos hkp]; exact s1 k (by omega) h2
      ·rw [if_neg hkp]; exact h.1 k h1 h2 hki hkp
    ·simp only [swp_length] at h2
     rw [at'_swp hi hfl, at'_swp hi hfl, if_neg (by omega), if_neg (by omega), if_neg (by omega), if_pos hpj]
     have := h.1 k h1 h2 (by omega) (by omega)
     rwa [hk] at this
   have hov : 0 < j → (at' (swp l i j) j).ahead (at' (swp l i j) ((j - 1) / 2)) = false := fun _ => by
    rw [at'_swp hi hfl, at'_swp hi hfl, if_pos rfl, if_neg (by omega), if_pos hpj]
    exact ahead_asymm s3
   obtain ⟨g1, _⟩ := ih (swp l i j) j (by simpa using hfl) (by simp; omega) hat
   have hH := g1 hov
   refine ⟨fun _ => hH, hH.up i ?_⟩
   have := (downF_perm f (swp l i j) j (by simpa using hfl)).length_eq
   rw [this]; simpa using hi
theorem Hp.min {l : List Tm} (h : Hp l) : ∀ k, k < l.length → (at' l k).ahead (at' l 0) = false := by
 intro k
 induction k using Nat.strongRecOn with
 | _ k ih =>
  intro hk
  by_cases h0 : k = 0
  ·subst h0; exact ahead_irrefl _
  ·exact nahead_trans (ih ((k - 1) / 2) (by omega) (by omega)) (h k (by omega) hk)
def addF (l : List Tm) (t : Tm) : List Tm := upF l.length (l ++ [t]) l.length
theorem addF_perm (l : List Tm) (t : Tm) : (addF l t).Perm (l ++ [t]) := upF_perm _ _ _ (by simp)
theorem addF_hp {l : List Tm} (t : Tm) (h : Hp l) : Hp (addF l t) := by
 have e : ∀ k, k < l.length → at' (l ++ [t]) k = at' l k := fun k hk => by simp [at', List.getElem?_append, hk]
 refine upF_hp _ _ _ (by simp) (Nat.le_refl _) ⟨fun k h1 h2 h3 => ?_, fun h0 k h1 h2 h3 => ?_⟩
 ·simp only [List.length_append, List.length_cons, List.length_nil] at h2
  rw [e k (by omega), e _ (by omega)]
  exact h k h1 (by omega)
 ·simp only [List.length_append, List.length_cons, List.length_nil] at h2
  omega
def cutF (l : List Tm) (i : Nat) : List Tm := (swp l i (l.length - 1)).take (l.length - 1)
def remF (l : List Tm) (i : Nat) : List Tm := if i < l.length - 1 then upF i (downF l.length (cutF l i) i) i else cutF l i
theorem cutF_length {l : List Tm} {i : Nat} : (cutF l i).length = l.length - 1 := by simp [cutF]
theorem cutF_perm {l : List Tm} {i : Nat} (hi : i < l.length) : (at' l i :: cutF l i).Perm l := by
 have hp := swp_perm hi (show l.length - 1 < l.length by omega)
 refine List.Perm.trans ?_ hp
 have h1 : (swp l i (l.length - 1)).drop (l.length - 1) = [at' l i] := by
  apply List.ext_getElem?
  intro k
  rw [List.getElem?_drop]
  by_cases hk : k = 0
  ·subst hk
   rw [at'_get (by simp; omega), at'_swp hi (by omega)]
   simp
  ·rw [List.getElem?_eq_none (by simp; omega), List.getElem?_eq_none (by simp; omega)]
 have h2 := List.take_append_drop (l.length - 1) (swp l i (l.length - 1))
 rw [h1] at h2
 rw [← h2, cutF]
 exact (List.perm_append_singleton _ _).symm
theorem remF_perm {l : List Tm} {i : Nat} (hi : i < l.length) : (at' l i :: remF l i).Perm l := by
 unfold remF
 split
 ·refine List.Perm.trans (List.Perm.cons _ ?_) (cutF_perm hi)
  have hd := downF_perm l.length (cutF l i) i (by rw [cutF_length]; omega)
  exact (upF_perm _ _ _ (by rw [hd.length_eq, cutF_length]; omega)).trans hd
 ·exact cutF_perm hi
theorem at'_cutF {l : List Tm} {i : Nat} (hi : i < l.length) {k : Nat} (hk : k < l.length - 1) : at' (cutF l i) k = if k = i then at' l (l.length - 1) else at' l k := by
 have : at' (cutF l i) k = at' (swp l i (l.length - 1)) k := by simp only [at', cutF, List.getElem?_take, if_pos hk]
 rw [this, at'_swp hi (by omega), if_neg (by omega)]
theorem remF_hp {l : List Tm} {i : Nat} (hi : i < l.length) (h : Hp l) : Hp (remF l i) := by
 unfold remF
 split
 ·rename_i hlt
  have hl := @cutF_length l i
  have hat : HpAt (cutF l i) i := by
   refine ⟨fun k h1 h2 h3 h4 => ?_, fun h0 k h1 h2 hk => ?_⟩
   ·rw [hl] at h2
    rw [at'_cutF hi h2, at'_cutF hi (by omega), if_neg h3, if_neg h4]
    exact h k h1 (by omega)
   ·rw [hl] at h2
    rw [at'_cutF hi h2, at'_cutF hi (by omega), if_neg (by omega), if_neg (by omega)]
    have e1 := h k h1 (by omega)
    rw [hk] at e1
    exact nahead_trans (h i h0 (by omega)) e1
  obtain ⟨_, g⟩ := downF_hp l.length (cutF l i) i (by rw [hl]; omega) (by rw [hl]; omega) hat
  have hd := (downF_perm l.length (cutF l i) i (by rw [hl]; omega)).length_eq
  exact upF_hp i _ i (by rw [hd, hl]; omega) (Nat.le_refl _) g
 ·rename_i hlt
  intro k h1 h2
  rw [cutF_length] at h2
  rw [at'_cutF hi h2, at'_cutF hi (by omega), if_neg (by omega), if_neg (by omega)]
  exact h k h1 (by omega)
end

section
def IdN (l : List Tm) : Prop := (l.map (·.id)).Nodup
theorem IdN.perm {l L : List Tm} (h : IdN l) (p : l.Perm L) : IdN L := (p.map _).nodup_iff.1 h
theorem IdN.inj {l : List Tm} (h : IdN l) {a b : Nat} (ha : a < l.length) (hb : b < l.length) (e : (at' l a).id = (at' l b).id) : a = b := by
 have h' : (l.map (·.id)).Nodup := h
 exact (List.getElem_inj (xs := l.map (·.id)) (h₀ := by simpa using ha) (h₁ := by simpa using hb) h').1 (by simpa [at', ha, hb] using e)
theorem mem_at' {l : List Tm} {t : Tm} : t ∈ l ↔ ∃ k, k < l.length ∧ at' l k = t := by
 rw [List.mem_iff_getElem]
 constructor
 ·rintro ⟨k, hk, rfl⟩; exact ⟨k, hk, by simp [at', hk]⟩
 ·rintro ⟨k, hk, rfl⟩; exact ⟨k, hk, by simp [at', hk]⟩
theorem at'_mem {l : List Tm} {k : Nat} (h : k < l.length) : at' l k ∈ l := mem_at'.2 ⟨k, h, rfl⟩
def PlOk (l : List Tm) (m : List (Int × Int)) : Prop := KN m ∧ ∀ id v, mget m id = some v ↔ ∃ k : Nat, k < l.length ∧ (at' l k).id = id ∧ v = (k : Int)
theorem PlOk.nil : PlOk [] [] := ⟨KN.nil, fun id v => by simp [mget_nil]⟩
theorem PlOk.swap {l : List Tm} {m : List (Int × Int)} (h : PlOk l m) (hn : IdN l) {i j : Nat} (hi : i < l.length) (hj : j < l.length) :
  PlOk (swp l i j) (mset (mset m (at' (swp l i j) i).id (i : Int)) (at' (swp l i j) j).id (j : Int)) := by
 have hn' : IdN (swp l i j) := hn.perm (swp_perm hi hj).symm
 refine ⟨(h.1.mset _ _).mset _ _, fun id v => ?_⟩
 rw [mget_mset, mget_mset]
 have hj' : j < (swp l i j).length := by simpa using hj
 have hi' : i < (swp l i j).length := by simpa using hi
 by_cases e1 : (at' (swp l i j) j).id = id
 ·rw [if_pos e1]
  constructor
  ·intro e; cases e; exact ⟨j, hj', e1, rfl⟩
  ·rintro ⟨k, hk, e, rfl⟩
   rw [hn'.inj hk hj' (e.trans e1.symm)]
 ·rw [if_neg e1]
  by_cases e2 : (at' (swp l i j) i).id = id
  ·rw [if_pos e2]
   constructor
   ·intro e; cases e; exact ⟨i, hi', e2, rfl⟩
   ·rintro ⟨k, hk, e, rfl⟩
    rw [hn'.inj hk hi' (e.trans e2.symm)]
  ·rw [if_neg e2, h.2 id v]
   have a1 := at'_swp hi hj j
   have a2 := at'_swp hi hj i
   rw [if_pos rfl] at a1
   constructor
   ·rintro ⟨k, hk, e, rfl⟩
    have k1 : k ≠ i := by rintro rfl; rw [a1] at e1; exact e1 e
    have k2 : k ≠ j := by
     rintro rfl
     by_cases hij : i = k
     ·subst hij; rw [a1] at e1; exact e1 e
     ·rw [if_neg hij, if_pos rfl] at a2; rw [a2] at e2; exact e2 e
    exact ⟨k, by simpa using hk, by rw [at'_swp hi hj, if_neg k2, if_neg k1]; exact e, rfl⟩
   ·rintro ⟨k, hk, e, rfl⟩
    have k1 : k ≠ i := by rintro rfl; exact e2 e
    have k2 : k ≠ j := by rintro rfl; exact e1 e
    rw [at'_swp hi hj, if_neg k2, if_neg k1] at e
    exact ⟨k, by simpa using hk, e, rfl⟩
theorem at'_append {l : List Tm} (t : Tm) (k : Nat) : at' (l ++ [t]) k = if k = l.length then t else at' l k := by
 unfold at'
 rw [List.getElem?_append]
 split
 ·rw [if_neg (by omega)]
 ·split
  ·rename_i h; subst h; simp
  ·rw [List.getElem?_eq_none (by simp; omega), List.getElem?_eq_none (by omega)]
theorem PlOk.snoc {l : List Tm} {m : List (Int × Int)} (h : PlOk l m) (t : Tm) (ht : ∀ u ∈ l, u.id ≠ t.id) : PlOk (l ++ [t]) (mset m t.id (l.length : Int)) := by
 refine ⟨h.1.mset _ _, fun id v => ?_⟩
 rw [mget_mset]
 by_cases e : t.id = id
 ·rw [if_pos e]
  constructor
  ·intro e2; cases e2; exact ⟨l.length, by simp, by rw [at'_append, if_pos rfl]; exact e, rfl⟩
  ·rintro ⟨k, hk, e2, rfl⟩
   rw [at'_append] at e2
   split at e2
   ·rename_i hk2; rw [hk2]
   ·simp at hk
    exact absurd (e2.trans e.symm) (ht _ (at'_mem (by omega)))
 ·rw [if_neg e, h.2]
  constructor
  ·rintro ⟨k, hk, e2, rfl⟩; exact ⟨k, by simp; omega, by rw [at'_append, if_neg (by omega)]; exact e2, rfl⟩
  ·rintro ⟨k, hk, e2, rfl⟩
   rw [at'_append] at e2
   split at e2
   ·exact absurd e2 e
   ·simp at hk; exact ⟨k, by omega, e2, rfl⟩
theorem at'_take {l : List Tm} {n k : Nat} (h : k < n) : at' (l.take n) k = at' l k := by simp only [at', List.getElem?_take, if_pos h]
theorem PlOk.pop {l : List Tm} {m : List (Int × Int)} (h : PlOk l m) (hn : IdN l) (h0 : 0 < l.length) : PlOk (l.take (l.length - 1)) (mdel m (at' l (l.length - 1)).id) := by
 refine ⟨h.1.mdel _, fun id v => ?_⟩
 rw [mget_mdel h.1]
 by_cases e : (at' l (l.length - 1)).id = id
 ·rw [if_pos e]
  constructor
  ·intro e2; cases e2
  ·rintro ⟨k, hk, e2, rfl⟩
   simp at hk
   rw [at'_take (by omega)] at e2
   have := hn.inj (by omega) (by omega) (e2.trans e.symm)
   omega
 ·rw [if_neg e, h.2]
  constructor
  ·rintro ⟨k, hk, e2, rfl⟩
   have : k ≠ l.length - 1 := by rintro rfl; exact e e2
   exact ⟨k, by simp; omega, by rw [at'_take (by omega)]; exact e2, rfl⟩
  ·rintro ⟨k, hk, e2, rfl⟩
   simp at hk
   rw [at'_take (by omega)] at e2
   exact ⟨k, by omega, e2, rfl⟩
def bestN (L : List Tm) (now : UInt64) : Nat → Option Nat
 | 0 => none
 | n + 1 => match bestN L now n with
  | none => if (at' L n).at_ ≤ now then some n else none
  | some b => if (at' L n).at_ ≤ now ∧ (at' L n).at_ < (at' L b).at_ then some n else some b
theorem bestN_none {L : List Tm} {now : UInt64} : ∀ {n : Nat}, bestN L now n = none → ∀ j, j < n → now < (at' L j).at_
 | 0, _, j, hj => absurd hj (Nat.not_lt_zero _)
 | n + 1, h, j, hj => by
  simp only [bestN] at h
  cases hb : bestN L now n with
  | none =>
   rw [hb] at h
   simp only at h
   split at h
   ·cases h
   ·rename_i hc
    by_cases e : j = n
    ·subst e; simpa [UInt64.lt_iff_toNat_lt, UInt64.le_iff_toNat_le] using hc
    ·exact bestN_none hb j (by omega)
  | some b =>
   rw [hb] at h
   simp only at h
   split at h <;> cases h
theorem bestN_some {L : List Tm} {now : UInt64} : ∀ {n b : Nat}, bestN L now n = some b → b < n ∧ (at' L b).at_.toNat ≤ now.toNat ∧ (∀ j, j < n → (at' L b).at_.toNat ≤ (at' L j).at_.toNat) ∧ ∀ j, j < b → (at' L b).at_.toNat < (at' L j).at_.toNat
 | 0, b, h => by cases h
 | n + 1, b, h => by
  simp only [bestN] at h
  cases hb : bestN L now n with
  | none =>
   rw [hb] at h
   simp only at h
   split at h
   ·rename_i hc
    obtain rfl : n = b := by simpa using h
    have h1 := bestN_none hb
    rw [UInt64.le_iff_toNat_le] at hc
    refine ⟨by omega, hc, fun j hj => ?_, fun j hj => ?_⟩
    ·by_cases e : j = n
     ·subst e; exact Nat.le_refl _
     ·have := h1 j (by omega); rw [UInt64.lt_iff_toNat_lt] at this; omega
    ·have := h1 j (by omega); rw [UInt64.lt_iff_toNat_lt] at this; omega
   ·cases h
  | some c =>
   rw [hb] at h
   obtain ⟨g1, g2, g3, g4⟩ := bestN_some hb
   simp only [UInt64.lt_iff_toNat_lt, UInt64.le_iff_toNat_le] at h
   split at h
   ·rename_i hc
    obtain rfl : n = b := by simpa using h
    refine ⟨by omega, hc.1, fun j hj => ?_, fun j hj => ?_⟩
    ·by_cases e : j = n
     ·subst e; exact Nat.le_refl _
     ·have := g3 j (by omega); omega
    ·have := g3 j (by omega); omega
   ·rename_i hc
    cases h
    refine ⟨by omega, g2, fun j hj => ?_, g4⟩
    by_cases e : j = n
    ·subst e; omega
    ·exact g3 j (by omega)
structure TR (l L : List Tm) (last : Int) : Prop where
  perm : l.Perm L
  hp : Hp l
  rising : (L.map (·.id)).Pairwise (· < ·)
  bound : ∀ t ∈ L, 1 ≤ t.id ∧ t.id ≤ last
theorem TR.nil : TR [] [] 0 := ⟨List.Perm.refl _, fun k _ h => absurd h (Nat.not_lt_zero _), List.Pairwise.nil, fun t h => by cases h⟩
theorem TR.idN {l L : List Tm} {last : Int} (h : TR l L last) : IdN L := h.rising.imp (fun h => by omega)
theorem TR.idn {l L : List Tm} {last : Int} (h : TR l L last) : IdN l := h.idN.perm h.perm.symm
theorem TR.add {l L : List Tm} {last : Int} (h : TR l L last) (hl : 0 ≤ last) (t : Tm) (ht : t.id = last + 1) : TR (addF l t) (L ++ [t]) (last + 1) := by
 refine ⟨(addF_perm l t).trans (h.perm.append_right [t]), addF_hp t h.hp, ?_, fun u hu => ?_⟩
 ·rw [List.map_append]
  refine List.pairwise_append.2 ⟨h.rising, by simp, fun a ha b hb => ?_⟩
  obtain ⟨u, hu, rfl⟩ := List.mem_map.1 ha
  have := h.bound u hu
  simp at hb; subst hb; omega
 ·rcases List.mem_append.1 hu with hu | hu
  ·have := h.bound u hu; omega
  ·simp at hu; subst hu; omega
theorem erase_perm {L : List Tm} {k : Nat} (h : k < L.length) : (at' L k :: L.eraseIdx k).Perm L := by
 have e : at' L k = L[k] := by simp [at', h]
 rw [e]
 clear e
 induction L generalizing k with
 | nil => simp at h
 | cons a L ih =>
  cases k with
  | zero => simp
  | succ k =>
   have := ih (k := k) (by simpa using h)
   simp only [List.getElem_cons_succ, List.eraseIdx_cons_succ]
   exact (List.Perm.swap _ _ _).trans (this.cons a)
theorem TR.rem {l L : List Tm} {last : Int} (h : TR l L last) {i k : Nat} (hi : i < l.length) (hk : k < L.length) (e : (at' l i).id = (at' L k).id) : at' l i = at' L k ∧ TR (remF l i) (L.eraseIdx k) last := by
 have e1 : at' l i = at' L k := by
  have h1 := h.perm.mem_iff.1 (at'_mem hi)
  obtain ⟨j, hj, hje⟩ := mem_at'.1 h1
  rw [← hje] at e ⊢
  rw [h.idN.inj hj hk e]
 refine ⟨e1, ?_, remF_hp hi h.hp, ?_, fun t ht => h.bound t (List.mem_of_mem_eraseIdx ht)⟩
 ·have := (remF_perm hi).trans (h.perm.trans (erase_perm hk).symm)
  rw [e1] at this
  exact this.cons_inv
 ·exact h.rising.sublist ((List.eraseIdx_sublist L k).map _)
theorem TR.idle {l L : List Tm} {last : Int} (h : TR l L last) {now : UInt64} (h0 : 0 < l.length → now < (at' l 0).at_) : bestN L now L.length = none := by
 cases hb : bestN L now L.length with
 | none => rfl
 | some b =>
  obtain ⟨g1, g2, _, _⟩ := bestN_some hb
  have hm := h.perm.mem_iff.2 (at'_mem g1)
  obtain ⟨j, hj, hje⟩ := mem_at'.1 hm
  have h1 := h0 (by omega)
  have h2 := h.hp.min j hj
  rw [UInt64.lt_iff_toNat_lt] at h1
  have : ¬ (at' l j).ahead (at' l 0) = true := by simp [h2]
  rw [ahead_iff, hje] at this
  omega
theorem TR.due {l L : List Tm} {last : Int} (h : TR l L last) {now : UInt64} (h0 : 0 < l.length) (h1 : ¬ now < (at' l 0).at_) : ∃ b, bestN L now L.length = some b ∧ b < L.length ∧ at' l 0 = at' L b ∧ TR (remF l 0) (L.eraseIdx b) last := by
 obtain ⟨j, hj, hje⟩ := mem_at'.1 (h.perm.mem_iff.1 (at'_mem h0))
 cases hb : bestN L now L.length with
 | none =>
  have := bestN_none hb j hj
  rw [hje] at this
  exact absurd this h1
 | some b =>
  obtain ⟨g1, g2, g3, g4⟩ := bestN_some hb
  obtain ⟨i, hi, hie⟩ := mem_at'.1 (h.perm.mem_iff.2 (at'_mem g1))
  have h2 := h.hp.min i hi
  have h3 : ¬ (at' l i).ahead (at' l 0) = true := by simp [h2]
  rw [ahead_iff, hie, ← hje] at h3
  have h4 := g3 j hj
  have hjb : j = b := by
   rcases Nat.lt_trichotomy j b with hlt | he | hgt
   ·have := g4 j hlt; omega
   ·exact he
   ·have := List.pairwise_iff_getElem.1 h.rising b j (by simpa using g1) (by simpa using hj) hgt
    simp only [List.getElem_map] at this
    have e1 : at' L b = L[b] := by simp [at', g1]
    have e2 : at' L j = L[j] := by simp [at', hj]
    rw [e1, e2] at h3
    rw [e1, e2] at h4
    omega
  subst hjb
  have hr := h.rem h0 g1 (by rw [hje])
  exact ⟨j, rfl, g1, hr.1, hr.2⟩
end

section
open Go.RowKit
attribute [local irreducible] WS LS OpQ OpT OpH OpTQ Spec SpecQ cel
variable (w0 : World)
def tmC (t : Tm) : List Value := [u64 t.at_, .int .i64 t.id, .int .i64 t.what]
instance : FixLen tmC 3 := ⟨fun _ => rfl⟩
theorem tmC_one : ∀ z, ∀ c ∈ tmC z, c.oneCell' = true := by intro z c hc; simp [tmC] at hc; rcases hc with rfl | rfl | rfl <;> rfl
abbrev heapP (b : Nat) (v : Value) (r : Nat) (last : Int) (l : List Tm) (m : List (Int × Int)) : HProp :=
 cel b 222 [v, .map (some r), .int .i64 last] * (rows 292 3 tmC v l * mp i64 i64 r m)
theorem ahead_spec (t u : Tm) : Spec Tryz.prog w0 233 [.agg (tmC t).toArray, .agg (tmC u).toArray] emp (fun _ : Unit => .bool (t.ahead u)) (fun _ => emp) := by
  refine Spec.enter Tryz.func233 rfl Tryz.ntmps233 rfl fun G => ?_
  simp only [argE, tmC]
  repeat' (first | (refine WS_seqK ?_; intro K hK) | (refine hK _ ?_; clear hK K) | refine stZ ?_ | (refine s2Z ?_ ?_ <;> intro hc <;> (try simp only [cS] at hc) <;> (try (exfalso; first | contradiction | omega))) | refine sqZ ?_ | ((first | refine LS_binS rfl rfl iI rfl ?_ ?_ | refine LS_binN rfl rfl iI rfl ?_ ?_) <;> intro hc) | (refine shZ ?_; intro g))
  all_goals exact ret_tmp (.inl rfl) rfl rfl ⟨(), by simp [Tm.ahead, *], finE⟩
set_option maxRecDepth 100000 in
theorem swap_spec (b : Nat) (v : Value) (r : Nat) (last : Int) (l : List Tm) (m : List (Int × Int)) (i j : Nat) (x y : Int) (hx : x = (i : Int)) (hy : y = (j : Int)) (hi : i < l.length) (hj : j < l.length) :
    Spec Tryz.prog w0 222 [ptr b 0, .int .i64 x, .int .i64 y] (heapP b v r last l m) (fun _ : Unit => .tuple #[]) (fun _ => heapP b v r last (swp l i j) (mset (mset m (at' (swp l i j) i).id (i : Int)) (at' (swp l i j) j).id (j : Int))) := by
  subst hx hy
  refine Spec.enter Tryz.func222 rfl Tryz.ntmps222 rfl fun G => ?_
  simp only [argE]
  refine WS_some v iI iI rfl (by omega) fun g' off cap hv => ?_
  subst hv
  have hli := at'_get hi
  have hlj := at'_get hj
  have hs1 : ((l.set i (at' l j)).set j (at' l i))[i]? = some (at' (swp l i j) i) := at'_get (by simpa using hi)
  have hs2 : ((l.set i (at' l j)).set j (at' l i))[j]? = some (at' (swp l i j) j) := at'_get (by simpa using hj)
  repeat' (first | (show WS _ _ _ (.region 0 _ true) _ _; refine WS_drawK (.range 28) 25 [3, 8, 13, 15, 16, 20, 22, 23, 24] (by decide +kernel) rfl ?_) | (show WS _ _ _ (.region 1 _ true) _ _; refine WS_drawK (.range 14) 13 [3, 7, 9, 10, 11] (by decide +kernel) rfl ?_) | (show WS _ _ _ (.region 2 _ true) _ _; refine WS_drawK (.range 14) 13 [3, 7, 9, 10, 11] (by decide +kernel) rfl ?_) | (refine WS_seqK ?_; intro K hK) | (refine hK _ ?_; clear hK K) | refine stZ ?_ | refine sqZ ?_ | ((first | refine' DL_qp rfl rfl rfl ?zh ?_ | refine' DL_q rfl rfl ?zh ?_); case zh => intro F'; exact Q_indexV rfl rfl iI iI iI (by first | assumption | omega)) | ((refine' DL_h0 ?zh rfl rfl ?_); (case zh => first | exact H_mapUpdate rfl rfl rfl iI iI iI iI iI | exact H_storeRA _ rfl rfl rfl iI iI iI rfl rfl (by first | assumption | omega | (simp [be_length] <;> omega))); intro g))
  exact ret_none (.inr rfl) rfl ⟨(), rfl, finE⟩
theorem upF_fuel : ∀ (f : Nat) (l : List Tm) (i : Nat), i ≤ f → upF f l i = upF i l i
  | 0, l, i, h => by have : i = 0 := by omega
                     subst this; rfl
  | f + 1, l, 0, _ => by simp [upF]
  | f + 1, l, i + 1, h => by
    simp only [upF]
    split
    · rw [upF_fuel f _ _ (by omega), upF_fuel i _ _ (by omega)]
    · rfl
set_option maxRecDepth 100000 in
theorem up_spec (b : Nat) (v : Value) (r : Nat) (last : Int) (l : List Tm) (m : List (Int × Int)) (i : Nat) (x : Int) (hx : x = (i : Int)) (hi : i < l.length) (hl : l.length ≤ 1000000) (hm : PlOk l m) (hn : IdN l) :
    Spec Tryz.prog w0 224 [ptr b 0, .int .i64 x] (heapP b v r last l m) (fun _ : List (Int × Int) => .tuple #[]) (fun m' => pure' (PlOk (upF i l i) m') * heapP b v r last (upF i l i) m') := by
  subst hx
  refine Spec.enter Tryz.func224 rfl Tryz.ntmps224 rfl fun G => ?_
  simp only [argE]
  repeat' (refine stZ ?_)
  refine WS_loop (fun k τ => ∃ (l' : List Tm) (m' : List (Int × Int)), k < l'.length ∧ l'.length = l.length ∧ PlOk l' m' ∧ IdN l' ∧ upF k l' k = upF i l i ∧ τ = ⟨[(1, .int .i64 (k : Int)), (0, ptr b 0)], [], heapP b v r last l' m' * G⟩) ?_ ?_
  · exact ⟨i, _, ⟨l, m, hi, rfl, hm, hn, rfl, rfl⟩, ⟨rfl, rfl, trivial⟩, rfl, Ent.refl _⟩
  · rintro k τ ⟨l', m', hk, hll, hm', hn', hu, rfl⟩
    have hlk := at'_get hk
    have hlo := at'_get (show (k - 1) / 2 < l'.length by omega)
    rcases Nat.eq_zero_or_pos k with h0 | h0
    · subst h0
      repeat' (first | (refine WS_seqK ?_; intro K hK) | (refine hK _ ?_; clear hK K) | refine stZ ?_ | (refine s2Z ?_ ?_ <;> intro hc <;> (try simp only [cS] at hc) <;> (try (exfalso; first | contradiction | omega))) | refine sbZ ?_ | refine sqZ ?_)
      refine ret_none (.inr rfl) rfl ⟨m', rfl, ?_⟩
      rw [← hu]
      exact (Ent.pure_in hm').trans (finE)
    · have e1 : ((k : Int) - 1) / 2 = (((k - 1) / 2 : Nat) : Int) := by omega
      repeat' (first | (show WS _ _ _ (.region 2 _ true) _ _; refine WS_drawA (.range 16) (by decide +kernel) rfl ?_) | (refine WS_seqK ?_; intro K hK) | (refine hK _ ?_; clear hK K) | refine stZ ?_ | (refine s2Z ?_ ?_ <;> intro hc <;> (try simp only [cS] at hc) <;> (try (exfalso; first | contradiction | omega))) | refine sbZ ?_ | refine sqZ ?_ | ((first | refine' LQ ?zh rfl ?_ | refine' DL_q rfl rfl ?zh ?_); case zh => intro F'; exact Q_quoI rfl rfl (by omega)) | rw [e1] | (refine DL_h (H_callX iI rfl (ahead_spec w0 (at' l' k) (at' l' ((k - 1) / 2))) iI) rfl rfl rfl ?_; intro g) | (refine LS_h (H_callX iI rfl (swap_spec w0 b v r last l' m' k ((k - 1) / 2) _ _ rfl rfl hk (by omega)) iI) rfl ?_; intro g))
      · refine ret_none (.inl rfl) rfl ⟨m', rfl, ?_⟩
        have e : upF k l' k = l' := by
          obtain ⟨j, rfl⟩ : ∃ j, k = j + 1 := ⟨k - 1, by omega⟩
          rw [upF, if_neg (by simp_all)]
        rw [← hu, e]
        exact (Ent.pure_in hm').trans (finE)
      · refine ⟨(k - 1) / 2, _, by omega, ⟨swp l' k ((k - 1) / 2), _, by rw [swp_length]; omega, by rw [swp_length]; exact hll, hm'.swap hn' hk (by omega), hn'.perm (swp_perm hk (by omega)).symm, ?_, rfl⟩, ⟨rfl, rfl, trivial⟩, rfl, finE⟩
        rw [← hu]
        obtain ⟨j, rfl⟩ : ∃ j, k = j + 1 := ⟨k - 1, by omega⟩
        rw [upF, if_pos ⟨by omega, by simpa using hc⟩, upF_fuel j _ _ (by omega)]
end

section
open Go.RowKit
attribute [local irreducible] WS LS OpQ OpT OpH OpTQ Spec SpecQ cel
variable (w0 : World)
set_option maxRecDepth 100000 in
theorem down_spec (b : Nat) (v : Value) (r : Nat) (last : Int) (l : List Tm) (m : List (Int × Int)) (i N : Nat) (x : Int) (hx : x = (i : Int)) (hi : i < l.length) (hN : l.length ≤ N) (hl : l.length ≤ 1000000) (hm : PlOk l m) (hn : IdN l) :
    Spec Tryz.prog w0 223 [ptr b 0, .int .i64 x] (heapP b v r last l m) (fun _ : List (Int × Int) => .tuple #[]) (fun m' => pure' (PlOk (downF N l i) m') * heapP b v r last (downF N l i) m') := by
  subst hx
  refine Spec.enter Tryz.func223 rfl Tryz.ntmps223 rfl fun G => ?_
  simp only [argE]
  repeat' (refine stZ ?_)
  refine WS_loop (fun f τ => ∃ (k : Nat) (y : Int) (l' : List Tm) (m' : List (Int × Int)), y = (k : Int) ∧ k < l'.length ∧ l'.length = l.length ∧ l.length ≤ f + k ∧ PlOk l' m' ∧ IdN l' ∧ downF f l' k = downF N l i ∧ τ = ⟨[(1, .int .i64 y), (0, ptr b 0)], [], heapP b v r last l' m' * G⟩) ?_ ?_
  · exact ⟨N, _, ⟨i, _, l, m, rfl, hi, rfl, by omega, hm, hn, rfl, rfl⟩, ⟨rfl, rfl, trivial⟩, rfl, Ent.refl _⟩
  · rintro f τ ⟨k, y, l', m', rfl, hk, hll, hf, hm', hn', hu, rfl⟩
    obtain ⟨f, rfl⟩ : ∃ j, f = j + 1 := ⟨f - 1, by omega⟩
    have stop : firstF l' k = k → Ent (heapP b v r last l' m' * G) (pure' (PlOk (downF N l i) m') * heapP b v r last (downF N l i) m' * G) := fun e => by
      rw [← hu, downF, if_pos e]
      exact (Ent.pure_in hm').trans (finE)
    have next : ∀ k', firstF l' k = k' → k' ≠ k → k' < l'.length → k < k' → ∃ m1, m1 < f + 1 ∧ ∃ (k2 : Nat) (l2 : List Tm) (m2 : List (Int × Int)), k2 = k' ∧ l2 = swp l' k k' ∧ m2 = (mset (mset m' (at' (swp l' k k') k).id (k : Int)) (at' (swp l' k k') k').id (k' : Int)) ∧ k2 < l2.length ∧ l2.length = l.length ∧ l.length ≤ m1 + k2 ∧ PlOk l2 m2 ∧ IdN l2 ∧ downF m1 l2 k2 = downF N l i := fun k' e h1 h2 h3 => by
      refine ⟨f, by omega, k', _, _, rfl, rfl, rfl, by rw [swp_length]; omega, by rw [swp_length]; exact hll, by omega, hm'.swap hn' hk h2, hn'.perm (swp_perm hk h2).symm, ?_⟩
      rw [← hu, downF, if_neg (by rw [e]; exact h1), e]
    repeat' (first | (refine WS_seqK ?_; intro K hK) | (refine hK _ ?_; clear hK K) | refine stZ ?_ | refine sqZ ?_)
    refine WS_unroll 3 ?_
    repeat' (first | (show WS _ _ _ (.region 4 _ true) _ _; refine WS_drawA (.range 15) (by decide +kernel) rfl ?_) | (refine WS_seqK ?_; intro K hK) | (refine hK _ ?_; clear hK K) | refine stZ ?_ | (refine s2Z ?_ ?_ <;> intro hc <;> (try simp only [cS] at hc) <;> (try (exfalso; first | contradiction | omega))) | refine sbZ ?_ | ((first | refine' LQ ?zh rfl ?_ | refine' DL_q rfl rfl ?zh ?_); case zh => intro F'; first | exact Q_move rfl | exact Q_assign rfl | exact Q_nilCheck rfl | exact Q_fieldAddr rfl iI rfl | exact Q_load rfl iI iI rfl | exact Q_addI rfl rfl (by omega) | exact Q_pick_t rfl iI rfl | exact Q_pick_f rfl iI rfl | exact Q_index rfl rfl iI iI iI iI (by first | assumption | omega | (simp [be_length] <;> omega)) | exact Q_lenR rfl iI iI | exact Q_mulI rfl rfl (by omega)) | ((first | refine LS_binS rfl rfl iI rfl ?_ ?_ | refine LS_binN rfl rfl iI rfl ?_ ?_ | refine DL_binS rfl rfl iI rfl ?_ ?_) <;> intro hc) | (refine DL_q rfl rfl (fun F' => Q_loadRA rfl iI iI iI (at'_get (by omega))) ?_) | (refine DL_h (H_callX iI rfl (ahead_spec w0 _ _) iI) rfl rfl rfl ?_; intro g) | (refine LS_h (H_callX iI rfl (swap_spec w0 b v r last l' m' k (2 * k + 1) _ _ rfl (by omega) hk (by omega)) iI) rfl ?_; intro g) | (refine LS_h (H_callX iI rfl (swap_spec w0 b v r last l' m' k (2 * k + 2) _ _ rfl (by omega) hk (by omega)) iI) rfl ?_; intro g))
    all_goals first
      | exact ret_none (.inl rfl) rfl ⟨m', rfl, Ent.trans (finE) (stop (by clear next stop hu hm' hn' hm hn; (simp only [firstF]; repeat' split) <;> (first | omega | (simp_all; done) | (simp_all; omega))))⟩
      | (obtain ⟨m1, h1, k2, l2, m2, rfl, rfl, rfl, h2, h3, h4, h5, h6, h7⟩ := next (2 * k + 1) (by clear next stop hu hm' hn' hm hn; (simp only [firstF]; repeat' split) <;> (first | omega | (simp_all; done) | (simp_all; omega))) (by omega) (by omega) (by omega)
         exact ⟨m1, _, h1, ⟨_, _, _, _, by omega, h2, h3, h4, h5, h6, h7, rfl⟩, ⟨rfl, rfl, trivial⟩, rfl, finE⟩)
      | (obtain ⟨m1, h1, k2, l2, m2, rfl, rfl, rfl, h2, h3, h4, h5, h6, h7⟩ := next (2 * k + 2) (by clear next stop hu hm' hn' hm hn; (simp only [firstF]; repeat' split) <;> (first | omega | (simp_all; done) | (simp_all; omega))) (by omega) (by omega) (by omega)
         exact ⟨m1, _, h1, ⟨_, _, _, _, by omega, h2, h3, h4, h5, h6, h7, rfl⟩, ⟨rfl, rfl, trivial⟩, rfl, finE⟩)
end

section
open Go.RowKit
attribute [local irreducible] WS LS OpQ OpT OpH OpTQ Spec SpecQ cel
variable (w0 : World)
def heapQ (b r : Nat) (last : Int) (l : List Tm) : HProp := hex fun v => hex fun m => pure' (PlOk l m) * heapP b v r last l m
theorem Ent.heapQ {b r : Nat} {last : Int} {l : List Tm} {v : Value} {m : List (Int × Int)} {H F : HProp} (hm : PlOk l m) (h : Ent H (heapP b v r last l m * F)) : Ent H (heapQ b r last l * F) :=
 h.trans ((Ent.pure_in hm).trans ((Ent.of_eq (star_assoc _ _ _).symm).trans ((Ent.hex_in (p := fun m => pure' (PlOk l m) * heapP b v r last l m) m).trans (Ent.hex_in (p := fun v => hex fun m => pure' (PlOk l m) * heapP b v r last l m) v))))
theorem WS_heapQ {P : Program} {n : Frm} {w0 : World} {c : Code} {Q : Exit → St → Prop} {E : Env} {D : List Deferred} {F : HProp} {b r : Nat} {last : Int} {l : List Tm} (h : ∀ v m, PlOk l m → WS P n w0 c Q ⟨E, D, heapP b v r last l m * F⟩) : WS P n w0 c Q ⟨E, D, heapQ b r last l * F⟩ := by
 refine WS_hex fun v => WS_hex fun m => ?_
 exact WS_pureI iI (h v m)
theorem IdN.cut {l : List Tm} {i : Nat} (hn : IdN l) (hi : i < l.length) : IdN (cutF l i) :=
 (hn.perm (swp_perm hi (show l.length - 1 < l.length by omega)).symm).sublist ((List.take_sublist _ _).map _)
set_option maxRecDepth 100000 in
theorem hadd_spec (b r : Nat) (last : Int) (l : List Tm) (t : UInt64) (x : Int) (hx : ∀ u ∈ l, u.id ≠ last + 1) (hn : IdN l) (hl : l.length ≤ 900000) (h0 : 0 ≤ last ∧ last ≤ 1000000000000000) :
    Spec Tryz.prog w0 227 [ptr b 0, u64 t, .int .i64 x] (heapQ b r last l) (fun _ : Unit => .int .i64 (last + 1)) (fun _ => heapQ b r (last + 1) (addF l (Tm.mk t (last + 1) x))) := by
  refine Spec.enter Tryz.func227 rfl Tryz.ntmps227 rfl fun G => ?_
  simp only [argE]
  refine WS_heapQ fun v m hm => ?_
  have hn' : IdN (l ++ [(Tm.mk t (last + 1) x)]) := by
    unfold IdN at hn ⊢
    rw [List.map_append, List.nodup_append]
    refine ⟨hn, by simp, ?_⟩
    intro a ha c hc
    obtain ⟨u, hu, rfl⟩ := List.mem_map.1 ha
    simp at hc; subst hc; exact hx u hu
  have e : ((l ++ [(Tm.mk t (last + 1) x)]).length : Int) - 1 = (l.length : Int) := by simp
  repeat' (first | (show WS _ _ _ (.region 2 _ true) _ _; first | refine WS_drawK (.range 17) 13 [4, 9] (by decide +kernel) rfl ?_ | refine WS_drawM 0 (.range 17) 16 [4, 9] (by decide +kernel) rfl rfl iI ?_) | (show WS _ _ _ (.region 3 _ true) _ _; refine WS_drawK (.range 15) 14 [3, 7, 11, 12] (by decide +kernel) rfl ?_) | (refine WS_seqK ?_; intro K hK) | (refine hK _ ?_; clear hK K) | refine stZ ?_ | refine sqZ ?_ | (refine s0Z ?_; intro g) | ((first | refine' LS_h0 ?zh ?_ | refine' DL_h0 ?zh rfl rfl ?_); (case zh => exact H_mapUpdate rfl rfl rfl iI iI iI iI iI); intro g) | (refine DL_h (H_buildSliceR tmC [(Tm.mk t (last + 1) x)] iI iI iI rfl rfl rfl rfl rfl iI rfl rfl rfl) rfl rfl rfl ?_; intro g) | (refine DL_h (H_appendR rfl rfl iI iI rfl iI iI tmC_one (by first | omega | (simp [be_length] <;> omega)) rfl) rfl rfl rfl ?_; intro v2) | rw [e] | (refine LS_hP (H_callX iI rfl (up_spec w0 b v2 r (last + 1) (l ++ [(Tm.mk t (last + 1) x)]) _ l.length _ rfl (by simp) (by simp; omega) (hm.snoc (Tm.mk t (last + 1) x) hx) hn') iI) rfl ?_; intro m2 hm2))
  exact ret_tmp (.inl rfl) rfl rfl ⟨(), rfl, Ent.heapQ (v := v2) hm2 (finE)⟩
theorem cutF_last {l : List Tm} {i : Nat} (hi : i < l.length) : at' (swp l i (l.length - 1)) (l.length - 1) = at' l i := by
 rw [at'_swp hi (by omega)]; simp
set_option maxRecDepth 100000 in
theorem remove_spec (b r : Nat) (last : Int) (l : List Tm) (i : Nat) (x : Int) (hx : x = (i : Int)) (hi : i < l.length) (hn : IdN l) (hl : l.length ≤ 900000) :
    Spec Tryz.prog w0 196 [ptr b 0, .int .i64 x] (heapQ b r last l) (fun _ : Unit => .agg (tmC (at' l i)).toArray) (fun _ => heapQ b r last (remF l i)) := by
  subst hx
  refine Spec.enter Tryz.func196 rfl Tryz.ntmps196 rfl fun G => ?_
  simp only [argE]
  refine WS_heapQ fun v m hm => ?_
  have e : (l.length : Int) - 1 = ((l.length - 1 : Nat) : Int) := by omega
  have hle : l.length - 1 < l.length := by omega
  have hz : (swp l i (l.length - 1))[l.length - 1]? = some (at' l i) := by rw [← cutF_last hi]; exact at'_get (by rw [swp_length]; omega)
  have hle2 : l.length - 1 < (swp l i (l.length - 1)).length := by rw [swp_length]; omega
  have hm1 := hm.swap hn hi hle
  have hn1 := hn.perm (swp_perm hi hle).symm
  have hm2 : PlOk ((swp l i (l.length - 1)).take (l.length - 1)) (mdel (mset (mset m (at' (swp l i (l.length - 1)) i).id (i : Int)) (at' (swp l i (l.length - 1)) (l.length - 1)).id ((l.length - 1 : Nat) : Int)) (at' l i).id) := by
    have h := hm1.pop hn1 (by rw [swp_length]; omega)
    rw [swp_length] at h
    rw [← cutF_last hi]; exact h
  generalize hL : (swp l i (l.length - 1)).take (l.length - 1) = L at hm2
  have hL' : cutF l i = L := hL
  have hn2 : IdN L := hL' ▸ hn.cut hi
  have hLl : L.length = l.length - 1 := by rw [← hL', cutF_length]
  repeat' (first | (show WS _ _ _ (.region 5 _ true) _ _; refine WS_drawK (.range 7) 6 [3, 5] (by decide +kernel) rfl ?_) | (refine WS_seqK ?_; intro K hK) | (refine hK _ ?_; clear hK K) | refine stZ ?_ | (refine s2Z ?_ ?_ <;> intro hc <;> (try simp only [cS] at hc) <;> (try (exfalso; first | contradiction | omega))) | refine sqZ ?_ | ((first | refine' LQ ?zh rfl ?_ | refine' DL_qp rfl rfl rfl ?zh ?_ | refine' DL_q rfl rfl ?zh ?_); case zh => intro F'; exact Q_sliceR_h rfl rfl iI iI iI iI (by first | assumption | omega | (simp [be_length] <;> omega))) | ((first | refine LS_binS rfl rfl iI rfl ?_ ?_ | refine LS_binN rfl rfl iI rfl ?_ ?_ | refine DL_binS rfl rfl iI rfl ?_ ?_) <;> intro hc) | (refine shZ ?_; intro g) | (refine s0Z ?_; intro g) | ((first | refine' LS_h0 ?zh ?_ | refine' DL_h0 ?zh rfl rfl ?_); (case zh => first | exact H_delete rfl rfl iI iI iI iI | exact H_storeA rfl rfl iI iI (by first | rfl | (simp only [List.all_cons, List.all_nil, *]; rfl)) rfl); intro g) | rw [e] | (refine LS_h (H_callX iI rfl (swap_spec w0 b v r last l m i (l.length - 1) _ _ rfl rfl hi hle) iI) rfl ?_; intro g) | (refine LS_hP (H_callX iI rfl (down_spec w0 b (sHead v (l.length - 1)) r last L _ i l.length _ rfl (by omega) (by omega) (by omega) hm2 hn2) iI) rfl ?_; intro m3 hm3) | (refine LS_hP (H_callX iI rfl (up_spec w0 b (sHead v (l.length - 1)) r last (downF l.length L i) _ i _ rfl (by rw [(downF_perm _ _ _ (by omega)).length_eq]; omega) (by rw [(downF_perm _ _ _ (by omega)).length_eq]; omega) hm3 (hn2.perm (downF_perm _ _ _ (by omega)).symm)) iI) rfl ?_; intro m4 hm4) | (refine LS_ent (Ent.headR (v := v) (l.length - 1)) ?_; rw [hL]))
  · refine ret_1 (.inl rfl) rfl (RV_cell rfl iI iI rfl) ⟨(), rfl, ?_⟩
    rw [remF, if_pos (by omega), hL']
    exact Ent.heapQ (v := sHead v (l.length - 1)) hm4 (finE)
  · refine ret_1 (.inl rfl) rfl (RV_cell rfl iI iI rfl) ⟨(), rfl, ?_⟩
    rw [remF, if_neg (by omega), hL']
    refine Ent.trans (Ent.headR (v := v) (l.length - 1)) ?_
    rw [hL]
    exact Ent.heapQ (v := sHead v (l.length - 1)) hm2 (finE)
end

section
open Go.RowKit
attribute [local irreducible] WS LS OpQ OpT OpH OpTQ Spec SpecQ cel
variable (w0 : World)
set_option maxRecDepth 100000 in
theorem hnext_none (b r : Nat) (last : Int) (l : List Tm) (now : UInt64) (h : 0 < l.length → now < (at' l 0).at_) :
    Spec Tryz.prog w0 143 [ptr b 0, u64 now] (heapQ b r last l) (fun _ : Unit => .tuple #[.int .i64 0, .bool false]) (fun _ => heapQ b r last l) := by
  refine Spec.enter Tryz.func143 rfl Tryz.ntmps143 rfl fun G => ?_
  simp only [argE]
  refine WS_heapQ fun v m hm => ?_
  rcases Nat.eq_zero_or_pos l.length with h0 | h0
  · repeat' (first | (refine WS_seqK ?_; intro K hK) | (refine hK _ ?_; clear hK K) | refine stZ ?_ | (refine s2Z ?_ ?_ <;> intro hc <;> (try simp only [cS] at hc) <;> (try (exfalso; first | contradiction | omega))) | refine sbZ ?_ | refine sqZ ?_)
    exact ret_2 (.inl rfl) rfl (RV_tmp rfl) (RV_tmp rfl) ⟨(), rfl, Ent.heapQ (v := v) hm (finE)⟩
  · have hz := at'_get h0
    have h1 := h h0
    repeat' (first | (refine WS_seqK ?_; intro K hK) | (refine hK _ ?_; clear hK K) | refine stZ ?_ | (refine s2Z ?_ ?_ <;> intro hc <;> (try simp only [cS] at hc) <;> (try (exfalso; first | contradiction | omega))) | refine sbZ ?_ | refine sqZ ?_)
    exact ret_2 (.inl rfl) rfl (RV_tmp rfl) (RV_tmp rfl) ⟨(), rfl, Ent.heapQ (v := v) hm (finE)⟩
set_option maxRecDepth 100000 in
theorem hnext_some (b r : Nat) (last : Int) (l : List Tm) (now : UInt64) (h0 : 0 < l.length) (h1 : ¬ now < (at' l 0).at_) (hn : IdN l) (hl : l.length ≤ 900000) :
    Spec Tryz.prog w0 143 [ptr b 0, u64 now] (heapQ b r last l) (fun _ : Unit => .tuple #[.int .i64 (at' l 0).what, .bool true]) (fun _ => heapQ b r last (remF l 0)) := by
  refine Spec.enter Tryz.func143 rfl Tryz.ntmps143 rfl fun G => ?_
  simp only [argE]
  refine WS_heapQ fun v m hm => ?_
  have hz := at'_get h0
  repeat' (first | (refine WS_seqK ?_; intro K hK) | (refine hK _ ?_; clear hK K) | refine stZ ?_ | (refine s2Z ?_ ?_ <;> intro hc <;> (try simp only [cS] at hc) <;> (try (exfalso; first | contradiction | omega))) | refine sbZ ?_ | refine sqZ ?_ | ((refine' LQ ?zh rfl ?_); case zh => intro F'; exact Q_field rfl iI iI rfl) | (refine LS_ent (Ent.heapQ (v := v) (F := G) hm (finE)) ?_; refine LS_h (H_callX iI rfl (remove_spec w0 b r last l 0 _ rfl h0 hn hl) iI) rfl ?_; intro g))
  exact ret_2 (.inl rfl) rfl (RV_tmp rfl) (RV_tmp rfl) ⟨(), rfl, finE⟩
set_option maxRecDepth 100000 in
theorem hnew_spec : Spec Tryz.prog w0 57 [] emp (fun x : Nat × Nat => ptr x.1 0) (fun x => heapQ x.1 x.2 0 []) := by
  refine Spec.enter Tryz.func57 rfl Tryz.ntmps57 rfl fun G => ?_
  simp only [argE]
  repeat' (first | (refine WS_seqK ?_; intro K hK) | (refine hK _ ?_; clear hK K) | refine stZ ?_ | refine sqZ ?_ | (refine shZ ?_; intro g) | (refine LS_h (H_makeMap i64 i64) rfl ?_; intro r))
  refine ret_1 (.inl rfl) rfl (RV_tmp rfl) ⟨(g, r), rfl, ?_⟩
  exact Ent.heapQ (v := .slice none 0 0) PlOk.nil (finE)
end

section
open Go.RowKit
attribute [local irreducible] WS LS OpQ OpT OpH OpTQ Spec SpecQ cel
variable (w0 : World)
def recsB (l : List Rec) : List UInt8 := l.flatMap Rec.bytes
set_option maxRecDepth 100000 in
theorem wrecords_spec (l : List Rec) (hl : l.length ≤ 10000) (v : Value) (X : HProp) [hX : Rdr w0 X v Rec 3 Rec.cells l] : Spec Tryz.prog w0 116 [v] X (fun m : Value => m) (fun m => rows 5 1 byteC m (recsB l) * X) := by
  refine Spec.enter Tryz.func116 rfl Tryz.ntmps116 rfl fun G => ?_
  simp only [argE]
  repeat' (first | (refine WS_seqK ?_; intro K hK) | (refine hK _ ?_; clear hK K) | refine stZ ?_ | refine sqZ ?_)
  refine WS_ent (Ent.nil _ 5 1 byteC none) ?_
  refine WS_loop (fun m τ => ∃ (j : Nat) (u : Value), j + m = l.length ∧ τ = ⟨[(6, v), (7, .int .i64 (l.length : Int)), (8, .int .i64 (j : Int)), (3, u)], [], rows 5 1 byteC u (recsB (l.take j)) * (X * G)⟩) ?_ ?_
  · exact ⟨l.length, _, ⟨0, _, by omega, rfl⟩, ⟨rfl, rfl, rfl, rfl, trivial⟩, rfl, finE⟩
  · rintro m τ ⟨j, u, hjm, rfl⟩
    rcases Nat.lt_or_ge j l.length with hlt | hge
    · obtain ⟨z, hz⟩ : ∃ z, l[j]? = some z := ⟨_, List.getElem?_eq_getElem hlt⟩
      have hb : (recsB (l.take j)).length ≤ 130000 := by
        have : ∀ l : List Rec, (recsB l).length = 13 * l.length := fun l => by
          induction l with
          | nil => rfl
          | cons x l ih => simp only [recsB, List.flatMap_cons, List.length_append, Rec.bytes_length, List.length_cons] at ih ⊢; omega
        rw [this]; simp; omega
      have hzl := Rec.bytes_length z
      have hrec := wrecord_spec w0 z
      repeat' (first | (refine WS_seqK ?_; intro K hK) | (refine hK _ ?_; clear hK K) | refine stZ ?_ | (refine s2Z ?_ ?_ <;> intro hc <;> (try simp only [cS] at hc) <;> (try (exfalso; first | contradiction | omega))) | refine sbZ ?_ | refine sqZ ?_ | (refine shZ ?_; intro g) | ((refine' LS_h0 ?zh ?_); (case zh => exact H_storeA rfl rfl iI iI (by first | rfl | (simp only [List.all_cons, List.all_nil, *]; rfl)) rfl); intro g) | (refine LS_h (H_callX iI rfl hrec iI) rfl ?_; intro v2) | (refine LS_h (H_appendR rfl rfl iI iI rfl iI iI byteC_one (by first | omega | (simp [be_length] <;> omega)) rfl) rfl ?_; intro va))
      refine ⟨m - 1, _, by omega, ⟨j + 1, va, by omega, rfl⟩, ⟨rfl, rfl, rfl, rfl, trivial⟩, rfl, ?_⟩
      rw [List.take_add_one, hz, Option.toList_some]
      simp only [recsB, List.flatMap_append, List.flatMap_cons, List.flatMap_nil, List.append_nil]
      exact finE
    · obtain rfl : j = l.length := by omega
      rw [List.take_length]
      repeat' (first | (refine WS_seqK ?_; intro K hK) | (refine hK _ ?_; clear hK K) | refine stZ ?_ | (refine s2Z ?_ ?_ <;> intro hc <;> (try simp only [cS] at hc) <;> (try (exfalso; first | contradiction | omega))) | refine sbZ ?_ | refine sqZ ?_)
      exact ret_tmp (.inl rfl) rfl rfl ⟨u, rfl, finE⟩
end

section
open Go.RowKit
abbrev Str := List UInt8
structure Rq where
  src : UInt32
  id : UInt32
deriving DecidableEq
structure Sr where
  dest : UInt32
  ttl : Int
  retries : Int
  out : Bool
  name : Int
structure OutD where
  journal : Str
  replace : Bool
  frames : List (UInt32 × Str)
  came : List (UInt32 × Str)
  dropped : List Int
def OutD.zero : OutD := ⟨[], false, [], [], []⟩
structure Nd where
  self : UInt32
  seq : UInt32
  ls : List Ln
  recs : List Rec
  own : UInt32
  held : List (UInt32 × UInt32)
  silent : UInt64
  seen : List (Rq × UInt64)
  order : List Rq
  wait : List (UInt32 × List Str)
  srs : List Sr
  clk : List Tm
  last : Int
  names : Int
  ids : UInt32
  datas : UInt32
  sent : List UInt64
  now : UInt64
  out : OutD
structure NH where
  tb : Nat
  vr : Value
  rh : Nat
  rs : Nat
  vo : Value
  rw : Nat
  rq : Nat
  ri : Nat
  cb : Nat
  cr : Nat
  vs : Value
  vf : Value
  vc : Value
  vd : Value
  sb : List Nat
  wv : List (Option Addr × Nat × Nat)
def rqC (r : Rq) : List Value := [u32 r.src, u32 r.id]
@[reducible] def rqV (r : Rq) : Value := .agg (rqC r).toArray
def wrd64C (x : UInt64) : List Value := [u64 x]
def strCc (s : Str) : List Value := [strV s]
def txtC (x : UInt32 × Str) : List Value := [u32 x.1, strV x.2]
def intC (x : Int) : List Value := [.int .i64 x]
instance : FixLen rqC 2 := ⟨fun _ => rfl⟩
instance : FixLen wrd64C 1 := ⟨fun _ => rfl⟩
instance : FixLen strCc 1 := ⟨fun _ => rfl⟩
instance : FixLen txtC 2 := ⟨fun _ => rfl⟩
instance : FixLen intC 1 := ⟨fun _ => rfl⟩
theorem rqC_one : ∀ z, ∀ c ∈ rqC z, c.oneCell' = true := by intro z c hc; simp [rqC] at hc; rcases hc with rfl | rfl <;> rfl
theorem wrd64C_one : ∀ z, ∀ c ∈ wrd64C z, c.oneCell' = true := by intro z c hc; simp [wrd64C] at hc; subst hc; rfl
theorem strCc_one : ∀ z, ∀ c ∈ strCc z, c.oneCell' = true := by intro z c hc; simp [strCc] at hc; subst hc; rfl
theorem txtC_one : ∀ z, ∀ c ∈ txtC z, c.oneCell' = true := by intro z c hc; simp [txtC] at hc; rcases hc with rfl | rfl <;> rfl
theorem intC_one : ∀ z, ∀ c ∈ intC z, c.oneCell' = true := by intro z c hc; simp [intC] at hc; subst hc; rfl
@[reducible] def slV' (v : Option Addr × Nat × Nat) : Value := .slice v.1 v.2.1 v.2.2
def textsP : List (Option Addr × Nat × Nat) → List (UInt32 × List Str) → HProp
 | v :: vs, w :: ws => rows 9 1 strCc (slV' v) w.2 * textsP vs ws
 | _, _ => emp
def wmap (vs : List (Option Addr × Nat × Nat)) (ws : List (UInt32 × List Str)) : List (UInt32 × (Option Addr × Nat × Nat)) := List.zipWith (fun v w => (w.1, v)) vs ws
def waitQ (r : Nat) (vs : List (Option Addr × Nat × Nat)) (ws : List (UInt32 × List Str)) : HProp := pure' (vs.length = ws.length) * (mp u32 slV' r (wmap vs ws) * textsP vs ws)
def srC (g b : Nat) (s : Sr) : List Value := [u32 s.dest, .int .i64 s.ttl, .int .i64 s.retries, .bool s.out, .int .i64 s.name, .func (.func 197) #[ptr b 0] #[], ptr g 0]
def srsP (g : Nat) : List Nat → List Sr → HProp
 | b :: bs, s :: ss => cel b 247 (srC g b s) * srsP g bs ss
 | _, _ => emp
def qmap (bs : List Nat) (ss : List Sr) : List (UInt32 × Nat) := List.zipWith (fun b s => (s.dest, b)) bs ss
def imap (bs : List Nat) (ss : List Sr) : List (Int × Nat) := List.zipWith (fun b s => (s.name, b)) bs ss
def clockQ (b r : Nat) (last : Int) (L : List Tm) : HProp := hex fun l => pure' (TR l L last) * heapQ b r last l
theorem pure'_true {φ : Prop} (h : φ) : pure' φ = emp := by
 unfold pure' emp
 congr 1
 funext x
 simp [h]
def srsQ (g : Nat) (bs : List Nat) (ss : List Sr) : HProp := pure' (bs.length = ss.length) * srsP g bs ss
def restC (g : Nat) (sn : List (Rq × UInt64)) (od : List Rq) (wt : List (UInt32 × List Str)) (ss : List Sr) (ck : List Tm) (la : Int) (se : List UInt64) (rs : Nat) (vo : Value) (rw rq ri cb cr : Nat) (vs : Value) (sb : List Nat) (wv : List (Option Addr × Nat × Nat)) : HProp :=
 mp rqV u64 rs sn * (rows 269 2 rqC vo od * (waitQ rw wv wt * (mp u32 ptrV rq (qmap sb ss) * (mp i64 ptrV ri (imap sb ss) * (srsQ g sb ss * (clockQ cb cr la ck * rows 24 1 wrd64C vs se))))))
def restP (g : Nat) (s : Nd) (h : NH) : HProp := restC g s.seen s.order s.wait s.srs s.clk s.last s.sent h.rs h.vo h.rw h.rq h.ri h.cb h.cr h.vs h.sb h.wv
def nodC (mu : Int) (s : Nd) (h : NH) (o : OutD) : List Value :=
 [.int .i32 mu, .int .u32 0, u32 s.self, u32 s.seq, ptr h.tb 0, h.vr, u32 s.own, .map (some h.rh), u64 s.silent, .map (some h.rs), h.vo, .map (some h.rw), .map (some h.rq), .map (some h.ri), ptr h.cb 0, .int .i64 s.names, u32 s.ids, u32 s.datas, h.vs, u64 s.now, strV o.journal, .bool o.replace, h.vf, h.vc, h.vd]
def outH (h : NH) (o : OutD) : HProp := rows 48 2 txtC h.vf o.frames * (rows 70 2 txtC h.vc o.came * rows 166 1 intC h.vd o.dropped)
def nodPm (mu : Int) (g : Nat) (s : Nd) (h : NH) : HProp :=
 cel g 159 (nodC mu s h s.out) * (rows 28 3 Rec.cells h.vr s.recs * (mp u32 u32 h.rh s.held * (tabQ h.tb s.self s.ls * (outH h s.out * restP g s h))))
@[reducible] def nodP (g : Nat) (s : Nd) (h : NH) : HProp := nodPm 1 g s h
def nodA (g : Nat) (s : Nd) : HProp := hex fun h => nodP g s h
theorem LS_nod {P : Program} {n : Frm} {w0 : World} {E : Env} {D : List Deferred} {F : HProp} {ops : Array Oper} {l' : List Oper} {Q : Exit → St → Prop} {g : Nat} {s : Nd} (h : ∀ h, LS P n w0 ops Q l' ⟨E, D, nodP g s h * F⟩) : LS P n w0 ops Q l' ⟨E, D, nodA g s * F⟩ := by
 unfold nodA
 exact LS_hex h
theorem WS_nod {P : Program} {n : Frm} {w0 : World} {E : Env} {D : List Deferred} {F : HProp} {c : Code} {Q : Exit → St → Prop} {g : Nat} {s : Nd} (h : ∀ h, WS P n w0 c Q ⟨E, D, nodP g s h * F⟩) : WS P n w0 c Q ⟨E, D, nodA g s * F⟩ := by
 unfold nodA
 exact WS_hex h
theorem Ent.nod {g : Nat} {s : Nd} {H F : HProp} (h : NH) (e : Ent H (nodP g s h * F)) : Ent H (nodA g s * F) := Ent.hexI (p := fun h => nodP g s h) h e
theorem Pk.out_le' (p : Pk) : p.out.length ≤ 100000 := by
  by_cases h : p.Fits
  · rw [Pk.out_fit h]
    obtain ⟨⟨_, _, _, _, h1, h2⟩, _⟩ := h
    unfold Pk.bytes
    repeat' split
    all_goals simp only [List.length_append, List.length_cons, List.length_nil, be_length, lostB_length]
    all_goals omega
  · rw [Pk.out_not h]; simp
def Nd.write (s : Nd) (r : Rec) : Nd := { s with recs := s.recs ++ [r], out := { s.out with journal := s.out.journal ++ r.bytes }, own := if r.own then r.seq else s.own, held := if r.own then s.held else mset s.held r.addr r.seq }
def Nd.noteL (s : Nd) (l : Ln) : Nd := match mget s.held l.dest with
 | some q => if q < l.seq then s.write ⟨false, l.dest, l.seq⟩ else s
 | none => s.write ⟨false, l.dest, l.seq⟩
def Nd.noteO (s : Nd) : Nd := if s.own < s.seq then s.write ⟨true, 0, s.seq⟩ else s
def Nd.note (s : Nd) : Nd := (listT s.ls).foldl Nd.noteL s.noteO
def Nd.begin (s : Nd) (now : UInt64) : Nd := { s with now := now, out := OutD.zero, ls := expT now s.ls }.note
def Nd.done (s : Nd) : Nd := if 24 < s.note.recs.length then { s.note with recs := compR s.note.recs, out := { s.note.out with journal := recsB (compR s.note.recs), replace := true } } else s.note
def Nd.send (s : Nd) (to : UInt32) (p : Pk) : Nd := { s with out := { s.out with frames := s.out.frames ++ [(to, p.out)] } }
def Nd.drop (s : Nd) (k : Int) : Nd := { s with out := { s.out with dropped := s.out.dropped ++ [k] } }
end

section
open Go.RowKit
attribute [local irreducible] WS LS OpQ OpT OpH OpTQ Spec SpecQ cel
variable (w0 : World)
set_option maxRecDepth 100000 in
theorem nwrite_spec (mu : Int) (gn : Nat) (s : Nd) (h : NH) (r : Rec) (hr : s.recs.length ≤ 500000) (hj : s.out.journal.length ≤ 900000) : Spec Tryz.prog w0 60 [ptr gn 0, .agg r.cells.toArray] (nodPm mu gn s h) (fun _ : Value => .tuple #[]) (fun vr => nodPm mu gn (s.write r) { h with vr := vr }) := by
  have hrec := wrecord_spec w0 r
  have hbl := Rec.bytes_length r
  have er : ∀ vr, restP gn (s.write r) { h with vr := vr } = restP gn s h := fun _ => rfl
  refine Spec.enter Tryz.func60 rfl Tryz.ntmps60 rfl fun G => ?_
  simp only [nodPm, er]
  simp only [argE, nodC, outH, Nd.write]
  obtain ⟨o, a, q⟩ := r
  simp only [Rec.cells] at hrec ⊢
  cases o
  all_goals
    repeat' (first | (show WS _ _ _ (.region 1 _ true) _ _; first | refine WS_drawK (.range 13) 8 [5, 6] (by decide +kernel) rfl ?_ | refine WS_drawN 0 3 (.range 13) 12 [5] (by decide +kernel) rfl rfl rfl iI iI ?_) | (show WS _ _ _ (.region 2 _ true) _ _; first | refine WS_drawK (.range 13) 6 [4, 5] (by decide +kernel) rfl ?_ | refine WS_drawN 0 3 (.range 13) 12 [4] (by decide +kernel) rfl rfl rfl iI iI ?_) | (show WS _ _ _ (.region 5 _ true) _ _; refine WS_drawK (.range 10) 9 [4, 6, 8] (by decide +kernel) rfl ?_) | (refine WS_seqK ?_; intro K hK) | (refine hK _ ?_; clear hK K) | refine stZ ?_ | (refine s2Z ?_ ?_ <;> intro hc <;> (try simp only [cS] at hc) <;> (try (exfalso; first | contradiction | omega))) | refine sqZ ?_ | ((first | refine' LQ ?zh rfl ?_ | refine' DL_qp rfl rfl rfl ?zh ?_ | refine' DL_q rfl rfl ?zh ?_); case zh => intro F'; exact Q_addS rfl rfl (by first | omega | (simp [be_length] <;> omega))) | (refine shZ ?_; intro g) | ((first | refine' LS_h ?zh rfl ?_ | refine' DL_h ?zh rfl rfl rfl ?_); (case zh => exact H_convS rfl iI rfl iI iI iI); intro g) | (refine s0Z ?_; intro g) | ((first | refine' LS_h0 ?zh ?_ | refine' DL_h0 ?zh rfl rfl ?_); (case zh => exact H_mapUpdate rfl rfl rfl iI iI iI iI iI); intro g) | (refine DL_h (H_callX iI rfl hrec iI) rfl rfl rfl ?_; intro vb) | (refine DL_h (H_buildSliceR Rec.cells [⟨_, a, q⟩] iI iI iI rfl rfl rfl rfl rfl iI rfl rfl rfl) rfl rfl rfl ?_; intro vx) | (refine DL_h (H_appendR rfl rfl iI iI rfl iI iI recC_one (by first | omega | (simp [be_length] <;> omega)) rfl) rfl rfl rfl ?_; intro va))
  · exact ret_none (.inr rfl) rfl ⟨va, rfl, by simp only [Bool.false_eq_true, if_false]; exact finE⟩
  · exact ret_none (.inr rfl) rfl ⟨va, rfl, by simp only [if_true]; exact finE⟩
set_option maxRecDepth 100000 in
theorem ndrop_spec (gn : Nat) (s : Nd) (h : NH) (k : Int) (hd : s.out.dropped.length ≤ 900000) : Spec Tryz.prog w0 66 [ptr gn 0, .int .i64 k] (nodP gn s h) (fun _ : Value => .tuple #[]) (fun vd => nodP gn (s.drop k) { h with vd := vd }) := by
  have er : ∀ vd, restP gn (s.drop k) { h with vd := vd } = restP gn s h := fun _ => rfl
  refine Spec.enter Tryz.func66 rfl Tryz.ntmps66 rfl fun G => ?_
  simp only [nodP, nodPm, er]
  simp only [argE, nodC, outH, Nd.drop]
  repeat' (first | refine stZ ?_ | refine sqZ ?_ | (refine s0Z ?_; intro g) | (refine LS_h (H_buildSliceR intC [k] iI iI iI rfl rfl rfl rfl rfl iI rfl rfl rfl) rfl ?_; intro vx) | (refine LS_h (H_appendR rfl rfl iI iI rfl iI iI intC_one (by first | omega | (simp [be_length] <;> omega)) rfl) rfl ?_; intro va))
  exact ret_none (.inr rfl) rfl ⟨va, rfl, finE⟩
set_option maxRecDepth 100000 in
theorem nsend_spec (gn : Nat) (s : Nd) (h : NH) (to : UInt32) (p : Pk) (hp : p.Ok) (v : Value) (hv : v.oneCell' = true) (X : HProp) [hX : Rdr w0 X v (UInt32 × UInt32) 2 lostC p.lost] (hd : s.out.frames.length ≤ 900000) : Spec Tryz.prog w0 117 [ptr gn 0, u32 to, p.val v] (nodP gn s h * X) (fun _ : Value => .tuple #[]) (fun vf => nodP gn (s.send to p) { h with vf := vf } * X) := by
  have henc := encode_spec w0 p hp v X
  have er : ∀ vf, restP gn (s.send to p) { h with vf := vf } = restP gn s h := fun _ => rfl
  have hol := p.out_le'
  refine Spec.enter Tryz.func117 rfl Tryz.ntmps117 rfl fun G => ?_
  simp only [nodP, nodPm, er]
  simp only [argE, nodC, outH, Nd.send, Pk.val, Pk.cells] at henc ⊢
  repeat' (first | (show WS _ _ _ (.region 2 _ true) _ _; first | refine WS_drawK (.range 16) 8 [5] (by decide +kernel) rfl ?_ | refine WS_drawM 0 (.range 16) 15 [5] (by decide +kernel) rfl rfl iI ?_) | (refine WS_seqK ?_; intro K hK) | (refine hK _ ?_; clear hK K) | refine stZ ?_ | refine sqZ ?_ | (refine shZ ?_; intro g) | ((first | refine' LS_h ?zh rfl ?_ | refine' DL_h ?zh rfl rfl rfl ?_); (case zh => exact H_convS rfl iI rfl iI iI iI); intro g) | (refine s0Z ?_; intro g) | (refine LS_h (H_callX iI rfl henc iI) rfl ?_; intro vb) | (refine DL_h (H_buildSliceR txtC [(to, p.out)] iI iI iI rfl rfl rfl rfl rfl iI rfl rfl rfl) rfl rfl rfl ?_; intro vx) | (refine DL_h (H_appendR rfl rfl iI iI rfl iI iI txtC_one (by first | omega | (simp [be_length] <;> omega)) rfl) rfl rfl rfl ?_; intro va))
  exact ret_none (.inr rfl) rfl ⟨va, rfl, finE⟩
end

section
open Go.RowKit
attribute [local irreducible] WS LS OpQ OpT OpH OpTQ Spec SpecQ cel
variable (w0 : World)
set_option maxRecDepth 100000 in
theorem update_specT (gt r : Nat) (self : UInt32) (bs : List (Nat × Nat)) (ls : List Ln) (hlen : bs.length = ls.length) (hh : ∀ l ∈ ls, 0 ≤ l.hops ∧ l.hops ≤ 1000) (hl12 : ls.length ≤ 1000) (x : Ln) (hx : x.before = []) (hxv : x.valid = false) (hx1 : 0 ≤ x.hops ∧ x.hops ≤ 1000) :
    Spec Tryz.prog w0 171 [ptr gt 0, .agg (routeC x (.slice none 0 0)).toArray] (tabP gt r self bs ls) (fun _ : Unit => .int .i64 (updT self ls x).1) (fun _ => tabQ gt self (updT self ls x).2) := by
  have hput := put_specT w0 gt r self bs ls hlen { x with valid := true, before := [] } rfl
  have hml : (lmap bs ls).length = ls.length := by simp [lmap, hlen]
  have hm' := tab_none (d := x.dest) hlen
  refine Spec.enter Tryz.func171 rfl Tryz.ntmps171 rfl fun G => ?_
  simp only [argE, routeC, hxv] at hput ⊢
  have h0 : (0 : UInt32) = 0 := rfl
  by_cases h1 : x.dest = self
  · have hres : updT self ls x = (2, ls) := by simp [updT, h1]
    rw [hres]
    simp only [tabP]
    repeat' (first | (show WS _ _ _ (.region 1 _ true) _ _; refine WS_drawA (.range 12) (by decide +kernel) rfl ?_) | (refine WS_seqK ?_; intro K hK) | (refine hK _ ?_; clear hK K) | refine stZ ?_ | (refine s2Z ?_ ?_ <;> intro hc <;> (try simp only [cS] at hc) <;> (try (exfalso; first | contradiction | omega))) | refine sbZ ?_ | refine sqZ ?_ | (refine shZ ?_; intro g))
    exact ret_tmp (.inl rfl) rfl rfl ⟨(), rfl, Ent.tabQ (r := r) (bs := bs) hlen (by unfold tabP; exact finE)⟩
  · by_cases h2 : x.dest = 0
    · have hres : updT self ls x = (2, ls) := by simp [updT, h2]
      rw [hres]
      simp only [tabP]
      repeat' (first | (show WS _ _ _ (.region 1 _ true) _ _; refine WS_drawA (.range 12) (by decide +kernel) rfl ?_) | (refine WS_seqK ?_; intro K hK) | (refine hK _ ?_; clear hK K) | refine stZ ?_ | (refine s2Z ?_ ?_ <;> intro hc <;> (try simp only [cS] at hc) <;> (try (exfalso; first | contradiction | omega))) | refine sbZ ?_ | refine sqZ ?_ | (refine shZ ?_; intro g))
      exact ret_tmp (.inl rfl) rfl rfl ⟨(), rfl, Ent.tabQ (r := r) (bs := bs) hlen (by unfold tabP; exact finE)⟩
    · cases hf : lfind ls x.dest with
      | none =>
        have hm := hm' hf
        by_cases h8 : 8 ≤ ls.length
        · have hres : updT self ls x = (4, ls) := by simp [updT, h1, h2, lget_none hf, h8]
          rw [hres]
          simp only [tabP]
          repeat' (first | (show WS _ _ _ (.region 1 _ true) _ _; refine WS_drawA (.range 12) (by decide +kernel) rfl ?_) | (show WS _ _ _ (.region 3 _ true) _ _; refine WS_drawA (.range 12) (by decide +kernel) rfl ?_) | (refine WS_seqK ?_; intro K hK) | (refine hK _ ?_; clear hK K) | refine stZ ?_ | (refine s2Z ?_ ?_ <;> intro hc <;> (try simp only [cS] at hc) <;> (try (exfalso; first | contradiction | omega))) | refine sbZ ?_ | refine sqZ ?_ | ((first | refine' LQ ?zh rfl ?_ | refine' DL_q rfl rfl ?zh ?_ | refine' DL_qg rfl rfl rfl ?zh ?_); case zh => intro F'; exact Q_lookupOk_n rfl rfl iI iI iI iI iI (by assumption)) | (refine shZ ?_; intro g))
          exact ret_tmp (.inl rfl) rfl rfl ⟨(), rfl, Ent.tabQ (r := r) (bs := bs) hlen (by unfold tabP; exact finE)⟩
        · have hres : updT self ls x = (0, putT ls { x with valid := true, before := [] }) := by simp [updT, h1, h2, lget_none hf, h8]
          rw [hres]
          simp only [tabP] at hput ⊢
          repeat' (first | (show WS _ _ _ (.region 1 _ true) _ _; refine WS_drawA (.range 12) (by decide +kernel) rfl ?_) | (show WS _ _ _ (.region 3 _ true) _ _; refine WS_drawA (.range 12) (by decide +kernel) rfl ?_) | (refine WS_seqK ?_; intro K hK) | (refine hK _ ?_; clear hK K) | refine stZ ?_ | (refine s2Z ?_ ?_ <;> intro hc <;> (try simp only [cS] at hc) <;> (try (exfalso; first | contradiction | omega))) | refine sbZ ?_ | refine sqZ ?_ | ((first | refine' LQ ?zh rfl ?_ | refine' DL_q rfl rfl ?zh ?_ | refine' DL_qg rfl rfl rfl ?zh ?_); case zh => intro F'; exact Q_lookupOk_n rfl rfl iI iI iI iI iI (by assumption)) | (refine shZ ?_; intro g) | (refine s0Z ?_; intro g) | (refine LS_h (H_callX iI rfl hput iI) rfl ?_; intro u))
          exact ret_tmp (.inl rfl) rfl rfl ⟨(), rfl, finE⟩
      | some i =>
        obtain ⟨b, rb, l, F, hl, hd, hm, e, e'⟩ := tab_open (g := gt) (r := r) (self := self) hlen hf
        obtain ⟨hh1, hh2⟩ := hh l (List.mem_of_getElem? hl)
        have hrk := rank_spec w0 b rb l hh1 hh2
        by_cases h3 : (x.seq.toNat : Int) < l.rk ∨ (x.seq.toNat : Int) = l.rk ∧ -x.hops ≤ -l.hops
        · have hres : updT self ls x = (3, ls) := by simp only [updT, h1, h2, lget_some hf hl, if_pos h3, or_self, if_false]
          rw [hres]
          simp only [e, lineC] at hrk ⊢
          generalize l.rk = rk at *
          rcases h3 with h3 | ⟨h3, h4⟩
          all_goals
            repeat' (first | (show WS _ _ _ (.region 1 _ true) _ _; refine WS_drawA (.range 12) (by decide +kernel) rfl ?_) | (show WS _ _ _ (.region 3 _ true) _ _; refine WS_drawA (.range 12) (by decide +kernel) rfl ?_) | (refine WS_seqK ?_; intro K hK) | (refine hK _ ?_; clear hK K) | refine stZ ?_ | (refine s2Z ?_ ?_ <;> intro hc <;> (try simp only [cS] at hc) <;> (try (exfalso; first | contradiction | omega))) | refine sbZ ?_ | refine sqZ ?_ | ((first | refine' LQ ?zh rfl ?_ | refine' DL_q rfl rfl ?zh ?_ | refine' DL_qg rfl rfl rfl ?zh ?_); case zh => intro F'; first | exact Q_lookupOk_s rfl rfl iI iI iI iI iI (by assumption) | exact Q_negI rfl (by omega)) | (refine shZ ?_; intro g) | (refine LS_h (H_callX iI rfl hrk iI) rfl ?_; intro u) | (refine LS_q (Q_conv32I rfl iI iI iI) rfl ?_))
          all_goals exact ret_tmp (.inl rfl) rfl rfl ⟨(), rfl, Ent.tabQ (r := r) (bs := bs) hlen (by rw [e]; unfold lineC; exact finE)⟩
        · have hres : updT self ls x = (0, putT ls { x with valid := true, before := [] }) := by simp only [updT, h1, h2, lget_some hf hl, if_neg h3, or_self, if_false]
          rw [hres]
          simp only [e, lineC] at hrk hput ⊢
          generalize l.rk = rk at *
          have h5 : ¬ (x.seq.toNat : Int) < rk := fun h => h3 (.inl h)
          by_cases h4 : (x.seq.toNat : Int) = rk
          · have h6 : ¬ -x.hops ≤ -l.hops := fun h => h3 (.inr ⟨h4, h⟩)
            repeat' (first | (show WS _ _ _ (.region 1 _ true) _ _; refine WS_drawA (.range 12) (by decide +kernel) rfl ?_) | (show WS _ _ _ (.region 3 _ true) _ _; refine WS_drawA (.range 12) (by decide +kernel) rfl ?_) | (refine WS_seqK ?_; intro K hK) | (refine hK _ ?_; clear hK K) | refine stZ ?_ | (refine s2Z ?_ ?_ <;> intro hc <;> (try simp only [cS] at hc) <;> (try (exfalso; first | contradiction | omega))) | refine sbZ ?_ | refine sqZ ?_ | ((first | refine' LQ ?zh rfl ?_ | refine' DL_q rfl rfl ?zh ?_ | refine' DL_qg rfl rfl rfl ?zh ?_); case zh => intro F'; first | exact Q_lookupOk_s rfl rfl iI iI iI iI iI (by assumption) | exact Q_negI rfl (by omega)) | (refine shZ ?_; intro g) | (refine s0Z ?_; intro g) | (refine LS_h (H_callX iI rfl hrk iI) rfl ?_; intro u) | (refine LS_q (Q_conv32I rfl iI iI iI) rfl ?_) | (refine LS_h (H_callX iI rfl hput iI) rfl ?_; intro u))
            exact ret_tmp (.inl rfl) rfl rfl ⟨(), rfl, finE⟩
          · repeat' (first | (show WS _ _ _ (.region 1 _ true) _ _; refine WS_drawA (.range 12) (by decide +kernel) rfl ?_) | (show WS _ _ _ (.region 3 _ true) _ _; refine WS_drawA (.range 12) (by decide +kernel) rfl ?_) | (refine WS_seqK ?_; intro K hK) | (refine hK _ ?_; clear hK K) | refine stZ ?_ | (refine s2Z ?_ ?_ <;> intro hc <;> (try simp only [cS] at hc) <;> (try (exfalso; first | contradiction | omega))) | refine sbZ ?_ | refine sqZ ?_ | ((first | refine' LQ ?zh rfl ?_ | refine' DL_q rfl rfl ?zh ?_ | refine' DL_qg rfl rfl rfl ?zh ?_); case zh => intro F'; exact Q_lookupOk_s rfl rfl iI iI iI iI iI (by assumption)) | (refine shZ ?_; intro g) | (refine s0Z ?_; intro g) | (refine LS_h (H_callX iI rfl hrk iI) rfl ?_; intro u) | (refine LS_q (Q_conv32I rfl iI iI iI) rfl ?_) | (refine LS_h (H_callX iI rfl hput iI) rfl ?_; intro u))
            exact ret_tmp (.inl rfl) rfl rfl ⟨(), rfl, finE⟩
end

section
open Go.RowKit
variable (w0 : World)
theorem hideT {P : Program} {w0 : World} {f : FuncId} {args : List Value} {g : Nat} {self : UInt32} {ls : List Ln} {α : Type} {res : α → Value} {A : α → HProp} {ls' : α → List Ln} (hl : ∀ x, (ls' x).length = ls.length)
  (h : ∀ r bs, bs.length = ls.length → Spec P w0 f args (tabP g r self bs ls) res (fun x => A x * tabP g r self bs (ls' x))) : Spec P w0 f args (tabQ g self ls) res (fun x => A x * tabQ g self (ls' x)) := fun G w hs => by
 obtain ⟨x, hs2⟩ := Sat.ex (P := fun x : Nat × List (Nat × Nat) => pure' (x.2.length = ls.length) * tabP g x.1 self x.2 ls) hs
 obtain ⟨hlen, hs3⟩ := (hs2.cast (star_assoc _ _ _)).pure
 refine (h x.1 x.2 hlen G w hs3).mono ?_
 rintro e w' ⟨y, he, hs'⟩
 refine ⟨y, he, ?_⟩
 have h1 : Sat w0 w' (tabP g x.1 self x.2 (ls' y) * (A y * G)) := hs'.cast (by ac_rfl)
 have h2 := (Ent.tabQ (r := x.1) (bs := x.2) (hlen.trans (hl y).symm) (Ent.refl _)).sat h1
 exact h2.cast (by ac_rfl)
theorem hideE {P : Program} {w0 : World} {f : FuncId} {args : List Value} {g : Nat} {self : UInt32} {ls : List Ln} {α : Type} {res : α → Value} {ls' : α → List Ln} (hl : ∀ x, (ls' x).length = ls.length)
  (h : ∀ r bs, bs.length = ls.length → Spec P w0 f args (tabP g r self bs ls) res (fun x => tabP g r self bs (ls' x))) : Spec P w0 f args (tabQ g self ls) res (fun x => tabQ g self (ls' x)) := by
 have := hideT (A := fun _ => emp) hl (fun r bs hlen => by simp only [emp_star]; exact h r bs hlen)
 simpa only [emp_star] using this
theorem lmod_length (ls : List Ln) (d : UInt32) (f : Ln → Ln) : (lmod ls d f).length = ls.length := by unfold lmod; split <;> simp
structure TabOk (ls : List Ln) : Prop where
  nodup : (dests ls).Nodup
  short : ls.length ≤ 8
  hops : ∀ l ∈ ls, 0 ≤ l.hops ∧ l.hops ≤ 1000
  before : ∀ l ∈ ls, l.before.length ≤ 4
theorem expire_spec (g : Nat) (self : UInt32) (ls : List Ln) (ok : TabOk ls) (now : UInt64) : Spec Tryz.prog w0 115 [ptr g 0, u64 now] (tabQ g self ls) (fun _ : Unit => .tuple #[]) (fun _ => tabQ g self (expT now ls)) :=
 hideE (fun _ => by simp [expT]) fun r bs hlen => expire_specT w0 g r self bs ls hlen ok.nodup now
theorem number_spec (g : Nat) (self : UInt32) (ls : List Ln) (d : UInt32) : Spec Tryz.prog w0 67 [ptr g 0, u32 d] (tabQ g self ls) (fun _ : Unit => .tuple #[u32 (numT ls d), .bool (lget ls d).isSome]) (fun _ => tabQ g self ls) :=
 hideE (fun _ => rfl) fun r bs hlen => number_specT w0 g r self bs ls hlen d
theorem bump_spec (g : Nat) (self : UInt32) (ls : List Ln) (d : UInt32) : Spec Tryz.prog w0 180 [ptr g 0, u32 d] (tabQ g self ls) (fun _ : Unit => u32 (numT (bumpT ls d) d)) (fun _ => tabQ g self (bumpT ls d)) :=
 hideE (fun _ => lmod_length _ _ _) fun r bs hlen => bump_specT w0 g r self bs ls hlen d
theorem use_spec (g : Nat) (self : UInt32) (ls : List Ln) (d : UInt32) (ex : UInt64) : Spec Tryz.prog w0 173 [ptr g 0, u32 d, u64 ex] (tabQ g self ls) (fun _ : Unit => .tuple #[]) (fun _ => tabQ g self (useT ls d ex)) :=
 hideE (fun _ => lmod_length _ _ _) fun r bs hlen => use_specT w0 g r self bs ls hlen d ex
theorem before_spec (g : Nat) (self : UInt32) (ls : List Ln) (d nb : UInt32) : Spec Tryz.prog w0 176 [ptr g 0, u32 d, u32 nb] (tabQ g self ls) (fun _ : Unit => .tuple #[]) (fun _ => tabQ g self (befT ls d nb)) :=
 hideE (fun _ => lmod_length _ _ _) fun r bs hlen => before_specT w0 g r self bs ls hlen d nb
theorem lose_spec (g : Nat) (self : UInt32) (ls : List Ln) (src d s : UInt32) : Spec Tryz.prog w0 178 [ptr g 0, u32 src, .agg #[u32 d, u32 s]] (tabQ g self ls) (fun _ : Unit => .tuple #[u32 (if losesT ls src d then numT (loseT ls src d s) d else 0), .bool (losesT ls src d), .bool (losesT ls src d && decide (0 < ((lget ls d).getD Ln.zero).before.length))]) (fun _ => tabQ g self (loseT ls src d s)) :=
 hideE (fun _ => lmod_length _ _ _) fun r bs hlen => lose_specT w0 g r self bs ls hlen src d s
theorem find_spec (g : Nat) (self : UInt32) (ls : List Ln) (ok : TabOk ls) (d : UInt32) (now : UInt64) : Spec Tryz.prog w0 175 [ptr g 0, u32 d, u64 now] (tabQ g self ls) (fun p : Option Addr × Nat => findV (lookT ls d now) p) (fun p => findH (lookT ls d now) p * tabQ g self ls) :=
 hideT (fun _ => rfl) fun r bs hlen => find_specT w0 g r self bs ls hlen (fun l hl => by have := ok.before l hl; omega) d now
theorem broken_spec (g : Nat) (self : UInt32) (ls : List Ln) (ok : TabOk ls) (nb : UInt32) : Spec Tryz.prog w0 194 [ptr g 0, u32 nb] (tabQ g self ls) (fun v : Value => v) (fun v => rows 180 2 lostC v (outB nb (sortU (dests ls)) ls) * tabQ g self (brkT nb ls)) :=
 hideT (fun _ => by simp [brkT]) fun r bs hlen => broken_specT w0 g r self bs ls hlen ok.nodup (by have := ok.short; omega) nb
theorem list_spec (g : Nat) (self : UInt32) (ls : List Ln) (ok : TabOk ls) : Spec Tryz.prog w0 75 [ptr g 0] (tabQ g self ls) (fun x : Value × List LnS => x.1) (fun x => (pure' (x.2.map (·.1) = listT ls) * (rows 53 7 routeS x.1 x.2 * befs x.2)) * tabQ g self ls) :=
 hideT (fun _ => rfl) fun r bs hlen => by
  have := list_specT w0 g r self bs ls hlen ok.nodup (by have := ok.short; omega) (fun l hl => by have := ok.before l hl; omega)
  simpa only [star_assoc] using this
theorem update_spec (g : Nat) (self : UInt32) (ls : List Ln) (ok : TabOk ls) (x : Ln) (hx : x.before = []) (hxv : x.valid = false) (hx1 : 0 ≤ x.hops ∧ x.hops ≤ 1000) :
  Spec Tryz.prog w0 171 [ptr g 0, .agg (routeC x (.slice none 0 0)).toArray] (tabQ g self ls) (fun _ : Unit => .int .i64 (updT self ls x).1) (fun _ => tabQ g self (updT self ls x).2) := by
 have := Spec.tabQ (X := emp) (P := Tryz.prog) (w0 := w0) (f := 171) (g := g) (self := self) (ls := ls) (fun r bs hlen => by rw [star_emp]; exact update_specT w0 g r self bs ls hlen ok.hops (by have := ok.short; omega) x hx hxv hx1)
 rwa [star_emp] at this
theorem listT_length (ls : List Ln) : (listT ls).length ≤ ls.length := by
 have h1 := List.length_filterMap_le (lget ls) (sortU (dests ls))
 rw [sortU_length] at h1
 simpa [listT, dests] using h1
end

section
open Go.RowKit
def Nd.Room (s : Nd) (k : Nat) : Prop := s.recs.length + k ≤ 500000 ∧ s.out.journal.length + 13 * k ≤ 900000
theorem Nd.Room.write {s : Nd} {k : Nat} (h : s.Room (k + 1)) (r : Rec) : (s.write r).Room k := by
 have hb := Rec.bytes_length r
 unfold Nd.Room at *
 simp only [Nd.write, List.length_append, List.length_cons, List.length_nil]
 omega
theorem Nd.Room.le {s : Nd} {k m : Nat} (h : s.Room k) (hm : m ≤ k) : s.Room m := by unfold Nd.Room at *; omega
theorem Nd.Room.noteL {s : Nd} {k : Nat} (h : s.Room (k + 1)) (l : Ln) : (s.noteL l).Room k := by
  unfold Nd.noteL
  repeat' split
  all_goals first | exact h.write _ | exact h.le (by omega)
theorem Nd.Room.noteO {s : Nd} {k : Nat} (h : s.Room (k + 1)) : s.noteO.Room k := by
 unfold Nd.noteO
 split
 ·exact h.write _
 ·exact h.le (by omega)
theorem Nd.noteL_ls (s : Nd) (l : Ln) : (s.noteL l).ls = s.ls := by unfold Nd.noteL; (repeat' split) <;> rfl
theorem Nd.noteO_ls (s : Nd) : s.noteO.ls = s.ls := by unfold Nd.noteO; split <;> rfl
theorem Nd.Room.noteLs {k : Nat} (L : List Ln) : ∀ {s : Nd}, s.Room (L.length + k) → (L.foldl Nd.noteL s).Room k := by
 induction L with
 | nil => intro s h; exact h.le (by simp)
 | cons l L ih => intro s h; exact ih (Nd.Room.noteL (h.le (by simp only [List.length_cons]; omega)) l)
attribute [local irreducible] WS LS OpQ OpT OpH OpTQ Spec SpecQ cel
variable (w0 : World)
set_option maxRecDepth 100000 in
theorem note_spec (mu : Int) (gn : Nat) (s : Nd) (h : NH) (hr : s.Room 10) (ok : TabOk s.ls) : Spec Tryz.prog w0 61 [ptr gn 0] (nodPm mu gn s h) (fun _ : Value => .tuple #[]) (fun vr => nodPm mu gn s.note { h with vr := vr }) := by
  refine Spec.enter Tryz.func61 rfl Tryz.ntmps61 rfl fun G => ?_
  obtain ⟨s1, hs1⟩ : ∃ s1, s1 = s.noteO := ⟨_, rfl⟩
  have hO := Nd.Room.noteO (k := 9) hr
  have okO : TabOk s.noteO.ls := by rw [Nd.noteO_ls]; exact ok
  have hn : s.note = (listT s1.ls).foldl Nd.noteL s1 := by unfold Nd.note; rw [hs1, Nd.noteO_ls]
  have hw1 := nwrite_spec w0 mu gn s h ⟨true, 0, s.seq⟩ (by unfold Nd.Room at hr; omega) (by unfold Nd.Room at hr; omega)
  rw [hn]
  rw [← hs1] at hO okO
  simp only [argE]
  clear hn
  by_cases ho : s.own < s.seq
  all_goals
    first
    | (have e1 : s.write ⟨true, 0, s.seq⟩ = s1 := by rw [hs1]; simp [Nd.noteO, ho]
       rw [e1] at hw1)
    | (have e1 : s1 = s := by rw [hs1]; simp [Nd.noteO, ho]
       subst e1)
    have hlist := list_spec w0 h.tb s1.self s1.ls okO
    generalize hL : listT s1.ls = L at *
    have hLl : L.length ≤ 8 := by rw [← hL]; exact Nat.le_trans (listT_length _) okO.short
    simp only [nodPm] at hw1 ⊢
    simp only [nodC] at hw1 ⊢
    repeat' (first | (show WS _ _ _ (.region 0 _ true) _ _; refine WS_drawA (.range 10) (by decide +kernel) rfl ?_) | (refine WS_seqK ?_; intro K hK) | (refine hK _ ?_; clear hK K) | refine stZ ?_ | (refine s2Z ?_ ?_ <;> intro hc <;> (try simp only [cS] at hc) <;> (try (exfalso; first | contradiction | omega))) | refine sbZ ?_ | refine sqZ ?_ | (refine LS_h (H_callX iI rfl hw1 iI) rfl ?_; intro vr) | (refine LS_h (H_callX iI rfl hlist iI) rfl ?_; intro x))
    obtain ⟨v, ps⟩ := x
    dsimp only
    obtain ⟨h1, hh1⟩ : ∃ h1 : NH, h1 = h ∨ ∃ vr, h1 = { h with vr := vr } := ⟨_, .inl rfl⟩
    first
    | refine WS_ent (H' := pure' (List.map (fun x => x.fst) ps = L) * (nodPm mu gn s1 { h with vr := vr } * (rows 53 7 routeS v ps * (befs ps * G)))) (by unfold nodPm; simp only [nodC]; exact finE) ?_
    | refine WS_ent (H' := pure' (List.map (fun x => x.fst) ps = L) * (nodPm mu gn s1 { h with vr := h.vr } * (rows 53 7 routeS v ps * (befs ps * G)))) (by unfold nodPm; simp only [nodC]; exact finE) ?_
    refine WS_pure fun hps => ?_
    have hpl : ps.length = L.length := by rw [← hps]; simp
    refine WS_loop (fun k τ => ∃ (j : Nat) (vr : Value), j + k = ps.length ∧ τ = ⟨[(29, .int .i64 (j : Int)), (28, .int .i64 (ps.length : Int)), (27, v), (0, ptr gn 0)], [], nodPm mu gn ((L.take j).foldl Nd.noteL s1) { h with vr := vr } * (rows 53 7 routeS v ps * (befs ps * G))⟩) ?_ ?_
    · exact ⟨ps.length, _, ⟨0, _, by omega, rfl⟩, ⟨rfl, rfl, rfl, rfl, trivial⟩, rfl, by simp only [List.take_zero, List.foldl_nil]; exact Ent.refl _⟩
    · rintro k τ ⟨j, vr, hjk, rfl⟩
      rcases Nat.lt_or_ge j ps.length with hlt | hge
      · obtain ⟨⟨l, p⟩, hz⟩ : ∃ z, ps[j]? = some z := ⟨_, List.getElem?_eq_getElem hlt⟩
        have hzl : L[j]? = some l := by rw [← hps]; simp [hz]
        have htk : (L.take (j + 1)).foldl Nd.noteL s1 = ((L.take j).foldl Nd.noteL s1).noteL l := by rw [List.take_add_one, hzl, Option.toList_some, List.foldl_append]; rfl
        have hrm : ((L.take j).foldl Nd.noteL s1).Room 1 := Nd.Room.noteLs (k := 1) _ (hO.le (by rw [List.length_take]; omega))
        generalize (L.take j).foldl Nd.noteL s1 = sj at *
        have hw := nwrite_spec w0 mu gn sj { h with vr := vr } ⟨false, l.dest, l.seq⟩ (by unfold Nd.Room at hrm; omega) (by unfold Nd.Room at hrm; omega)
        obtain ⟨ld, lq, lh, ln, lv, le, lb⟩ := l
        simp only at hw htk
        simp only [nodPm] at hw ⊢
        simp only [nodC] at hw ⊢
        cases hm : mget sj.held ld with
        | none =>
          have hst : sj.noteL ⟨ld, lq, lh, ln, lv, le, lb⟩ = sj.write ⟨false, ld, lq⟩ := by simp [Nd.noteL, hm]
          rw [hst] at htk
          repeat' (first | (show WS _ _ _ (.region 5 _ true) _ _; refine WS_drawA (.range 13) (by decide +kernel) rfl ?_) | (refine WS_seqK ?_; intro K hK) | (refine hK _ ?_; clear hK K) | refine stZ ?_ | (refine s2Z ?_ ?_ <;> intro hc <;> (try simp only [cS] at hc) <;> (try (exfalso; first | contradiction | omega))) | refine sbZ ?_ | refine sqZ ?_ | ((first | refine' LQ ?zh rfl ?_ | refine' DL_q rfl rfl ?zh ?_); case zh => intro F'; exact Q_lookupOk_n rfl rfl iI iI iI iI iI (by assumption)) | (refine shZ ?_; intro g) | ((refine' LS_h0 ?zh ?_); (case zh => exact H_storeA rfl rfl iI iI (by first | rfl | (simp only [List.all_cons, List.all_nil, *]; rfl)) rfl); intro g) | (refine LS_h (H_callX iI rfl hw iI) rfl ?_; intro vr2))
          exact ⟨k - 1, _, by omega, ⟨j + 1, vr2, by omega, rfl⟩, ⟨rfl, rfl, rfl, rfl, trivial⟩, rfl, by rw [htk]; dsimp only; exact finE⟩
        | some q =>
          by_cases hq : q < lq
          · have hst : sj.noteL ⟨ld, lq, lh, ln, lv, le, lb⟩ = sj.write ⟨false, ld, lq⟩ := by simp [Nd.noteL, hm, hq]
            rw [hst] at htk
            repeat' (first | (show WS _ _ _ (.region 5 _ true) _ _; refine WS_drawA (.range 13) (by decide +kernel) rfl ?_) | (refine WS_seqK ?_; intro K hK) | (refine hK _ ?_; clear hK K) | refine stZ ?_ | (refine s2Z ?_ ?_ <;> intro hc <;> (try simp only [cS] at hc) <;> (try (exfalso; first | contradiction | omega))) | refine sbZ ?_ | refine sqZ ?_ | ((first | refine' LQ ?zh rfl ?_ | refine' DL_q rfl rfl ?zh ?_); case zh => intro F'; exact Q_lookupOk_s rfl rfl iI iI iI iI iI (by assumption)) | (refine shZ ?_; intro g) | ((refine' LS_h0 ?zh ?_); (case zh => exact H_storeA rfl rfl iI iI (by first | rfl | (simp only [List.all_cons, List.all_nil, *]; rfl)) rfl); intro g) | (refine LS_h (H_callX iI rfl hw iI) rfl ?_; intro vr2))
            exact ⟨k - 1, _, by omega, ⟨j + 1, vr2, by omega, rfl⟩, ⟨rfl, rfl, rfl, rfl, trivial⟩, rfl, by rw [htk]; dsimp only; exact finE⟩
          · have hst : sj.noteL ⟨ld, lq, lh, ln, lv, le, lb⟩ = sj := by simp [Nd.noteL, hm, hq]
            rw [hst] at htk
            repeat' (first | (show WS _ _ _ (.region 5 _ true) _ _; refine WS_drawA (.range 13) (by decide +kernel) rfl ?_) | (refine WS_seqK ?_; intro K hK) | (refine hK _ ?_; clear hK K) | refine stZ ?_ | (refine s2Z ?_ ?_ <;> intro hc <;> (try simp only [cS] at hc) <;> (try (exfalso; first | contradiction | omega))) | refine sbZ ?_ | refine sqZ ?_ | ((first | refine' LQ ?zh rfl ?_ | refine' DL_q rfl rfl ?zh ?_); case zh => intro F'; exact Q_lookupOk_s rfl rfl iI iI iI iI iI (by assumption)) | (refine shZ ?_; intro g) | ((refine' LS_h0 ?zh ?_); (case zh => exact H_storeA rfl rfl iI iI (by first | rfl | (simp only [List.all_cons, List.all_nil, *]; rfl)) rfl); intro g))
            exact ⟨k - 1, _, by omega, ⟨j + 1, vr, by omega, rfl⟩, ⟨rfl, rfl, rfl, rfl, trivial⟩, rfl, by rw [htk]; dsimp only; exact finE⟩
      · obtain rfl : j = ps.length := by omega
        rw [List.take_of_length_le (by omega)]
        generalize L.foldl Nd.noteL s1 = sj at *
        simp only [nodPm]
        simp only [nodC]
        repeat' (first | (refine WS_seqK ?_; intro K hK) | (refine hK _ ?_; clear hK K) | refine stZ ?_ | (refine s2Z ?_ ?_ <;> intro hc <;> (try simp only [cS] at hc) <;> (try (exfalso; first | contradiction | omega))) | refine sbZ ?_)
        exact ret_none (.inr rfl) rfl ⟨vr, rfl, finE⟩
end

end Go.Proofs.YtapoehkdnglahabGreat

