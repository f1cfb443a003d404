/- A heap of timers against a list of timers: each call answers alike; and where each number stands. Plain Lean. -/
import Derived.Test.YtapoehkdnglahaaTimP
import Derived.Test.YtapoehkdnglahaaMapL
namespace Go.Proofs.Ytapoehkdnglahaa
set_option linter.unusedVariables false
/-- No two timers have the same number. -/
def IdN (l : List Tm) : Prop := (l.map (·.id)).Nodup
theorem IdN.perm {l L : List Tm} (h : IdN l) (p : l.Perm L) : IdN L := (p.map _).nodup_iff.1 h
theorem IdN.inj {l : List Tm} (h : IdN l) {a b : Nat} (ha : a < l.length) (hb : b < l.length) (e : (at' l a).id = (at' l b).id) : a = b := by
  have h' : (l.map (·.id)).Nodup := h
  exact (List.getElem_inj (xs := l.map (·.id)) (h₀ := by simpa using ha) (h₁ := by simpa using hb) h').1 (by simpa [at', ha, hb] using e)
theorem mem_at' {l : List Tm} {t : Tm} : t ∈ l ↔ ∃ k, k < l.length ∧ at' l k = t := by
  rw [List.mem_iff_getElem]
  constructor
  · rintro ⟨k, hk, rfl⟩; exact ⟨k, hk, by simp [at', hk]⟩
  · rintro ⟨k, hk, rfl⟩; exact ⟨k, hk, by simp [at', hk]⟩
theorem at'_mem {l : List Tm} {k : Nat} (h : k < l.length) : at' l k ∈ l := mem_at'.2 ⟨k, h, rfl⟩
/-- The map tells where each number stands. -/
def PlOk (l : List Tm) (m : List (Int × Int)) : Prop := KN m ∧ ∀ id v, mget m id = some v ↔ ∃ k : Nat, k < l.length ∧ (at' l k).id = id ∧ v = (k : Int)
theorem PlOk.nil : PlOk [] [] := ⟨KN.nil, fun id v => by simp [mget_nil]⟩
theorem PlOk.none {l : List Tm} {m : List (Int × Int)} (h : PlOk l m) {id : Int} (h0 : mget m id = none) : ∀ t ∈ l, t.id ≠ id := by
  intro t ht e
  obtain ⟨k, hk, rfl⟩ := mem_at'.1 ht
  have := (h.2 id k).2 ⟨k, hk, e, rfl⟩
  rw [h0] at this; cases this
theorem PlOk.swap {l : List Tm} {m : List (Int × Int)} (h : PlOk l m) (hn : IdN l) {i j : Nat} (hi : i < l.length) (hj : j < l.length) :
    PlOk (swp l i j) (mset (mset m (at' (swp l i j) i).id (i : Int)) (at' (swp l i j) j).id (j : Int)) := by
  have hn' : IdN (swp l i j) := hn.perm (swp_perm hi hj).symm
  refine ⟨(h.1.mset _ _).mset _ _, fun id v => ?_⟩
  rw [mget_mset, mget_mset]
  have hj' : j < (swp l i j).length := by simpa using hj
  have hi' : i < (swp l i j).length := by simpa using hi
  by_cases e1 : (at' (swp l i j) j).id = id
  · rw [if_pos e1]
    constructor
    · intro e; cases e; exact ⟨j, hj', e1, rfl⟩
    · rintro ⟨k, hk, e, rfl⟩
      rw [hn'.inj hk hj' (e.trans e1.symm)]
  · rw [if_neg e1]
    by_cases e2 : (at' (swp l i j) i).id = id
    · rw [if_pos e2]
      constructor
      · intro e; cases e; exact ⟨i, hi', e2, rfl⟩
      · rintro ⟨k, hk, e, rfl⟩
        rw [hn'.inj hk hi' (e.trans e2.symm)]
    · rw [if_neg e2, h.2 id v]
      have a1 := at'_swp hi hj j
      have a2 := at'_swp hi hj i
      rw [if_pos rfl] at a1
      constructor
      · rintro ⟨k, hk, e, rfl⟩
        have k1 : k ≠ i := by rintro rfl; rw [a1] at e1; exact e1 e
        have k2 : k ≠ j := by
          rintro rfl
          by_cases hij : i = k
          · subst hij; rw [a1] at e1; exact e1 e
          · rw [if_neg hij, if_pos rfl] at a2; rw [a2] at e2; exact e2 e
        exact ⟨k, by simpa using hk, by rw [at'_swp hi hj, if_neg k2, if_neg k1]; exact e, rfl⟩
      · rintro ⟨k, hk, e, rfl⟩
        have k1 : k ≠ i := by rintro rfl; exact e2 e
        have k2 : k ≠ j := by rintro rfl; exact e1 e
        rw [at'_swp hi hj, if_neg k2, if_neg k1] at e
        exact ⟨k, by simpa using hk, e, rfl⟩
theorem at'_append {l : List Tm} (t : Tm) (k : Nat) : at' (l ++ [t]) k = if k = l.length then t else at' l k := by
  unfold at'
  rw [List.getElem?_append]
  split
  · rw [if_neg (by omega)]
  · split
    · rename_i h; subst h; simp
    · rw [List.getElem?_eq_none (by simp; omega), List.getElem?_eq_none (by omega)]
theorem PlOk.snoc {l : List Tm} {m : List (Int × Int)} (h : PlOk l m) (t : Tm) (ht : ∀ u ∈ l, u.id ≠ t.id) : PlOk (l ++ [t]) (mset m t.id (l.length : Int)) := by
  refine ⟨h.1.mset _ _, fun id v => ?_⟩
  rw [mget_mset]
  by_cases e : t.id = id
  · rw [if_pos e]
    constructor
    · intro e2; cases e2; exact ⟨l.length, by simp, by rw [at'_append, if_pos rfl]; exact e, rfl⟩
    · rintro ⟨k, hk, e2, rfl⟩
      rw [at'_append] at e2
      split at e2
      · rename_i hk2; rw [hk2]
      · simp at hk
        exact absurd (e2.trans e.symm) (ht _ (at'_mem (by omega)))
  · rw [if_neg e, h.2]
    constructor
    · rintro ⟨k, hk, e2, rfl⟩; exact ⟨k, by simp; omega, by rw [at'_append, if_neg (by omega)]; exact e2, rfl⟩
    · rintro ⟨k, hk, e2, rfl⟩
      rw [at'_append] at e2
      split at e2
      · exact absurd e2 e
      · simp at hk; exact ⟨k, by omega, e2, rfl⟩
theorem at'_take {l : List Tm} {n k : Nat} (h : k < n) : at' (l.take n) k = at' l k := by simp only [at', List.getElem?_take, if_pos h]
theorem PlOk.pop {l : List Tm} {m : List (Int × Int)} (h : PlOk l m) (hn : IdN l) (h0 : 0 < l.length) : PlOk (l.take (l.length - 1)) (mdel m (at' l (l.length - 1)).id) := by
  refine ⟨h.1.mdel _, fun id v => ?_⟩
  rw [mget_mdel h.1]
  by_cases e : (at' l (l.length - 1)).id = id
  · rw [if_pos e]
    constructor
    · intro e2; cases e2
    · rintro ⟨k, hk, e2, rfl⟩
      simp at hk
      rw [at'_take (by omega)] at e2
      have := hn.inj (by omega) (by omega) (e2.trans e.symm)
      omega
  · rw [if_neg e, h.2]
    constructor
    · rintro ⟨k, hk, e2, rfl⟩
      have : k ≠ l.length - 1 := by rintro rfl; exact e e2
      exact ⟨k, by simp; omega, by rw [at'_take (by omega)]; exact e2, rfl⟩
    · rintro ⟨k, hk, e2, rfl⟩
      simp at hk
      rw [at'_take (by omega)] at e2
      exact ⟨k, by omega, e2, rfl⟩
/-! ### The list's answers -/
/-- The place of the first timer with a number. -/
def findT (l : List Tm) (id : Int) : Option Nat := l.findIdx? (fun t => decide (t.id = id))
theorem findT_some {l : List Tm} {id : Int} {k : Nat} (h : findT l id = some k) : k < l.length ∧ (at' l k).id = id := by
  obtain ⟨h1, h2, _⟩ := List.findIdx?_eq_some_iff_getElem.1 h
  exact ⟨h1, by simpa [at', h1] using h2⟩
theorem findT_none {l : List Tm} {id : Int} (h : findT l id = none) : ∀ t ∈ l, t.id ≠ id := by
  have := List.findIdx?_eq_none_iff.1 h
  intro t ht e
  have := this t ht
  simp [e] at this
/-- The place of the one that is due first, among the first n. -/
def bestN (L : List Tm) (now : UInt64) : Nat → Option Nat
  | 0 => none
  | n + 1 => match bestN L now n with
    | none => if (at' L n).at_ ≤ now then some n else none
    | some b => if (at' L n).at_ ≤ now ∧ (at' L n).at_ < (at' L b).at_ then some n else some b
theorem bestN_none {L : List Tm} {now : UInt64} : ∀ {n : Nat}, bestN L now n = none → ∀ j, j < n → now < (at' L j).at_
  | 0, _, j, hj => absurd hj (Nat.not_lt_zero _)
  | n + 1, h, j, hj => by
    simp only [bestN] at h
    cases hb : bestN L now n with
    | none =>
      rw [hb] at h
      simp only at h
      split at h
      · cases h
      · rename_i hc
        by_cases e : j = n
        · subst e; simpa [UInt64.lt_iff_toNat_lt, UInt64.le_iff_toNat_le] using hc
        · exact bestN_none hb j (by omega)
    | some b =>
      rw [hb] at h
      simp only at h
      split at h <;> cases h
theorem bestN_some {L : List Tm} {now : UInt64} : ∀ {n b : Nat}, bestN L now n = some b → b < n ∧ (at' L b).at_.toNat ≤ now.toNat ∧ (∀ j, j < n → (at' L b).at_.toNat ≤ (at' L j).at_.toNat) ∧ ∀ j, j < b → (at' L b).at_.toNat < (at' L j).at_.toNat
  | 0, b, h => by cases h
  | n + 1, b, h => by
    simp only [bestN] at h
    cases hb : bestN L now n with
    | none =>
      rw [hb] at h
      simp only at h
      split at h
      · rename_i hc
        obtain rfl : n = b := by simpa using h
        have h1 := bestN_none hb
        rw [UInt64.le_iff_toNat_le] at hc
        refine ⟨by omega, hc, fun j hj => ?_, fun j hj => ?_⟩
        · by_cases e : j = n
          · subst e; exact Nat.le_refl _
          · have := h1 j (by omega); rw [UInt64.lt_iff_toNat_lt] at this; omega
        · have := h1 j (by omega); rw [UInt64.lt_iff_toNat_lt] at this; omega
      · cases h
    | some c =>
      rw [hb] at h
      obtain ⟨g1, g2, g3, g4⟩ := bestN_some hb
      simp only [UInt64.lt_iff_toNat_lt, UInt64.le_iff_toNat_le] at h
      split at h
      · rename_i hc
        obtain rfl : n = b := by simpa using h
        refine ⟨by omega, hc.1, fun j hj => ?_, fun j hj => ?_⟩
        · by_cases e : j = n
          · subst e; exact Nat.le_refl _
          · have := g3 j (by omega); omega
        · have := g3 j (by omega); omega
      · rename_i hc
        cases h
        refine ⟨by omega, g2, fun j hj => ?_, g4⟩
        by_cases e : j = n
        · subst e; omega
        · exact g3 j (by omega)
/-! ### Both -/
/-- The heap l and the list L hold the same timers. -/
structure TR (l L : List Tm) (last : Int) : Prop where
  perm : l.Perm L
  hp : Hp l
  rising : (L.map (·.id)).Pairwise (· < ·)
  bound : ∀ t ∈ L, 1 ≤ t.id ∧ t.id ≤ last
theorem TR.nil : TR [] [] 0 := ⟨List.Perm.refl _, fun k _ h => absurd h (Nat.not_lt_zero _), List.Pairwise.nil, fun t h => by cases h⟩
theorem TR.idN {l L : List Tm} {last : Int} (h : TR l L last) : IdN L := h.rising.imp (fun h => by omega)
theorem TR.idn {l L : List Tm} {last : Int} (h : TR l L last) : IdN l := h.idN.perm h.perm.symm
theorem TR.add {l L : List Tm} {last : Int} (h : TR l L last) (hl : 0 ≤ last) (t : Tm) (ht : t.id = last + 1) : TR (addF l t) (L ++ [t]) (last + 1) := by
  refine ⟨(addF_perm l t).trans (h.perm.append_right [t]), addF_hp t h.hp, ?_, fun u hu => ?_⟩
  · rw [List.map_append]
    refine List.pairwise_append.2 ⟨h.rising, by simp, fun a ha b hb => ?_⟩
    obtain ⟨u, hu, rfl⟩ := List.mem_map.1 ha
    have := h.bound u hu
    simp at hb; subst hb; omega
  · rcases List.mem_append.1 hu with hu | hu
    · have := h.bound u hu; omega
    · simp at hu; subst hu; omega
theorem erase_perm {L : List Tm} {k : Nat} (h : k < L.length) : (at' L k :: L.eraseIdx k).Perm L := by
  have e : at' L k = L[k] := by simp [at', h]
  rw [e]
  clear e
  induction L generalizing k with
  | nil => simp at h
  | cons a L ih =>
    cases k with
    | zero => simp
    | succ k =>
      have := ih (k := k) (by simpa using h)
      simp only [List.getElem_cons_succ, List.eraseIdx_cons_succ]
      exact (List.Perm.swap _ _ _).trans (this.cons a)
theorem TR.rem {l L : List Tm} {last : Int} (h : TR l L last) {i k : Nat} (hi : i < l.length) (hk : k < L.length) (e : (at' l i).id = (at' L k).id) : at' l i = at' L k ∧ TR (remF l i) (L.eraseIdx k) last := by
  have e1 : at' l i = at' L k := by
    have h1 := h.perm.mem_iff.1 (at'_mem hi)
    obtain ⟨j, hj, hje⟩ := mem_at'.1 h1
    rw [← hje] at e ⊢
    rw [h.idN.inj hj hk e]
  refine ⟨e1, ?_, remF_hp hi h.hp, ?_, fun t ht => h.bound t (List.mem_of_mem_eraseIdx ht)⟩
  · have := (remF_perm hi).trans (h.perm.trans (erase_perm hk).symm)
    rw [e1] at this
    exact this.cons_inv
  · exact h.rising.sublist ((List.eraseIdx_sublist L k).map _)
theorem TR.last_mono {l L : List Tm} {last last' : Int} (h : TR l L last) (hl : last ≤ last') : TR l L last' := ⟨h.perm, h.hp, h.rising, fun t ht => by have := h.bound t ht; omega⟩
/-- Nothing is due. -/
theorem TR.idle {l L : List Tm} {last : Int} (h : TR l L last) {now : UInt64} (h0 : 0 < l.length → now < (at' l 0).at_) : bestN L now L.length = none := by
  cases hb : bestN L now L.length with
  | none => rfl
  | some b =>
    obtain ⟨g1, g2, _, _⟩ := bestN_some hb
    have hm := h.perm.mem_iff.2 (at'_mem g1)
    obtain ⟨j, hj, hje⟩ := mem_at'.1 hm
    have h1 := h0 (by omega)
    have h2 := h.hp.min j hj
    rw [UInt64.lt_iff_toNat_lt] at h1
    have : ¬ (at' l j).ahead (at' l 0) = true := by simp [h2]
    rw [ahead_iff, hje] at this
    omega
/-- What is due first stands at the top. -/
theorem TR.due {l L : List Tm} {last : Int} (h : TR l L last) {now : UInt64} (h0 : 0 < l.length) (h1 : ¬ now < (at' l 0).at_) : ∃ b, bestN L now L.length = some b ∧ b < L.length ∧ at' l 0 = at' L b ∧ TR (remF l 0) (L.eraseIdx b) last := by
  obtain ⟨j, hj, hje⟩ := mem_at'.1 (h.perm.mem_iff.1 (at'_mem h0))
  cases hb : bestN L now L.length with
  | none =>
    have := bestN_none hb j hj
    rw [hje] at this
    exact absurd this h1
  | some b =>
    obtain ⟨g1, g2, g3, g4⟩ := bestN_some hb
    obtain ⟨i, hi, hie⟩ := mem_at'.1 (h.perm.mem_iff.2 (at'_mem g1))
    have h2 := h.hp.min i hi
    have h3 : ¬ (at' l i).ahead (at' l 0) = true := by simp [h2]
    rw [ahead_iff, hie, ← hje] at h3
    have h4 := g3 j hj
    have hjb : j = b := by
      rcases Nat.lt_trichotomy j b with hlt | he | hgt
      · have := g4 j hlt; omega
      · exact he
      · have := List.pairwise_iff_getElem.1 h.rising b j (by simpa using g1) (by simpa using hj) hgt
        simp only [List.getElem_map] at this
        have e1 : at' L b = L[b] := by simp [at', g1]
        have e2 : at' L j = L[j] := by simp [at', hj]
        rw [e1, e2] at h3
        rw [e1, e2] at h4
        omega
    subst hjb
    have hr := h.rem h0 g1 (by rw [hje])
    exact ⟨j, rfl, g1, hr.1, hr.2⟩
end Go.Proofs.Ytapoehkdnglahaa
