/- Timers that are numbered from one, and which of them are gone: plain Lean. -/
import Derived.Test.YtapoehkdnglahaaTimQ
namespace Go.Proofs.Ytapoehkdnglahaa
set_option linter.unusedVariables false
set_option linter.unusedSimpArgs false
/-- Timer k of the times. -/
def tmOf (ats : List UInt64) (k : Nat) : Tm := ⟨(ats[k]?).getD 0, (k : Int) + 1, (k : Int)⟩
/-- gl tells which of the first N timers are gone; L holds the others. -/
structure Tk (ats : List UInt64) (N : Nat) (L : List Tm) (gl : List Bool) : Prop where
  mem : ∀ t ∈ L, ∃ k, k < N ∧ t = tmOf ats k
  gone : ∀ k, k < N → (gl[k]? = some false ↔ tmOf ats k ∈ L)
  there : ∀ k, k < N → k < gl.length
theorem tmOf_inj {ats : List UInt64} {j k : Nat} (h : (tmOf ats j).id = (tmOf ats k).id) : j = k := by simp only [tmOf] at h; omega
theorem Tk.nil (ats : List UInt64) (gl : List Bool) : Tk ats 0 [] gl := ⟨fun _ h => absurd h List.not_mem_nil, fun k h => absurd h (Nat.not_lt_zero _), fun k h => absurd h (Nat.not_lt_zero _)⟩
theorem Tk.add {ats : List UInt64} {N : Nat} {L : List Tm} {gl : List Bool} (h : Tk ats N L gl) (hg : gl[N]? = some false) : Tk ats (N + 1) (L ++ [tmOf ats N]) gl := by
  refine ⟨fun t ht => ?_, fun k hk => ?_, fun k hk => ?_⟩
  · rcases List.mem_append.1 ht with ht | ht
    · obtain ⟨k, hk, e⟩ := h.mem t ht; exact ⟨k, by omega, e⟩
    · rw [List.mem_singleton] at ht; exact ⟨N, by omega, ht⟩
  · by_cases e : k = N
    · subst e; simp [hg]
    · rw [h.gone k (by omega)]
      constructor
      · intro h1; exact List.mem_append_left _ h1
      · intro h1
        rcases List.mem_append.1 h1 with h1 | h1
        · exact h1
        · rw [List.mem_singleton] at h1
          exact absurd (tmOf_inj (congrArg Tm.id h1)) e
  · by_cases e : k = N
    · subst e; exact (List.getElem?_eq_some_iff.1 hg).1
    · exact h.there k (by omega)
theorem IdN.nodup {L : List Tm} (h : IdN L) : L.Nodup := by
  unfold IdN at h
  exact (List.pairwise_map.1 h).imp fun h e => h (by rw [e])
theorem mem_eraseIdx' {L : List Tm} (h : IdN L) {b : Nat} (hb : b < L.length) (t : Tm) : t ∈ L.eraseIdx b ↔ t ∈ L ∧ t ≠ at' L b := by
  have hp := erase_perm hb
  have hn := hp.symm.nodup h.nodup
  rw [← hp.mem_iff, List.mem_cons]
  have := (List.nodup_cons.1 hn).1
  constructor
  · intro ht; exact ⟨.inr ht, fun e => this (e ▸ ht)⟩
  · rintro ⟨h1 | h1, h2⟩
    · exact absurd h1 h2
    · exact h1
theorem Tk.rem {ats : List UInt64} {N : Nat} {L : List Tm} {gl : List Bool} (h : Tk ats N L gl) (hn : IdN L) {b k : Nat} (hb : b < L.length) (hk : k < N) (e : at' L b = tmOf ats k) : Tk ats N (L.eraseIdx b) (gl.set k true) := by
  refine ⟨fun t ht => ?_, fun j hj => ?_, fun j hj => ?_⟩
  · exact h.mem t ((mem_eraseIdx' hn hb t).1 ht).1
  · rw [mem_eraseIdx' hn hb, e]
    have hlt := h.there k hk
    by_cases ej : k = j
    · subst ej; simp [hlt]
    · rw [List.getElem?_set_ne ej, h.gone j hj]
      exact ⟨fun h1 => ⟨h1, fun e2 => ej (tmOf_inj (congrArg Tm.id e2)).symm⟩, fun h1 => h1.1⟩
  · rw [List.length_set]; exact h.there j hj
/-- The one that is cancelled is there or gone. -/
theorem Tk.find {ats : List UInt64} {N : Nat} {L : List Tm} {gl : List Bool} (h : Tk ats N L gl) {b k : Nat} (hb : b < L.length) (hk : k < N) (e : (at' L b).id = (k : Int) + 1) : at' L b = tmOf ats k ∧ gl[k]? = some false := by
  obtain ⟨j, hj, e2⟩ := h.mem _ (at'_mem hb)
  have ej : j = k := by rw [e2] at e; simp only [tmOf] at e; omega
  subst ej
  exact ⟨e2, (h.gone j hj).2 (e2 ▸ at'_mem hb)⟩
theorem Tk.lost {ats : List UInt64} {N : Nat} {L : List Tm} {gl : List Bool} (h : Tk ats N L gl) {k : Nat} (hk : k < N) (e : ∀ j, j < L.length → (at' L j).id ≠ (k : Int) + 1) : gl[k]? = some true := by
  have h1 := h.there k hk
  obtain ⟨b, hb⟩ : ∃ b, gl[k]? = some b := ⟨_, List.getElem?_eq_getElem h1⟩
  cases b with
  | true => exact hb
  | false =>
    obtain ⟨j, hj, e2⟩ := mem_at'.1 ((h.gone k hk).1 hb)
    exact absurd (by rw [e2]; rfl) (e j hj)
/-- What is due first: it is there, and none is earlier. -/
theorem Tk.first {ats : List UInt64} {N : Nat} {l L : List Tm} {gl : List Bool} {a : Int} (h : Tk ats N L gl) (tr : TR l L a) (h0 : 0 < l.length) :
    ∃ b k, b < L.length ∧ k < N ∧ at' l 0 = tmOf ats k ∧ at' L b = tmOf ats k ∧ gl[k]? = some false ∧ TR (remF l 0) (L.eraseIdx b) a ∧ (∀ t ∈ L, (tmOf ats k).at_.toNat ≤ t.at_.toNat) := by
  have hm := tr.perm.mem_iff.1 (at'_mem h0)
  obtain ⟨b, hb, e⟩ := mem_at'.1 hm
  obtain ⟨k, hk, e2⟩ := h.mem _ hm
  refine ⟨b, k, hb, hk, e2, by rw [e, e2], (h.gone k hk).2 (e2 ▸ hm), (tr.rem h0 hb (by rw [e])).2, fun t ht => ?_⟩
  obtain ⟨j, hj, ej⟩ := mem_at'.1 (tr.perm.mem_iff.2 ht)
  have := tr.hp.min j hj
  rw [ej, e2] at this
  have := mt ahead_iff.2 (by rw [Bool.not_eq_true]; exact this)
  omega
theorem cancel_cases {l L : List Tm} {a : Int} (h : TR l L a) (n : Int) : ((∀ k, k < l.length → (at' l k).id ≠ n) ∧ (∀ k, k < L.length → (at' L k).id ≠ n)) ∨
    ∃ i k, i < l.length ∧ (at' l i).id = n ∧ k < L.length ∧ (at' L k).id = n ∧ (∀ j, j < k → (at' L j).id ≠ n) ∧ TR (remF l i) (L.eraseIdx k) a := by
  by_cases hk : ∃ k, k < L.length ∧ (at' L k).id = n
  · right
    obtain ⟨k, hk, hid⟩ := hk
    obtain ⟨i, hi, hie⟩ := mem_at'.1 (h.perm.mem_iff.2 (at'_mem hk))
    have e : (at' l i).id = (at' L k).id := by rw [hie]
    refine ⟨i, k, hi, by rw [e, hid], hk, hid, fun j hj e' => ?_, (h.rem hi hk e).2⟩
    have := h.idN.inj (by omega) hk (e'.trans hid.symm)
    omega
  · left
    have hk' : ∀ k, k < L.length → (at' L k).id ≠ n := fun k h1 h2 => hk ⟨k, h1, h2⟩
    refine ⟨fun k h1 h2 => ?_, hk'⟩
    obtain ⟨i, hi, hie⟩ := mem_at'.1 (h.perm.mem_iff.1 (at'_mem h1))
    exact hk' i hi (by rw [hie, h2])
theorem next_cases {l L : List Tm} {a : Int} (h : TR l L a) (t : UInt64) : ((0 < l.length → t < (at' l 0).at_) ∧ bestN L t L.length = none) ∨
    ∃ k, 0 < l.length ∧ ¬ t < (at' l 0).at_ ∧ bestN L t L.length = some k ∧ at' l 0 = at' L k ∧ TR (remF l 0) (L.eraseIdx k) a := by
  by_cases h0 : 0 < l.length
  · by_cases h1 : t < (at' l 0).at_
    · exact .inl ⟨fun _ => h1, h.idle fun _ => h1⟩
    · obtain ⟨b, h2, h3, h4, h5⟩ := h.due h0 h1
      exact .inr ⟨b, h0, h1, h2, h4, h5⟩
  · exact .inl ⟨fun h => absurd h h0, h.idle fun h => absurd h h0⟩
end Go.Proofs.Ytapoehkdnglahaa
