/- What Decode answers, in plain Lean, and that it turns Encode round. No program in sight. -/
import Derived.Test.YtapoehkdnglahaaPk
namespace Go.Proofs.Ytapoehkdnglahaa
set_option linter.unusedVariables false
set_option linter.unusedSimpArgs false
/-- The pairs of numbers in so many bytes. -/
def lostsAt (l : List UInt8) : Nat → List (UInt32 × UInt32)
  | 0 => []
  | n + 1 => lostsAt l n ++ [(numAt l (8 * n), numAt l (8 * n + 4))]
theorem lostsAt_length (l : List UInt8) (n : Nat) : (lostsAt l n).length = n := by
  induction n with
  | zero => rfl
  | succ n ih => simp [lostsAt, ih]
/-- The bytes behind the first five, as what a kind has. -/
def Pk.body (ttl kind : UInt8) (flag n : UInt8) (l : List UInt8) : Option Pk :=
  if kind = 1 then
    if l.length = 20 ∧ (flag = 0 ∨ (flag = 8 ∧ numAt l 8 = 0)) then some ⟨ttl.toNat, 1, n.toNat, decide (flag = 8), numAt l 0, numAt l 4, numAt l 8, numAt l 12, numAt l 16, 0, [], []⟩ else none
  else if kind = 2 then
    if l.length = 16 ∧ flag = 0 then some ⟨ttl.toNat, 2, n.toNat, false, 0, numAt l 0, numAt l 4, numAt l 8, 0, numAt l 12, [], []⟩ else none
  else if kind = 3 then
    if 1 ≤ n.toNat ∧ n.toNat ≤ 8 ∧ l.length = 8 * n.toNat ∧ flag = 0 then some ⟨ttl.toNat, 3, 0, false, 0, 0, 0, 0, 0, 0, lostsAt l n.toNat, []⟩ else none
  else if kind = 9 then
    if n.toNat ≤ 16 ∧ l.length = 12 + n.toNat ∧ flag = 0 then some ⟨ttl.toNat, 9, 0, false, numAt l 0, numAt l 4, 0, numAt l 8, 0, 0, [], l.drop 12⟩ else none
  else none
/-- The packet of a frame. -/
def Pk.dec : List UInt8 → Option Pk
  | t :: k :: f :: z :: n :: l => if z = 0 ∧ t ≠ 0 then Pk.body t k f n l else none
  | _ => none
theorem numAt_be' (k : UInt32) (pre post : List UInt8) (n : Nat) (hn : n = pre.length) : numAt (pre ++ (be k ++ post)) n = k := by
  subst hn
  have e : ∀ j, byteAt (pre ++ (be k ++ post)) (pre.length + j) = byteAt (be k ++ post) j := fun j => by
    rw [byteAt, List.getElem?_append_right (by omega), Nat.add_sub_cancel_left]; rfl
  have e0 := e 0
  rw [Nat.add_zero] at e0
  rw [numAt, e0, e 1, e 2, e 3]
  exact num_be k
theorem numAt_be0 (k : UInt32) (post : List UInt8) : numAt (be k ++ post) 0 = k := numAt_be' k [] post 0 rfl
theorem b8_lt (m : Int) (h0 : 0 ≤ m) (h : m ≤ 255) : ((b8 m).toNat : Int) = m := by
  unfold b8; simp; omega
theorem be_numAt (l : List UInt8) (i : Nat) (h : i + 4 ≤ l.length) : be (numAt l i) = (l.drop i).take 4 := by
  rw [numAt, be_num]
  apply List.ext_getElem?
  intro j
  rw [List.getElem?_take, List.getElem?_drop]
  have g : ∀ k, i + k < l.length → l[i + k]? = some (byteAt l (i + k)) := fun k hk => by simp [byteAt, hk]
  match j with
  | 0 => simpa using (g 0 (by omega)).symm
  | 1 => simpa using (g 1 (by omega)).symm
  | 2 => simpa using (g 2 (by omega)).symm
  | 3 => simpa using (g 3 (by omega)).symm
  | j + 4 => simp; omega
theorem lostB_append (a b : List (UInt32 × UInt32)) : lostB (a ++ b) = lostB a ++ lostB b := by simp [lostB]
theorem lostsAt_bytes (l : List UInt8) : ∀ n, 8 * n ≤ l.length → lostB (lostsAt l n) = l.take (8 * n)
  | 0, _ => by simp [lostsAt, lostB]
  | n + 1, h => by
    rw [lostsAt, lostB_append, lostsAt_bytes l n (by omega)]
    have e : lostB [(numAt l (8 * n), numAt l (8 * n + 4))] = (l.drop (8 * n)).take 8 := by
      simp only [lostB, List.flatMap_cons, List.flatMap_nil, List.append_nil]
      rw [be_numAt l _ (by omega), be_numAt l _ (by omega), ← List.drop_drop]
      exact (List.take_add (i := 4) (j := 4)).symm
    rw [e, show 8 * (n + 1) = 8 * n + 8 by omega]
    exact (List.take_add (i := 8 * n) (j := 8)).symm
theorem lostsAt_lostB : ∀ (x : List (UInt32 × UInt32)) (post : List UInt8) (n : Nat), n ≤ x.length → lostsAt (lostB x ++ post) n = x.take n
  | x, post, 0, _ => by simp [lostsAt]
  | x, post, n + 1, h => by
    rw [lostsAt, lostsAt_lostB x post n (by omega), List.take_add_one]
    obtain ⟨z, hz⟩ : ∃ z, x[n]? = some z := ⟨_, List.getElem?_eq_getElem (by omega)⟩
    have hx : lostB x = lostB (x.take n) ++ (be z.1 ++ (be z.2 ++ lostB (x.drop (n + 1)))) := by
      have h1 : x = x.take n ++ (z :: x.drop (n + 1)) := by
        have := (List.getElem?_eq_some_iff.1 hz).2
        rw [← this, List.getElem_cons_drop, List.take_append_drop]
      conv => lhs; rw [h1]
      simp [lostB]
    have hl := lostB_length (x.take n)
    have hn : (x.take n).length = n := by simp; omega
    rw [hn] at hl
    have e1 : numAt (lostB x ++ post) (8 * n) = z.1 := by
      rw [hx, List.append_assoc, List.append_assoc]
      exact numAt_be' _ _ _ _ hl.symm
    have e2 : numAt (lostB x ++ post) (8 * n + 4) = z.2 := by
      have : lostB x ++ post = (lostB (x.take n) ++ be z.1) ++ (be z.2 ++ (lostB (x.drop (n + 1)) ++ post)) := by rw [hx]; simp
      rw [this]
      exact numAt_be' _ _ _ _ (by simp [hl, be_length])
    rw [e1, e2, hz]; rfl
theorem numAts (ks : List UInt32) (post : List UInt8) (i : Nat) (k : UInt32) (h : ks[i]? = some k) : numAt (nums32 ks ++ post) (4 * i) = k := by
  have hx : nums32 ks ++ post = nums32 (ks.take i) ++ (be k ++ (nums32 (ks.drop (i + 1)) ++ post)) := by
    have h1 : ks = ks.take i ++ (k :: ks.drop (i + 1)) := by
      have hi := (List.getElem?_eq_some_iff.1 h).1
      have := (List.getElem?_eq_some_iff.1 h).2
      rw [← this, List.getElem_cons_drop, List.take_append_drop]
    conv => lhs; rw [h1]
    simp [nums32]
  have hl : ∀ l : List UInt32, (nums32 l).length = 4 * l.length := by
    intro l; induction l with
    | nil => rfl
    | cons a l ih => simp [nums32, be_length] at ih ⊢; omega
  rw [hx]
  exact numAt_be' _ _ _ _ (by rw [hl, List.length_take]; have := (List.getElem?_eq_some_iff.1 h).1; omega)
/-- What was written is read. -/
theorem Pk.dec_bytes {p : Pk} (h : p.Fits) : Pk.dec p.bytes = some p := by
  obtain ⟨ttl, kind, hops, unknown, id, dest, destSeq, from_, fromSeq, life, lost, payload⟩ := p
  obtain ⟨⟨t1, t2, h1, h2, h3, h4⟩, hk⟩ := h
  dsimp only at t1 t2 h1 h2 h3 h4 hk
  have e1 := b8_lt ttl (by omega) t2
  have e2 := b8_lt hops h1 h2
  have e3 : b8 ttl ≠ 0 := by intro e; rw [e] at e1; simp at e1; omega
  rcases hk with ⟨rfl, rfl, hl, rfl, hu⟩ | ⟨rfl, rfl, rfl, rfl, hl, rfl⟩ | ⟨rfl, rfl, rfl, rfl, rfl, rfl, rfl, hl, rfl, rfl, rfl⟩ | ⟨rfl, rfl, rfl, rfl, rfl, rfl, hl⟩
  · obtain rfl : lost = [] := List.eq_nil_of_length_eq_zero hl
    have n := numAts [id, dest, destSeq, from_, fromSeq] []
    simp only [nums32, List.flatMap_cons, List.flatMap_nil, List.append_nil] at n
    have n0 := n 0 id rfl; have n1 := n 1 dest rfl; have n2 := n 2 destSeq rfl; have n3 := n 3 from_ rfl; have n4 := n 4 fromSeq rfl
    simp only [Nat.mul_zero, Nat.reduceMul] at n0 n1 n2 n3 n4
    cases unknown <;> simp_all [Pk.bytes, Pk.dec, Pk.body, be_length]
  · obtain rfl : lost = [] := List.eq_nil_of_length_eq_zero hl
    have n := numAts [dest, destSeq, from_, life] []
    simp only [nums32, List.flatMap_cons, List.flatMap_nil, List.append_nil] at n
    have n0 := n 0 dest rfl; have n1 := n 1 destSeq rfl; have n2 := n 2 from_ rfl; have n3 := n 3 life rfl
    simp only [Nat.mul_zero, Nat.reduceMul] at n0 n1 n2 n3
    simp_all [Pk.bytes, Pk.dec, Pk.body, be_length]
  · have e4 := b8_lt (lost.length : Int) (by omega) (by omega)
    have e5 : (b8 (lost.length : Int)).toNat = lost.length := by omega
    have e6 := lostsAt_lostB lost [] lost.length (Nat.le_refl _)
    rw [List.append_nil, List.take_length] at e6
    have e7 := lostB_length lost
    simp only [Pk.bytes, Pk.dec, Pk.body]
    simp [e3, e5, e6, e7, h4, e1, show 1 ≤ lost.length by omega]
  · obtain rfl : lost = [] := List.eq_nil_of_length_eq_zero hl
    have e4 := b8_lt (payload.length : Int) (by omega) (by omega)
    have e5 : (b8 (payload.length : Int)).toNat = payload.length := by omega
    have n := numAts [id, dest, from_] payload
    simp only [nums32, List.flatMap_cons, List.flatMap_nil, List.append_nil, List.append_assoc] at n
    have n0 := n 0 id rfl; have n1 := n 1 dest rfl; have n2 := n 2 from_ rfl
    simp only [Nat.mul_zero, Nat.reduceMul] at n0 n1 n2
    have e6 : (be id ++ (be dest ++ (be from_ ++ payload))).drop 12 = payload := by
      rw [← List.append_assoc, ← List.append_assoc]
      exact List.drop_left' (by simp [be_length])
    simp only [Pk.bytes, Pk.dec, Pk.body]
    simp [e3, e5, e6, h3, e1, n0, n1, n2, be_length]
    omega
theorem b8_nat (b : UInt8) : b8 (b.toNat : Int) = b := by
  unfold b8; apply UInt8.toNat_inj.1; have := b.toNat_lt; simp; omega
theorem take_split (l : List UInt8) : ∀ (n : Nat), 4 * n = l.length → l = nums32 ((List.range n).map fun i => numAt l (4 * i)) := by
  intro n hn
  have key : ∀ k, k ≤ n → nums32 ((List.range k).map fun i => numAt l (4 * i)) = l.take (4 * k) := by
    intro k
    induction k with
    | zero => intro _; simp [nums32]
    | succ k ih =>
      intro hk
      rw [List.range_succ, List.map_append]
      have e : nums32 ([k].map fun i => numAt l (4 * i)) = (l.drop (4 * k)).take 4 := by
        simp only [nums32, List.map_cons, List.map_nil, List.flatMap_cons, List.flatMap_nil, List.append_nil]
        exact be_numAt l _ (by omega)
      have e2 : ∀ a b, nums32 (a ++ b) = nums32 a ++ nums32 b := fun a b => by simp [nums32]
      rw [e2, ih (by omega), e, show 4 * (k + 1) = 4 * k + 4 by omega]
      exact (List.take_add (i := 4 * k) (j := 4)).symm
  rw [key n (Nat.le_refl _), hn, List.take_length]
/-- What was read fits, and is written so. -/
theorem Pk.dec_some {s : List UInt8} {p : Pk} (h : Pk.dec s = some p) : p.Fits ∧ p.bytes = s := by
  unfold Pk.dec at h
  split at h
  · rename_i t k f z n l
    split at h
    · rename_i hz
      obtain ⟨rfl, ht⟩ := hz
      have ht0 : 1 ≤ (t.toNat : Int) := by
        have : t.toNat ≠ 0 := fun e => ht (UInt8.toNat_inj.1 (by rw [e]; rfl))
        omega
      have ht1 := t.toNat_lt
      have hn1 := n.toNat_lt
      unfold Pk.body at h
      split at h
      · rename_i hk; subst hk
        split at h
        · rename_i hc
          obtain ⟨hl, hf⟩ := hc
          have hs := take_split l 5 hl.symm
          simp only [List.range, List.range.loop, List.map_cons, List.map_nil, nums32, List.flatMap_cons, List.flatMap_nil, List.append_nil, Nat.mul_zero, Nat.reduceMul] at hs
          cases h
          refine ⟨⟨⟨ht0, by dsimp only; omega, by dsimp only; omega, by dsimp only; omega, by simp, by simp⟩, .inl ⟨rfl, rfl, rfl, rfl, ?_⟩⟩, ?_⟩
          · rcases hf with rfl | ⟨rfl, h0⟩
            · left; rfl
            · right; exact h0
          · rcases hf with rfl | ⟨rfl, h0⟩
            · simp only [Pk.bytes, b8_nat]
              simp only [if_true, List.append_assoc]
              rw [← hs]; rfl
            · simp only [Pk.bytes, b8_nat]
              simp only [if_true, List.append_assoc]
              rw [← hs]; rfl
        · cases h
      · split at h
        · rename_i hk; subst hk
          split at h
          · rename_i hc
            obtain ⟨hl, rfl⟩ := hc
            have hs := take_split l 4 hl.symm
            simp only [List.range, List.range.loop, List.map_cons, List.map_nil, nums32, List.flatMap_cons, List.flatMap_nil, List.append_nil, Nat.mul_zero, Nat.reduceMul] at hs
            cases h
            refine ⟨⟨⟨ht0, by dsimp only; omega, by dsimp only; omega, by dsimp only; omega, by simp, by simp⟩, .inr (.inl ⟨rfl, rfl, rfl, rfl, rfl, rfl⟩)⟩, ?_⟩
            simp only [Pk.bytes, b8_nat]
            rw [if_neg (by decide), if_pos trivial]
            simp only [List.append_assoc]
            rw [← hs]; rfl
          · cases h
        · split at h
          · rename_i hk; subst hk
            split at h
            · rename_i hc
              obtain ⟨hn, hn8, hl, rfl⟩ := hc
              cases h
              have e := lostsAt_length l n.toNat
              refine ⟨⟨⟨ht0, by dsimp only; omega, by simp, by simp, by simp, by dsimp only; omega⟩, .inr (.inr (.inl ⟨rfl, rfl, rfl, rfl, rfl, rfl, rfl, by dsimp only; omega, rfl, rfl, rfl⟩))⟩, ?_⟩
              simp only [Pk.bytes, b8_nat, e]
              rw [if_neg (by decide), if_neg (by decide), if_pos trivial, lostsAt_bytes l _ (by omega), ← hl, List.take_length]
              rfl
            · cases h
          · split at h
            · rename_i hk; subst hk
              split at h
              · rename_i hc
                obtain ⟨hn, hl, rfl⟩ := hc
                cases h
                have e : (l.drop 12).length = n.toNat := by simp; omega
                refine ⟨⟨⟨ht0, by dsimp only; omega, by simp, by simp, by dsimp only; omega, by simp⟩, .inr (.inr (.inr ⟨rfl, rfl, rfl, rfl, rfl, rfl, rfl⟩))⟩, ?_⟩
                simp only [Pk.bytes, b8_nat, e]
                rw [if_neg (by decide), if_neg (by decide), if_neg (by decide)]
                have hs := take_split (l.take 12) 3 (by simp; omega)
                have en : ∀ i, i + 4 ≤ 12 → numAt (l.take 12) i = numAt l i := fun i hi => by
                  simp only [numAt, byteAt, List.getElem?_take]
                  rw [if_pos (by omega), if_pos (by omega), if_pos (by omega), if_pos (by omega)]
                simp only [List.range, List.range.loop, List.map_cons, List.map_nil, nums32, List.flatMap_cons, List.flatMap_nil, List.append_nil, Nat.mul_zero, Nat.reduceMul] at hs
                rw [en 0 (by omega), en 4 (by omega), en 8 (by omega)] at hs
                have e12 : be (numAt l 0) ++ (be (numAt l 4) ++ (be (numAt l 8) ++ l.drop 12)) = l := by
                  rw [← List.append_assoc, ← List.append_assoc, List.append_assoc (be (numAt l 0)), ← hs, List.take_append_drop]
                simp only [List.append_assoc]
                rw [e12]; rfl
              · cases h
            · cases h
    · cases h
  · cases h
theorem Pk.dec_iff {s : List UInt8} {p : Pk} : Pk.dec s = some p ↔ p.Fits ∧ p.bytes = s := ⟨Pk.dec_some, fun ⟨h1, h2⟩ => by rw [← h2]; exact Pk.dec_bytes h1⟩
theorem Pk.bytes_inj {p q : Pk} (hp : p.Fits) (hq : q.Fits) (h : p.bytes = q.bytes) : p = q := by
  have h1 := Pk.dec_bytes hp
  rw [h, Pk.dec_bytes hq] at h1
  cases h1; rfl
end Go.Proofs.Ytapoehkdnglahaa
