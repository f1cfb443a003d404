/- Plain Lean: of a journal that is cut, or in which one byte is another, just the records ahead of the place are read. -/
import Derived.Test.YtapoehkdnglahaaWireP
namespace Go.Proofs.Ytapoehkdnglahaa

theorem xor_cancel_right (a b c : UInt32) (h : a ^^^ c = b ^^^ c) : a = b := by
  have := congrArg (· ^^^ c) h
  simpa [UInt32.xor_assoc] using this
theorem xor_cancel_left (a b c : UInt32) (h : c ^^^ a = c ^^^ b) : a = b := by
  rw [UInt32.xor_comm c a, UInt32.xor_comm c b] at h
  exact xor_cancel_right a b c h
theorem xor_small (a b : UInt32) (ha : a.toNat < 2147483648) (hb : b.toNat < 2147483648) : (a ^^^ b).toNat < 2147483648 := by
  rw [UInt32.toNat_xor]
  exact Nat.xor_lt_two_pow (n := 31) ha hb
theorem fall_inj (c d : UInt32) (h : fall c = fall d) : c = d := by
  have hc := c.toNat_lt; have hd := d.toNat_lt
  have ec := half_toNat c; have ed := half_toNat d
  have key : UInt32.ofNat (c.toNat / 2) = UInt32.ofNat (d.toNat / 2) → c.toNat % 2 = d.toNat % 2 → c = d := by
    intro e p
    have := congrArg UInt32.toNat e
    rw [ec, ed] at this
    exact UInt32.toNat_inj.1 (by omega)
  have no : ∀ a b : UInt32, a.toNat < 2147483648 → b.toNat < 2147483648 → a ^^^ 3988292384 ≠ b := by
    intro a b ha hb e
    have h1 : a ^^^ b = 3988292384 := by
      rw [← e, ← UInt32.xor_assoc, UInt32.xor_self, UInt32.zero_xor]
    have h2 := xor_small a b ha hb
    rw [h1] at h2
    exact absurd h2 (by decide)
  unfold fall at h
  split at h <;> split at h
  · exact key (xor_cancel_right _ _ _ h) (by omega)
  · exact absurd h (no _ _ (by omega) (by omega))
  · exact absurd h.symm (no _ _ (by omega) (by omega))
  · exact key h (by omega)
theorem falls_inj (n : Nat) (c d : UInt32) (h : falls n c = falls n d) : c = d := by
  induction n with
  | zero => exact h
  | succ n ih => exact ih (fall_inj _ _ h)
theorem sumOn_inj (l : List UInt8) (c d : UInt32) (h : sumOn c l = sumOn d l) : c = d := by
  induction l generalizing c d with
  | nil => exact h
  | cons b l ih => exact xor_cancel_right _ _ _ (falls_inj 8 _ _ (ih _ _ h))
theorem byte_inj (a b : UInt8) (h : UInt32.ofNat a.toNat = UInt32.ofNat b.toNat) : a = b := by
  have := congrArg UInt32.toNat h
  rw [byte_toNat, byte_toNat] at this
  exact UInt8.toNat_inj.1 this
/-- One byte is another: the sum is another. -/
theorem sumOf_set (l : List UInt8) (i : Nat) (hi : i < l.length) (b : UInt8) (hb : b ≠ l[i]) : sumOf (l.set i b) ≠ sumOf l := by
  intro h
  have h1 := xor_cancel_left _ _ _ h
  have e1 : l = l.take i ++ l[i] :: l.drop (i + 1) := by simp
  have e2 : l.set i b = l.take i ++ b :: l.drop (i + 1) := by rw [List.set_eq_take_append_cons_drop, if_pos hi]
  have key : ∀ x, sumOn 4294967295 (l.take i ++ x :: l.drop (i + 1)) = sumOn (falls 8 (sumOn 4294967295 (l.take i) ^^^ UInt32.ofNat x.toNat)) (l.drop (i + 1)) := by
    intro x; simp [sumOn]
  rw [e2, key] at h1
  conv at h1 => rhs; rw [e1, key]
  exact hb (byte_inj _ _ (xor_cancel_left _ _ _ (falls_inj 8 _ _ (sumOn_inj _ _ _ h1))))

/-- What is read of a record. -/
def Rec.norm (r : Rec) : Rec := { r with addr := if r.own then 0 else r.addr }
theorem norm_head (r : Rec) : r.norm.head = r.head := by
  cases r with | mk own addr seq => cases own <;> rfl
theorem norm_bytes (r : Rec) : r.norm.bytes = r.bytes := by rw [Rec.bytes, norm_head, ← Rec.bytes]
theorem numAt_of (a b c d : UInt8) (pre post : List UInt8) : numAt (pre ++ a :: b :: c :: d :: post) pre.length = num a b c d := by
  simp only [numAt, byteAt]
  rw [List.getElem?_append_right (Nat.le_refl _), List.getElem?_append_right (by omega), List.getElem?_append_right (by omega), List.getElem?_append_right (by omega)]
  have e1 : pre.length - pre.length = 0 := by omega
  have e2 : pre.length + 1 - pre.length = 1 := by omega
  have e3 : pre.length + 2 - pre.length = 2 := by omega
  have e4 : pre.length + 3 - pre.length = 3 := by omega
  rw [e1, e2, e3, e4]; rfl
theorem numAt_be (k : UInt32) (pre post : List UInt8) (n : Nat) (hn : n = pre.length) : numAt (pre ++ (be k ++ post)) n = k := by
  subst hn
  exact (numAt_of _ _ _ _ pre post).trans (num_be k)
theorem recOf_bytes (r : Rec) (rest : List UInt8) : recOf (r.bytes ++ rest) = r.norm := by
  have e : r.bytes ++ rest = [if r.own then 1 else 2] ++ (be (if r.own then 0 else r.addr) ++ (be r.seq ++ (be (sumOf r.head) ++ rest))) := by
    simp [Rec.bytes, Rec.head]
  have e2 : r.bytes ++ rest = ([if r.own then 1 else 2] ++ be (if r.own then 0 else r.addr)) ++ (be r.seq ++ (be (sumOf r.head) ++ rest)) := by
    rw [e]; simp
  have h1 : numAt (r.bytes ++ rest) 1 = (if r.own then 0 else r.addr) := by rw [e]; exact numAt_be _ _ _ _ rfl
  have h2 : numAt (r.bytes ++ rest) 5 = r.seq := by rw [e2]; exact numAt_be _ _ _ _ rfl
  have h0 : (((byteAt (r.bytes ++ rest) 0).toNat : Int) == 1) = r.own := by
    rw [e]; cases hr : r.own <;> simp [byteAt]
  unfold recOf
  rw [h0, h1, h2]; rfl
theorem readN_rec (n : Nat) (r : Rec) (rest : List UInt8) (hn : 0 < n) : readN n (r.bytes ++ rest) = r.norm :: readN (n - 1) rest := by
  have hl := r.bytes_length
  rw [readN_yes n _ (by simp; omega) hn (by rw [recOf_bytes, norm_bytes, ← hl, List.take_left]), recOf_bytes]
  congr 2
def recBytes (l : List Rec) : List UInt8 := l.flatMap Rec.bytes
theorem recBytes_length (l : List Rec) : (recBytes l).length = 13 * l.length := by
  induction l with
  | nil => rfl
  | cons r l ih => simp [recBytes, Rec.bytes_length] at ih ⊢; omega
theorem recBytes_append (a b : List Rec) : recBytes (a ++ b) = recBytes a ++ recBytes b := by simp [recBytes]
theorem recBytes_take_succ (l : List Rec) (k : Nat) (r : Rec) (h : l[k]? = some r) : recBytes (l.take (k + 1)) = recBytes (l.take k) ++ r.bytes := by
  rw [List.take_add_one, h, recBytes_append]; simp [recBytes]
theorem readN_recs (l : List Rec) (rest : List UInt8) (n : Nat) (hn : l.length ≤ n) : readN n (recBytes l ++ rest) = l.map Rec.norm ++ readN (n - l.length) rest := by
  induction l generalizing n with
  | nil => simp [recBytes]
  | cons r l ih =>
    have e : recBytes (r :: l) ++ rest = r.bytes ++ (recBytes l ++ rest) := by simp [recBytes]
    simp only [List.length_cons] at hn
    rw [e, readN_rec n r _ (by omega), ih (n - 1) (by omega)]
    simp only [List.map_cons, List.cons_append, List.length_cons]
    congr 3; omega
theorem readJ_recs (l : List Rec) (rest : List UInt8) : readJ (recBytes l ++ rest) = l.map Rec.norm ++ readJ rest := by
  have hl := recBytes_length l
  unfold readJ
  rw [readN_recs l rest _ (by simp [hl]; omega)]
  congr 2
  simp [hl]; omega
/-- A record with one byte turned is none. -/
theorem turned_no (r : Rec) (i : Nat) (b : UInt8) (rest : List UInt8) (hi : i < 13) (hb : r.bytes[i]? ≠ some b) : readJ (r.bytes.set i b ++ rest) = [] := by
  unfold readJ
  apply readN_not
  intro h
  have hl := r.bytes_length
  have hset : (r.bytes.set i b).length = 13 := by simp [hl]
  have h1 : (r.bytes.set i b ++ rest).take 13 = r.bytes.set i b := by rw [← hset, List.take_left]
  rw [h1] at h
  generalize recOf (r.bytes.set i b ++ rest) = q at h
  have hlq := q.head_length
  have hlr := r.head_length
  by_cases h9 : i < 9
  · have e1 : r.bytes.set i b = r.head.set i b ++ be (sumOf r.head) := by
      rw [Rec.bytes, List.set_append_left _ _ (by rw [hlr]; exact h9)]
    rw [e1, Rec.bytes] at h
    obtain ⟨h2, h3⟩ := List.append_inj h (by simp [hlq, hlr])
    rw [h2] at h3
    have hbe : ∀ x y : UInt32, be x = be y → x = y := by
      intro x y hxy
      have := num_be x
      simp only [be, List.cons.injEq, and_true] at hxy
      rw [hxy.1, hxy.2.1, hxy.2.2.1, hxy.2.2.2, num_be] at this
      exact this.symm
    refine sumOf_set r.head i (by rw [hlr]; exact h9) b ?_ (hbe _ _ h3)
    intro e
    apply hb
    rw [Rec.bytes, List.getElem?_append_left (by rw [hlr]; exact h9), e]
    exact List.getElem?_eq_getElem _
  · have e1 : r.bytes.set i b = r.head ++ (be (sumOf r.head)).set (i - 9) b := by
      rw [Rec.bytes, List.set_append_right _ _ (by rw [hlr]; omega), hlr]
    rw [e1, Rec.bytes] at h
    obtain ⟨h2, h3⟩ := List.append_inj h (by simp [hlq, hlr])
    rw [h2] at h3
    apply hb
    rw [Rec.bytes, List.getElem?_append_right (by rw [hlr]; omega), hlr, h3]
    rw [List.getElem?_set_self (by simp [be_length]; omega)]
theorem cut_no (r : Rec) (i : Nat) (hi : i < 13) : readJ (r.bytes.take i) = [] := by
  unfold readJ
  exact readN_short _ _ (by simp; omega)
/-- The journal of the records l, cut or turned at place k. -/
theorem torn_set (l : List Rec) (k : Nat) (b : UInt8) (hk : k < (recBytes l).length) (hb : (recBytes l)[k]? ≠ some b) : readJ ((recBytes l).set k b) = (l.take (k / 13)).map Rec.norm := by
  have hl := recBytes_length l
  have hq : k / 13 < l.length := by omega
  have hs : l = l.take (k / 13) ++ (l[k / 13] :: l.drop (k / 13 + 1)) := by simp
  have hlt := recBytes_length (l.take (k / 13))
  have hltk : (l.take (k / 13)).length = k / 13 := by simp; omega
  have e : recBytes l = recBytes (l.take (k / 13)) ++ (l[k / 13].bytes ++ recBytes (l.drop (k / 13 + 1))) := by
    have := congrArg recBytes hs
    rwa [recBytes_append] at this
  rw [hltk] at hlt
  have hmod : k - 13 * (k / 13) = k % 13 := by omega
  have hlen := l[k / 13].bytes_length
  rw [e, List.set_append_right _ _ (by omega), hlt, hmod, List.set_append_left _ _ (by omega), readJ_recs]
  rw [turned_no _ _ _ _ (by omega), List.append_nil]
  rw [e, List.getElem?_append_right (by omega), hlt, hmod, List.getElem?_append_left (by omega)] at hb
  exact hb
theorem torn_set_length (l : List Rec) (k : Nat) (b : UInt8) (hk : k < (recBytes l).length) (hb : (recBytes l)[k]? ≠ some b) : (readJ ((recBytes l).set k b)).length = k / 13 := by
  have := recBytes_length l
  rw [torn_set l k b hk hb]; simp; omega
theorem torn_take (l : List Rec) (k : Nat) (hk : k < (recBytes l).length) : readJ ((recBytes l).take k) = (l.take (k / 13)).map Rec.norm := by
  have hl := recBytes_length l
  have hq : k / 13 < l.length := by omega
  have hs : l = l.take (k / 13) ++ (l[k / 13] :: l.drop (k / 13 + 1)) := by simp
  have hlt := recBytes_length (l.take (k / 13))
  have hltk : (l.take (k / 13)).length = k / 13 := by simp; omega
  have e : recBytes l = recBytes (l.take (k / 13)) ++ (l[k / 13].bytes ++ recBytes (l.drop (k / 13 + 1))) := by
    have := congrArg recBytes hs
    rwa [recBytes_append] at this
  rw [hltk] at hlt
  have hmod : k - 13 * (k / 13) = k % 13 := by omega
  have hlen := l[k / 13].bytes_length
  rw [e, List.take_append, hlt, hmod, List.take_of_length_le (by omega), readJ_recs, List.take_append_of_le_length (by omega), cut_no _ _ (by omega), List.append_nil]
theorem torn_take_length (l : List Rec) (k : Nat) (hk : k < (recBytes l).length) : (readJ ((recBytes l).take k)).length = k / 13 := by
  have := recBytes_length l
  rw [torn_take l k hk]; simp; omega
theorem torn_whole (l : List Rec) : readJ (recBytes l) = l.map Rec.norm := by
  have := readJ_recs l []
  simpa [readJ, readN] using this
end Go.Proofs.Ytapoehkdnglahaa
