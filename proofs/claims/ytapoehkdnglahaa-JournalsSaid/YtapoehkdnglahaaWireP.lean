/- What package wire reckons, in plain Lean: bytes of numbers, frames, records, sums. No program in sight. -/
import GoSem.Core.Value
import Derived.WalkKit
namespace Go.Proofs.Ytapoehkdnglahaa
/-- A byte as a value. -/
def u8 (b : UInt8) : Value := .int .u8 (b.toNat : Int)
def u8s (l : List UInt8) : List Value := l.map u8
def u32 (k : UInt32) : Value := .int .u32 (k.toNat : Int)
def u64 (k : UInt64) : Value := .int .u64 (k.toNat : Int)
theorem u8s_append (a b : List UInt8) : u8s (a ++ b) = u8s a ++ u8s b := by simp [u8s]
theorem u8s_length (a : List UInt8) : (u8s a).length = a.length := by simp [u8s]
theorem u8s_set (a : List UInt8) (i : Nat) (b : UInt8) : (u8s a).set i (u8 b) = u8s (a.set i b) := by simp [u8s, List.map_set]
theorem u8s_one (a : List UInt8) : ∀ u ∈ u8s a, u.oneCell' = true := by
  intro u hu
  obtain ⟨b, _, rfl⟩ := List.mem_map.1 hu
  rfl

/-- A number's four bytes, the highest first. -/
def be (k : UInt32) : List UInt8 := [UInt8.ofNat (k.toNat / 16777216), UInt8.ofNat (k.toNat / 65536 % 256), UInt8.ofNat (k.toNat / 256 % 256), UInt8.ofNat (k.toNat % 256)]
theorem be_length (k : UInt32) : (be k).length = 4 := rfl
theorem be_u8s (k : UInt32) : u8s (be k) = [.int .u8 ((k.toNat : Int) / 16777216), .int .u8 ((k.toNat : Int) / 65536 % 256), .int .u8 ((k.toNat : Int) / 256 % 256), .int .u8 ((k.toNat : Int) % 256)] := by
  have hk := k.toNat_lt
  simp only [u8s, be, u8, List.map_cons, List.map_nil]
  congr 2
  · simp [UInt8.toNat_ofNat']; omega
  congr 2
  · simp [UInt8.toNat_ofNat']
  congr 2
  · simp [UInt8.toNat_ofNat']
  · simp [UInt8.toNat_ofNat']
/-- The number of four bytes. -/
def num (a b c d : UInt8) : UInt32 := UInt32.ofNat (a.toNat * 16777216 + b.toNat * 65536 + c.toNat * 256 + d.toNat)
theorem num_toNat (a b c d : UInt8) : (num a b c d).toNat = a.toNat * 16777216 + b.toNat * 65536 + c.toNat * 256 + d.toNat := by
  have h1 := a.toNat_lt; have h2 := b.toNat_lt; have h3 := c.toNat_lt; have h4 := d.toNat_lt
  simp only [num, UInt32.toNat_ofNat']
  omega
theorem num_be (k : UInt32) : num (UInt8.ofNat (k.toNat / 16777216)) (UInt8.ofNat (k.toNat / 65536 % 256)) (UInt8.ofNat (k.toNat / 256 % 256)) (UInt8.ofNat (k.toNat % 256)) = k := by
  have hk := k.toNat_lt
  apply UInt32.toNat_inj.1
  rw [num_toNat]
  simp only [UInt8.toNat_ofNat']
  omega
theorem be_num (a b c d : UInt8) : be (num a b c d) = [a, b, c, d] := by
  have h1 := a.toNat_lt; have h2 := b.toNat_lt; have h3 := c.toNat_lt; have h4 := d.toNat_lt
  simp only [be, num_toNat]
  congr 1
  · apply UInt8.toNat_inj.1; simp only [UInt8.toNat_ofNat']; omega
  congr 1
  · apply UInt8.toNat_inj.1; simp only [UInt8.toNat_ofNat']; omega
  congr 1
  · apply UInt8.toNat_inj.1; simp only [UInt8.toNat_ofNat']; omega
  congr 1
  · apply UInt8.toNat_inj.1; simp only [UInt8.toNat_ofNat']; omega
/-! ### The sum of a record. -/
theorem bits_xor_u32 (a b : UInt32) : bits .xor .u32 (a.toNat : Int) (b.toNat : Int) = ((a ^^^ b).toNat : Int) := by
  show IntKind.u32.wrap ((BitVec.ofInt 32 (a.toNat : Int) ^^^ BitVec.ofInt 32 (b.toNat : Int)).toNat : Int) = _
  have e1 : BitVec.ofInt 32 (a.toNat : Int) = a.toBitVec := by rw [BitVec.ofInt_natCast]; simp
  have e2 : BitVec.ofInt 32 (b.toNat : Int) = b.toBitVec := by rw [BitVec.ofInt_natCast]; simp
  rw [e1, e2]
  have h3 : (a.toBitVec ^^^ b.toBitVec).toNat = (a ^^^ b).toNat := rfl
  rw [h3, IntKind.wrap_u32]
  have := (a ^^^ b).toNat_lt
  omega
theorem bits_xor_u8 (a b : UInt8) : bits .xor .u8 (a.toNat : Int) (b.toNat : Int) = ((a ^^^ b).toNat : Int) := by
  show IntKind.u8.wrap ((BitVec.ofInt 8 (a.toNat : Int) ^^^ BitVec.ofInt 8 (b.toNat : Int)).toNat : Int) = _
  have e1 : BitVec.ofInt 8 (a.toNat : Int) = a.toBitVec := by rw [BitVec.ofInt_natCast]; simp
  have e2 : BitVec.ofInt 8 (b.toNat : Int) = b.toBitVec := by rw [BitVec.ofInt_natCast]; simp
  rw [e1, e2]
  have h3 : (a.toBitVec ^^^ b.toBitVec).toNat = (a ^^^ b).toNat := rfl
  rw [h3, IntKind.wrap_u8]
  have := (a ^^^ b).toNat_lt
  omega
theorem bits_and_one_u32 (a : UInt32) : bits .and .u32 (a.toNat : Int) 1 = ((a.toNat % 2 : Nat) : Int) := by
  have h := a.toNat_lt
  show IntKind.u32.wrap ((BitVec.ofInt 32 (a.toNat : Int) &&& BitVec.ofInt 32 1).toNat : Int) = _
  have e1 : BitVec.ofInt 32 (a.toNat : Int) = a.toBitVec := by rw [BitVec.ofInt_natCast]; simp
  rw [e1, BitVec.toNat_and, IntKind.wrap_u32]
  have : (BitVec.ofInt 32 1).toNat = 1 := by decide
  rw [this, show a.toBitVec.toNat = a.toNat from rfl, Nat.and_one_is_mod]
  omega
theorem bits_or_nat (a b : Nat) (ha : a < 4294967296) (hb : b < 4294967296) : bits .or .u32 (a : Int) (b : Int) = ((a ||| b : Nat) : Int) := by
  show IntKind.u32.wrap ((BitVec.ofInt 32 (a : Int) ||| BitVec.ofInt 32 (b : Int)).toNat : Int) = _
  rw [BitVec.ofInt_natCast, BitVec.ofInt_natCast, BitVec.toNat_or, BitVec.toNat_ofNat, BitVec.toNat_ofNat, Nat.mod_eq_of_lt ha, Nat.mod_eq_of_lt hb, IntKind.wrap_u32]
  have := Nat.or_lt_two_pow (n := 32) ha hb
  omega
theorem or_add (i x y : Nat) (h : y < 2 ^ i) : (x * 2 ^ i) ||| y = x * 2 ^ i + y := by
  rw [Nat.mul_comm]; exact (Nat.two_pow_add_eq_or_of_lt h x).symm
theorem num_bits (a b c d : UInt8) : bits .or .u32 (bits .or .u32 (bits .or .u32 ((a.toNat : Int) * 16777216) ((b.toNat : Int) * 65536)) ((c.toNat : Int) * 256)) (d.toNat : Int) = ((num a b c d).toNat : Int) := by
  have h1 := a.toNat_lt; have h2 := b.toNat_lt; have h3 := c.toNat_lt; have h4 := d.toNat_lt
  have e1 : ((a.toNat : Int) * 16777216) = ((a.toNat * 16777216 : Nat) : Int) := by omega
  have e2 : ((b.toNat : Int) * 65536) = ((b.toNat * 65536 : Nat) : Int) := by omega
  have e3 : ((c.toNat : Int) * 256) = ((c.toNat * 256 : Nat) : Int) := by omega
  have o1 := or_add 24 a.toNat (b.toNat * 65536) (by omega)
  have o2 := or_add 16 (a.toNat * 256 + b.toNat) (c.toNat * 256) (by omega)
  have o3 := or_add 8 (a.toNat * 65536 + b.toNat * 256 + c.toNat) d.toNat (by omega)
  have f1 : a.toNat * 16777216 ||| b.toNat * 65536 = (a.toNat * 256 + b.toNat) * 2 ^ 16 := by simpa using (by rw [show a.toNat * 16777216 = a.toNat * 2 ^ 24 by omega, o1]; omega : a.toNat * 16777216 ||| b.toNat * 65536 = (a.toNat * 256 + b.toNat) * 2 ^ 16)
  have f2 : (a.toNat * 256 + b.toNat) * 2 ^ 16 ||| c.toNat * 256 = (a.toNat * 65536 + b.toNat * 256 + c.toNat) * 2 ^ 8 := by rw [o2]; omega
  rw [e1, e2, e3, bits_or_nat _ _ (by omega) (by omega), f1, bits_or_nat _ _ (by omega) (by omega), f2, bits_or_nat _ _ (by omega) (by omega), o3, num_toNat]
  omega
/-- One bit falls out. -/
def fall (c : UInt32) : UInt32 := if c.toNat % 2 = 1 then UInt32.ofNat (c.toNat / 2) ^^^ 3988292384 else UInt32.ofNat (c.toNat / 2)
def falls : Nat → UInt32 → UInt32
  | 0, c => c
  | n + 1, c => fall (falls n c)
def sumOn (c : UInt32) (l : List UInt8) : UInt32 := l.foldl (fun c b => falls 8 (c ^^^ UInt32.ofNat b.toNat)) c
def sumOf (l : List UInt8) : UInt32 := 4294967295 ^^^ sumOn 4294967295 l
theorem half_toNat (c : UInt32) : (UInt32.ofNat (c.toNat / 2)).toNat = c.toNat / 2 := by
  have := c.toNat_lt
  rw [UInt32.toNat_ofNat']; omega
theorem byte_toNat (b : UInt8) : (UInt32.ofNat b.toNat).toNat = b.toNat := by
  have := b.toNat_lt
  rw [UInt32.toNat_ofNat']; omega
theorem sumOf_bits (l : List UInt8) : bits .xor .u32 IntKind.u32.max ((sumOn 4294967295 l).toNat : Int) = ((sumOf l).toNat : Int) := bits_xor_u32 4294967295 _
theorem fall_bits_odd (x : UInt32) (h : x.toNat % 2 = 1) : bits .xor .u32 ((x.toNat : Int) / 2) 3988292384 = ((fall x).toNat : Int) := by
  have h2 := bits_xor_u32 (UInt32.ofNat (x.toNat / 2)) 3988292384
  rw [half_toNat] at h2
  rw [fall, if_pos h, ← h2]; rfl
theorem fall_even (x : UInt32) (h : ¬ x.toNat % 2 = 1) : (x.toNat : Int) / 2 = ((fall x).toNat : Int) := by
  rw [fall, if_neg h, half_toNat]; rfl
theorem sumOn_snoc (c : UInt32) (l : List UInt8) (b : UInt8) : sumOn c (l ++ [b]) = falls 8 (sumOn c l ^^^ UInt32.ofNat b.toNat) := by simp [sumOn]
/-! ### Records -/
structure Rec where
  own : Bool
  addr : UInt32
  seq : UInt32
def Rec.cells (r : Rec) : List Value := [.bool r.own, u32 r.addr, u32 r.seq]
def Rec.val (r : Rec) : Value := .agg #[.bool r.own, u32 r.addr, u32 r.seq]
/-- The nine bytes ahead of the sum. -/
def Rec.head (r : Rec) : List UInt8 := (if r.own then 1 else 2) :: (be (if r.own then 0 else r.addr) ++ be r.seq)
def Rec.bytes (r : Rec) : List UInt8 := r.head ++ be (sumOf r.head)
theorem Rec.head_length (r : Rec) : r.head.length = 9 := rfl
theorem Rec.bytes_length (r : Rec) : r.bytes.length = 13 := rfl
def recs (l : List Rec) : List Value := l.flatMap Rec.cells
theorem recs_length (l : List Rec) : (recs l).length = l.length * 3 := by
  induction l with
  | nil => rfl
  | cons r l ih => simp [recs, Rec.cells] at ih ⊢; omega
theorem recs_append (a b : List Rec) : recs (a ++ b) = recs a ++ recs b := by simp [recs]
theorem recs_get (l : List Rec) (k : Nat) (r : Rec) (h : l[k]? = some r) : (recs l)[k * 3]? = some (.bool r.own) ∧ (recs l)[k * 3 + 1]? = some (.int .u32 (r.addr.toNat : Int)) ∧ (recs l)[k * 3 + 2]? = some (.int .u32 (r.seq.toNat : Int)) := by
  induction l generalizing k with
  | nil => simp at h
  | cons x l ih =>
    cases k with
    | zero => simp at h; subst h; simp [recs, Rec.cells, u32]
    | succ k =>
      have := ih k (by simpa using h)
      have e1 : (k + 1) * 3 = k * 3 + 1 + 1 + 1 := by omega
      simp only [recs, List.flatMap_cons, Rec.cells, List.cons_append, List.nil_append] at this ⊢
      rw [e1]
      exact this
theorem recs_one (l : List Rec) : ∀ u ∈ recs l, u.oneCell' = true := by
  intro u hu
  obtain ⟨r, _, hr⟩ := List.mem_flatMap.1 hu
  simp [Rec.cells, u32] at hr
  rcases hr with rfl | rfl | rfl <;> rfl
def byteAt (y : List UInt8) (i : Nat) : UInt8 := y[i]?.getD 0
def numAt (y : List UInt8) (i : Nat) : UInt32 := num (byteAt y i) (byteAt y (i + 1)) (byteAt y (i + 2)) (byteAt y (i + 3))
/-- The record that thirteen bytes would be. -/
def recOf (l : List UInt8) : Rec := ⟨((byteAt l 0).toNat : Int) == 1, numAt l 1, numAt l 5⟩
/-- The records ahead of the first place where none stands, at most n. -/
def readN : Nat → List UInt8 → List Rec
  | 0, _ => []
  | n + 1, l => if 13 ≤ l.length ∧ (recOf l).bytes = l.take 13 then recOf l :: readN n (l.drop 13) else []
def readJ (l : List UInt8) : List Rec := readN (l.length / 13) l
theorem readN_short (n : Nat) (l : List UInt8) (h : l.length < 13) : readN n l = [] := by
  cases n with
  | zero => rfl
  | succ n => rw [readN, if_neg (by omega)]
theorem readN_not (n : Nat) (l : List UInt8) (h : ¬ (recOf l).bytes = l.take 13) : readN n l = [] := by
  cases n with
  | zero => rfl
  | succ n => rw [readN, if_neg (fun hh => h hh.2)]
theorem readN_yes (n : Nat) (l : List UInt8) (h0 : 13 ≤ l.length) (hn : 0 < n) (h : (recOf l).bytes = l.take 13) : readN n l = recOf l :: readN (n - 1) (l.drop 13) := by
  cases n with
  | zero => omega
  | succ n => rw [readN, if_pos ⟨h0, h⟩]; rfl
theorem readJ_step (xs : List UInt8) (js : List Rec) (k : Nat) (y : List UInt8) (hj : readJ xs = js ++ readN (xs.length / 13 - k) (xs.drop (13 * k))) (hy : y = xs.drop (13 * k)) (hlt : 13 ≤ xs.length - 13 * k) (hx : (recOf y).bytes = y.take 13) :
    readJ xs = (js ++ [recOf y]) ++ readN (xs.length / 13 - (k + 1)) (xs.drop (13 * (k + 1))) := by
  have hyl : y.length = xs.length - 13 * k := by rw [hy]; simp
  rw [hj, ← hy, readN_yes (xs.length / 13 - k) y (by omega) (by omega) hx, List.append_assoc]
  have e : y.drop 13 = xs.drop (13 * (k + 1)) := by rw [hy, List.drop_drop]; congr 1
  rw [e]; rfl
theorem readN_length (n : Nat) (l : List UInt8) : (readN n l).length ≤ n := by
  induction n generalizing l with
  | zero => simp [readN]
  | succ n ih =>
    rw [readN]
    split
    · have := ih (l.drop 13); simp; omega
    · simp
theorem readJ_length (l : List UInt8) : 13 * (readJ l).length ≤ l.length := by
  have := readN_length (l.length / 13) l
  simp only [readJ]; omega
end Go.Proofs.Ytapoehkdnglahaa
