/- What the functions of package wire return, each by a walk through its text: the parts that only reckon. -/
import Derived.Test.YtapoehkdnglahaaProg
import Derived.Test.YtapoehkdnglahaaSlc
import Derived.Test.YtapoehkdnglahaaWireP
namespace Go.Proofs.Ytapoehkdnglahaa
open Go.RowKit
set_option linter.unusedVariables false
theorem ret_eq {a b : Value} (h : a = b) : Ending.returned a = Ending.returned b := by rw [h]
theorem int_eq {k : IntKind} {a b : Int} (h : a = b) : Value.int k a = Value.int k b := by rw [h]
theorem turned_any (c : UInt32) (w : World) :
    Calls Try.prog 111 #[.int .u32 (c.toNat : Int)] w fun e w' => e = .returned (.int .u32 ((falls 8 c).toNat : Int)) ∧ w = w' := by
  have hc := c.toNat_lt
  go_enter Try.func111, Try.ntmps111
  go_wp2
  go_loop [0, 4] (fun x i => ∃ k : Nat, k ≤ 8 ∧ i = .int .i64 k ∧ x = .int .u32 ((falls k c).toNat : Int)) (fun _ i => 8 - (intOf i).toNat)
  case atStart => exact ⟨0, by omega, rfl, rfl⟩
  case round =>
    obtain ⟨k, hk, rfl, rfl⟩ := hrel
    by_cases hlt : k < 8
    · have HF : Hid (falls (k + 1) c = fall (falls k c)) := rfl
      generalize falls k c = x at HF ⊢
      have hx := x.toNat_lt
      have h1 := Lib.hid (bits_and_one_u32 x)
      by_cases hb : x.toNat % 2 = 1
      · have ht : (bits .and .u32 (x.toNat : Int) 1 == 1) = true := by rw [h1.out, hb]; rfl
        have hb' := Lib.hid (fall_bits_odd x hb); clear hb
        go_wp2
        go_round
        case rel => exact ⟨k + 1, by omega, by go_num, by rw [HF.out, ← hb'.out]⟩
        case measure => simp [intOf]; omega
      · have ht : (bits .and .u32 (x.toNat : Int) 1 == 1) = false := by rw [h1.out]; simp; omega
        have hb' := Lib.hid (fall_even x hb); clear hb
        go_wp2
        go_round
        case rel => exact ⟨k + 1, by omega, by go_num, by rw [HF.out, ← hb'.out]⟩
        case measure => simp [intOf]; omega
    · obtain rfl : k = 8 := by omega
      have hx := (falls 8 c).toNat_lt
      go_wp2
      go_ret
      exact ⟨rfl, rfl⟩
theorem sum_any (xs : List UInt8) (w : World) (g off cap : Nat) (hc : ∀ j u, (u8s xs)[j]? = some u → w.cell? ⟨g, off + j, none⟩ = some u) (hn : xs.length ≤ 1000000) :
    Calls Try.prog 89 #[.slice (some ⟨g, off, none⟩) xs.length cap] w fun e w' => e = .returned (.int .u32 ((sumOf xs).toNat : Int)) ∧ w = w' := by
  have HS := Lib.hid (sumOf_bits xs)
  go_enter Try.func89, Try.ntmps89
  go_wp2_with fail
  go_loop [3, 8] (fun x i => ∃ k : Nat, k ≤ xs.length ∧ i = .int .i64 k ∧ x = .int .u32 ((sumOn 4294967295 (xs.take k)).toNat : Int)) (fun _ i => xs.length - (intOf i).toNat)
  case atStart => exact ⟨0, by omega, rfl, rfl⟩
  case round =>
    obtain ⟨k, hk, rfl, rfl⟩ := hrel
    by_cases hlt : k < xs.length
    · have hcell := hc k (u8 xs[k]) (by simp [u8s, hlt])
      have HF := Lib.hid (sumOn_snoc 4294967295 (xs.take k) xs[k])
      rw [List.take_append_getElem] at HF
      generalize sumOn 4294967295 (xs.take k) = x at HF ⊢
      generalize xs[k] = b at HF hcell
      unfold u8 at hcell
      have hx := x.toNat_lt
      have hb := b.toNat_lt
      have hxo := bits_xor_u32 x (UInt32.ofNat b.toNat)
      rw [byte_toNat] at hxo
      generalize x ^^^ UInt32.ofNat b.toNat = y at HF hxo
      clear hc HS
      go_wp2_with (go_at_call 111; refine (turned_any _ _).mono ?_; rintro e w' ⟨rfl, rfl⟩)
      go_round
      case rel => exact ⟨k + 1, by omega, by go_num, by rw [HF.out]⟩
      case measure => simp [intOf]; omega
    · obtain rfl : k = xs.length := by omega
      rw [List.take_length]
      generalize sumOn 4294967295 xs = x at HS ⊢
      have hx := x.toNat_lt
      go_wp2_with fail
      go_ret
      exact ⟨ret_eq (int_eq HS.out), rfl⟩
/-- The sum of a slice that the call owns. -/
theorem sum_own (v : Value) (n : Nat) (xs : List UInt8) (w0 w : World) (F : HProp) (h : Sat w0 w (slc 5 1 v n (u8s xs) * F)) (hx : xs ≠ []) (hn : n ≤ 1000000) :
    Calls Try.prog 89 #[v] w fun e w' => e = .returned (.int .u32 ((sumOf xs).toNat : Int)) ∧ w = w' := by
  obtain ⟨hl, _⟩ := h.slc_cases
  obtain ⟨g, off, cap, rfl, _, _, hc⟩ := h.slc_cell (by simpa [u8s] using hx)
  obtain rfl : n = xs.length := by simpa [u8s] using hl.symm
  exact sum_any xs w g off cap (fun j u hu => (hc j u hu).1) hn
theorem sl_u8 : SlT Try.prog 29 5 1 1 := SlT.of (z := .int .u8 0) Try.underlying29 (by kernel_rfl) rfl (by decide)
theorem four_any (v : Value) (n : Nat) (xs : List UInt8) (k : UInt32) (w0 w : World) (F : HProp) (h : Sat w0 w (slc 5 1 v n (u8s xs) * F)) (hn : n + 4 ≤ 1000000) :
    Calls Try.prog 88 #[v, .int .u32 (k.toNat : Int)] w fun e w' => ∃ v', e = .returned v' ∧ Sat w0 w' (slc 5 1 v' (n + 4) (u8s (xs ++ be k)) * F) := by
  have hk := k.toNat_lt
  have H := Lib.hid h; have HB := Lib.hid (be_u8s k); clear h
  go_enter Try.func88, Try.ntmps88
  go_wp2_with (at_builtin; refine wpList_append_sl sl_u8 ((H.out.new _ _).cast (star_left_comm _ _ _)) (Src.new HB.out.symm 1 4 4 (H.out.new _ _) rfl) (u8s_one _) (by simp only [maxLen]; omega) (by omega) _ _ rfl rfl rfl rfl ?_; intro v' w' h')
  go_ret
  exact ⟨v', rfl, (h'.cast (star_left_comm _ _ _)).drop.cast (by rw [u8s_append])⟩
/-- The number of four bytes that lie in memory. -/
theorem number_any (w : World) (g off n cap : Nat) (a b c d : UInt8) (h0 : w.cell? ⟨g, off, none⟩ = some (u8 a)) (h1 : w.cell? ⟨g, off + 1, none⟩ = some (u8 b)) (h2 : w.cell? ⟨g, off + 2, none⟩ = some (u8 c)) (h3 : w.cell? ⟨g, off + 3, none⟩ = some (u8 d)) (hn : 4 ≤ n) :
    Calls Try.prog 90 #[.slice (some ⟨g, off, none⟩) n cap] w fun e w' => e = .returned (.int .u32 ((num a b c d).toNat : Int)) ∧ ∃ k, w' = w.drewN k := by
  unfold u8 at h0 h1 h2 h3
  have ha := a.toNat_lt; have hb := b.toNat_lt; have hc := c.toNat_lt; have hd := d.toNat_lt
  go_enter Try.func90, Try.ntmps90
  have HN := Lib.hid (num_bits a b c d)
  go_wp2_with fail
  go_quiet (fail)
  go_wp2_with fail
  go_ret
  exact ⟨ret_eq (int_eq HN.out), _, rfl⟩
/-- The number at place i of a row of bytes; the world has at most drawn and made blocks since. -/
theorem number_row (W w : World) (g o i n cap : Nat) (y : List UInt8) (len : Nat) (E : ∀ j, j < len → W.cell? ⟨g, o + j, none⟩ = some (u8 (byteAt y j))) (hw : ∀ k, k < W.heap.size → w.heap[k]? = W.heap[k]?) (hi : i + 4 ≤ len) (hn : 4 ≤ n) :
    Calls Try.prog 90 #[.slice (some ⟨g, o + i, none⟩) n cap] w fun e w' => e = .returned (.int .u32 ((numAt y i).toNat : Int)) ∧ ∃ k, w' = w.drewN k := by
  have h0 := E i (by omega); have h1 := E (i + 1) (by omega); have h2 := E (i + 2) (by omega); have h3 := E (i + 3) (by omega)
  have hlt : g < W.heap.size := World.block_lt h0
  have hk : ∀ off : Nat, w.cell? ⟨g, off, none⟩ = W.cell? ⟨g, off, none⟩ := fun off => World.cell?_of_block (hw g hlt)
  exact number_any w g (o + i) n cap _ _ _ _ ((hk _).trans h0) ((hk _).trans (by rw [Nat.add_assoc]; exact h1)) ((hk _).trans (by rw [Nat.add_assoc]; exact h2)) ((hk _).trans (by rw [Nat.add_assoc]; exact h3)) hn
end Go.Proofs.Ytapoehkdnglahaa
