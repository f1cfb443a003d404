/- What wire.Record and slices.Equal return, by walks. -/
import Derived.Test.YtapoehkdnglahaaWireW0
namespace Go.Proofs.Ytapoehkdnglahaa
open Go.RowKit
set_option linter.unusedVariables false
theorem record_any (r : Rec) (w0 w : World) (F : HProp) (h : Sat w0 w F) :
    Calls Try.prog 55 #[r.val] w fun e w' => ∃ v', e = .returned v' ∧ Sat w0 w' (slc 5 1 v' 13 (u8s r.bytes) * F) := by
  obtain ⟨own, addr, seq⟩ := r
  have ha := addr.toNat_lt
  have hs := seq.toNat_lt
  have H := Lib.hid h; clear h
  unfold Rec.val u32
  cases own
  · go_enter Try.func55, Try.ntmps55
    go_wp2_with fail
    have h0 := (((H.out.new 28 #[.bool false, .int .u32 (addr.toNat : Int), .int .u32 (seq.toNat : Int)]).new 5 #[.int .u8 2]).slc_new (xs := u8s [2]) 1 1 rfl rfl (by simp [maxLen]))
    simp only [World.size_alloc] at h0
    refine (four_any _ 1 [2] addr w0 _ _ h0 (by omega)).mono ?_
    rintro e w1 ⟨v1, rfl, h1⟩
    have hc := (h1.cast (star_left_comm _ _ _)).cell 2
    simp at hc
    go_wp2_with fail
    refine (four_any _ _ _ seq w0 _ _ h1 (by omega)).mono ?_
    rintro e w2 ⟨v2, rfl, h2⟩
    clear hc h1
    go_wp2_with fail
    refine (sum_own _ _ _ w0 _ _ h2 (by simp) (by omega)).mono ?_
    rintro e w3 ⟨rfl, rfl⟩
    go_wp2_with fail
    refine (four_any _ _ _ (sumOf (2 :: (be addr ++ be seq))) w0 _ _ h2 (by omega)).mono ?_
    rintro e w3 ⟨v3, rfl, h3⟩
    clear h2
    go_wp2_with fail
    go_ret
    exact ⟨v3, rfl, (h3.cast (star_left_comm _ _ _)).drop⟩
  · go_enter Try.func55, Try.ntmps55
    go_wp2_with fail
    have h0 := (((H.out.new 28 #[.bool true, .int .u32 (0), .int .u32 (seq.toNat : Int)]).new 5 #[.int .u8 1]).slc_new (xs := u8s [1]) 1 1 rfl rfl (by simp [maxLen]))
    simp only [World.size_alloc] at h0
    refine (four_any _ 1 [1] 0 w0 _ _ h0 (by omega)).mono ?_
    rintro e w1 ⟨v1, rfl, h1⟩
    have hc := (h1.cast (star_left_comm _ _ _)).cell 2
    simp at hc
    go_wp2_with fail
    refine (four_any _ _ _ seq w0 _ _ h1 (by omega)).mono ?_
    rintro e w2 ⟨v2, rfl, h2⟩
    clear hc h1
    go_wp2_with fail
    refine (sum_own _ _ _ w0 _ _ h2 (by simp) (by omega)).mono ?_
    rintro e w3 ⟨rfl, rfl⟩
    go_wp2_with fail
    refine (four_any _ _ _ (sumOf (1 :: (be 0 ++ be seq))) w0 _ _ h2 (by omega)).mono ?_
    rintro e w3 ⟨v3, rfl, h3⟩
    clear h2
    go_wp2_with fail
    go_ret
    exact ⟨v3, rfl, (h3.cast (star_left_comm _ _ _)).drop⟩
theorem equal_any (xs ys : List UInt8) (w : World) (g1 o1 c1 g2 o2 c2 : Nat) (hl : xs.length = ys.length) (h1 : ∀ j u, (u8s xs)[j]? = some u → w.cell? ⟨g1, o1 + j, none⟩ = some u) (h2 : ∀ j u, (u8s ys)[j]? = some u → w.cell? ⟨g2, o2 + j, none⟩ = some u) (hn : xs.length ≤ 1000000) :
    Calls Try.prog 91 #[.slice (some ⟨g1, o1, none⟩) xs.length c1, .slice (some ⟨g2, o2, none⟩) xs.length c2] w fun e w' => e = .returned (.bool (decide (xs = ys))) ∧ ∃ k, w' = w.drewN k := by
  have HL := Lib.hid hl; have H1 := Lib.hid h1; have H2 := Lib.hid h2; clear hl h1 h2
  go_enter Try.func91, Try.ntmps91
  go_wp2_with fail
  go_loopw [13] (fun i wr => ∃ k q : Nat, k ≤ xs.length ∧ i = .int .i64 k ∧ xs.take k = ys.take k ∧ wr = w.drewN q) (fun i _ => xs.length - (intOf i).toNat)
  case atStart => exact ⟨0, 0, by omega, rfl, by simp, rfl⟩
  case round =>
    obtain ⟨k, q, hk, rfl, ht, rfl⟩ := hrel
    have HT := Lib.hid ht; clear ht
    by_cases hlt : k < xs.length
    · have hlt2 : k < ys.length := by rw [← HL.out]; exact hlt
      have e1 := H1.out k (u8 xs[k]) (by simp [u8s, hlt])
      have e2 := H2.out k (u8 ys[k]) (by simp [u8s, hlt2])
      have HS1 : Hid (xs.take (k + 1) = xs.take k ++ [xs[k]]) := by rw [List.take_append_getElem]; trivial
      have HS2 : Hid (ys.take (k + 1) = ys.take k ++ [ys[k]]) := by rw [List.take_append_getElem]; trivial
      have HX : Hid (xs[k]? = some xs[k]) := by simp [Hid, hlt]
      have HY : Hid (ys[k]? = some ys[k]) := by simp [Hid, hlt2]
      generalize xs[k] = a at *
      generalize ys[k] = b at *
      unfold u8 at e1 e2
      have i1 : (0 : Int) ≤ (k : Int) := by omega
      have i2 : (k : Int) < (xs.length : Int) := by omega
      by_cases hab : a = b
      · subst hab
        go_wp2_with fail
        go_quiet (fail)
        go_wp2_with fail
        go_roundw
        case rel => exact ⟨k + 1, _, by omega, by go_num, by rw [HS1.out, HS2.out, HT.out], rfl⟩
        case measure => simp [intOf]; omega
      · have hne : ((a.toNat : Int) != (b.toNat : Int)) = true := by
          rw [bne_iff_ne]; intro e; exact hab (UInt8.toNat_inj.1 (by omega))
        have HAB := Lib.hid hab; clear hab
        go_wp2_with fail
        go_quiet (fail)
        go_wp2_with fail
        go_ret
        have : xs ≠ ys := by
          rintro rfl
          exact HAB.out (Option.some.inj (HX.out.symm.trans HY.out))
        exact ⟨ret_eq (by simp [this]), _, World.drewN_drewN _ _ _⟩
    · obtain rfl : k = xs.length := by omega
      go_wp2_with fail
      go_ret
      have hxy : xs = ys := by
        have := HT.out
        rwa [List.take_length, HL.out, List.take_length] at this
      exact ⟨ret_eq (by simp [hxy]), _, rfl⟩
end Go.Proofs.Ytapoehkdnglahaa
