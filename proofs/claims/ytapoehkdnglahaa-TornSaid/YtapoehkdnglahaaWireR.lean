/- What wire.Read returns, by a walk. -/
import Derived.Test.YtapoehkdnglahaaWireW1
import Derived.Deep.RegionHeld3
namespace Go.Proofs.Ytapoehkdnglahaa
open Go.RowKit
set_option linter.unusedVariables false
theorem sl_rec : SlT Try.prog 25 28 3 12 := SlT.of (z := .agg #[.bool false, .int .u32 0, .int .u32 0]) Try.underlying25 (by kernel_rfl) rfl (by decide)
theorem rec_at {w0 w : World} {F : HProp} {g o n c j : Nat} {l : List Rec} {r : Rec} (h : Sat w0 w (slc 28 3 (.slice (some ⟨g, o, none⟩) n c) n (recs l) * F)) (hr : l[j]? = some r) :
    w.cell? ⟨g, o + j * 3, none⟩ = some (.bool r.own) ∧ w.cell? ⟨g, o + j * 3 + 1, none⟩ = some (.int .u32 (r.addr.toNat : Int)) ∧ w.cell? ⟨g, o + j * 3 + 2, none⟩ = some (.int .u32 (r.seq.toNat : Int)) := by
  obtain ⟨q1, q2, q3⟩ := recs_get l j r hr
  have e2 := (h.slc_get _ _ q2).1
  have e3 := (h.slc_get _ _ q3).1
  rw [← Nat.add_assoc] at e2 e3
  exact ⟨(h.slc_get _ _ q1).1, e2, e3⟩
theorem equal_own (v1 : Value) (n : Nat) (xs ys : List UInt8) (w0 w : World) (F : HProp) (h : Sat w0 w (slc 5 1 v1 n (u8s xs) * F)) (g2 o2 c2 : Nat) (hn : 0 < n) (hl : ys.length = n)
    (h2 : ∀ j u, (u8s ys)[j]? = some u → w.cell? ⟨g2, o2 + j, none⟩ = some u) (hm : n ≤ 1000000) :
    Calls Try.prog 91 #[v1, .slice (some ⟨g2, o2, none⟩) n c2] w fun e w' => e = .returned (.bool (decide (xs = ys))) ∧ ∃ k, w' = w.drewN k := by
  obtain ⟨hxl, _⟩ := h.slc_cases
  obtain rfl : n = xs.length := by simpa [u8s] using hxl.symm
  obtain ⟨g, off, cap, rfl, _, _, hc⟩ := h.slc_cell (by intro e; simp [u8s] at e; subst e; simp at hn)
  exact equal_any xs ys w g off cap g2 o2 c2 hl.symm (fun j u hu => (hc j u hu).1) h2 hm
set_option maxRecDepth 100000 in
set_option maxHeartbeats 4000000 in
theorem read_any (A : Option Addr) (xs : List UInt8) (cap g off : Nat) (w0 w : World) (F : HProp) (hA : xs ≠ [] → A = some ⟨g, off, none⟩)
    (hR : ∀ w', Sat w0 w' F → ∀ j u, (u8s xs)[j]? = some u → w'.cell? ⟨g, off + j, none⟩ = some u) (hcap : xs.length ≤ cap) (hcap2 : cap ≤ maxLen) (hn : xs.length ≤ 1000000) (h : Sat w0 w F) :
    Calls Try.prog 56 #[.slice A xs.length cap] w fun e w' => ∃ v', e = .returned (.tuple #[v', .int .i64 (13 * ((readJ xs).length : Int))]) ∧ Sat w0 w' (slc 28 3 v' (readJ xs).length (recs (readJ xs)) * F) := by
  have HA := Lib.hid hA; have HR := Lib.hid hR; have H := Lib.hid h; clear hA hR h
  unfold maxLen at hcap2
  go_enter Try.func56, Try.ntmps56
  go_wp2_with fail
  go_loopw [4, 5] (fun l rest wr => ∃ (k : Nat) (A' : Option Addr), 13 * k ≤ xs.length ∧ rest = .slice A' (xs.length - 13 * k) (cap - 13 * k) ∧ (13 * k < xs.length → A' = some ⟨g, off + 13 * k, none⟩) ∧
      (∃ js : List Rec, js.length = k ∧ readJ xs = js ++ readN (xs.length / 13 - k) (xs.drop (13 * k)) ∧ Sat w0 wr (slc 28 3 l k (recs js) * F)))
    (fun _ rest _ => sliceLen rest)
  case atStart => exact ⟨0, A, by omega, rfl, fun hp => HA.out (by rintro rfl; simp at hp), [], rfl, by simp [readJ], H.out.slc_nil _ _ _⟩
  case round =>
    obtain ⟨k, A', hk, rfl, hA', js, hjs, hj, hS⟩ := hrel
    obtain ⟨A4, c4, rfl⟩ := hS.slc_form
    have HS := Lib.hid hS; have HJ := Lib.hid hj; have HL := Lib.hid hjs; have HA' := Lib.hid hA'; clear hS hj hjs hA'
    by_cases hlt : 13 ≤ xs.length - 13 * k
    · obtain rfl := HA'.out (by omega)
      obtain ⟨y, hy⟩ : ∃ y, y = xs.drop (13 * k) := ⟨_, rfl⟩
      have HY := Lib.hid hy
      have hyl : y.length = xs.length - 13 * k := by rw [hy]; simp
      have E : Hid (∀ j, j < 13 → wr.cell? ⟨g, off + 13 * k + j, none⟩ = some (u8 (byteAt y j))) := by
        intro j hj
        have h1 := HR.out wr HS.out.drop (13 * k + j) (u8 (byteAt y j)) (by
          subst hy
          simp [u8s, byteAt, List.getElem?_drop, List.getElem?_eq_getElem (show 13 * k + j < xs.length by omega)])
        rw [← h1, Nat.add_assoc]
      have HYL := Lib.hid hyl
      clear hy hyl
      have e0 := E.out 0 (by omega)
      unfold u8 at e0
      simp only [Nat.add_zero] at e0
      have hne := World.new_ne wr _ e0
      have c1 : ¬ (cap - 13 * k = 1) := by omega
      have c5 : ¬ (cap - 13 * k = 5) := by omega
      go_wp2_with fail
      go_region_held3 (fun w' => w'.cell? ⟨g, off + 13 * k, none⟩ = some (.int .u8 ((byteAt y 0).toNat : Int))) (go_keep)
        (first | (go_at_call 90; refine (number_row wr _ g (off + 13 * k) _ _ _ y 13 E.out (by intro q hq; first | rfl | exact Below.heap_alloc wr _ q hq) (by omega) (by omega)).mono ?_; rintro e w' ⟨rfl, kk, rfl⟩))
      all_goals
        go_wp2_with fail
        have HW := (HS.out.new 28 #[.bool (((byteAt y 0).toNat : Int) == 1), .int .u32 ((numAt y 1).toNat : Int), .int .u32 ((numAt y 5).toNat : Int)])
        refine (record_any (recOf y) w0 _ _ (HW.drewN _)).mono ?_
        rintro e w1 ⟨v1, rfl, h1⟩
        clear HW
        have h2 := h1.cast (star_left_comm _ _ _)
        have hc0 := h2.cell 0; have hc1 := h2.cell 1; have hc2 := h2.cell 2
        simp at hc0 hc1 hc2
        have HH := Lib.hid h2; clear h2
        have hys : ∀ j u, (u8s (y.take 13))[j]? = some u → w1.cell? ⟨g, off + 13 * k + j, none⟩ = some u := by
          intro j u hu
          have hj : j < 13 := by
            have := (List.getElem?_eq_some_iff.1 hu).1
            simp [u8s] at this; omega
          have := HR.out w1 h1.drop.drop.drop (13 * k + j) u (by
            rw [HY.out] at hu
            simpa [u8s, List.getElem?_take, hj, List.getElem?_drop] using hu)
          rwa [← Nat.add_assoc] at this
        have HYS := Lib.hid hys; clear hys
        by_cases hx : (recOf y).bytes = y.take 13
        · have HX := Lib.hid hx; clear hx
          go_wp2_with fail
          refine (equal_own v1 13 _ (y.take 13) w0 w1 _ h1 g (off + 13 * k) _ (by omega) (by rw [List.length_take, HYL.out]; omega) HYS.out (by omega)).mono ?_
          rintro e w2 ⟨he, q, rfl⟩
          rw [decide_eq_true HX.out] at he
          subst he
          have hb := ((HH.out.d2.p2.new 28 #[.bool (((byteAt y 0).toNat : Int) == 1), .int .u32 ((numAt y 1).toNat : Int), .int .u32 ((numAt y 5).toNat : Int)]).drewN q)
          have HB := Lib.hid hb; clear hb h1
          by_cases h13 : cap - 13 * k = 13
          · go_wp2_with (at_builtin; refine wpList_append_sl sl_rec HB.out.p2 (Src.new (xs := (recOf y).cells) rfl 3 1 1 HB.out rfl) (recs_one [recOf y]) (by simp only [maxLen]; omega) (by omega) _ _ rfl rfl rfl rfl ?_; intro l' w3 h3)
            go_roundw
            case rel => exact ⟨k + 1, _, by omega, by congr 1 <;> omega, fun hp => absurd hp (by omega), js ++ [recOf y], by simp [HL.out], readJ_step xs js k y HJ.out HY.out hlt HX.out, h3.d2.d2.cast (by rw [recs_append]; rfl)⟩
            case measure => show (xs.length - 13 * k) - 13 < xs.length - 13 * k; omega
          · go_wp2_with (at_builtin; refine wpList_append_sl sl_rec HB.out.p2 (Src.new (xs := (recOf y).cells) rfl 3 1 1 HB.out rfl) (recs_one [recOf y]) (by simp only [maxLen]; omega) (by omega) _ _ rfl rfl rfl rfl ?_; intro l' w3 h3)
            go_roundw
            case rel => exact ⟨k + 1, _, by omega, by congr 1 <;> omega, fun _ => by congr 1, js ++ [recOf y], by simp [HL.out], readJ_step xs js k y HJ.out HY.out hlt HX.out, h3.d2.d2.cast (by rw [recs_append]; rfl)⟩
            case measure => show (xs.length - 13 * k) - 13 < xs.length - 13 * k; omega
        · have HX := Lib.hid hx; clear hx
          go_wp2_with fail
          refine (equal_own v1 13 _ (y.take 13) w0 w1 _ h1 g (off + 13 * k) _ (by omega) (by rw [List.length_take, HYL.out]; omega) HYS.out (by omega)).mono ?_
          rintro e w2 ⟨he, q, rfl⟩
          rw [decide_eq_false HX.out] at he
          subst he
          go_wp2_with fail
          go_ret2
          have hr : readJ xs = js := by
            rw [HJ.out, ← HY.out]
            rw [readN_not _ _ HX.out, List.append_nil]
          rw [hr, HL.out]
          exact ⟨_, rfl, (HH.out.d2.p2.d2).drewN q⟩
    · go_wp2_with fail
      go_ret2
      have hr : readJ xs = js := by
        rw [HJ.out, readN_short _ _ (by simp; omega), List.append_nil]
      rw [hr, HL.out]
      exact ⟨_, rfl, HS.out⟩
end Go.Proofs.Ytapoehkdnglahaa
