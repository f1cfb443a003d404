/- meshkeep.Torn returns true, whatever it is handed: the walk. -/
import Derived.Test.YtapoehkdnglahaaWireR
import Derived.Test.YtapoehkdnglahaaTornP
import Derived.StillTailTactics
namespace Go.Proofs.Ytapoehkdnglahaa
open Go.RowKit
set_option linter.unusedVariables false
theorem writeRecord_any (r : Rec) (w0 w : World) (F : HProp) (h : Sat w0 w F) :
    Calls Try.prog 13 #[r.val] w fun e w' => ∃ v', e = .returned v' ∧ Sat w0 w' (slc 5 1 v' 13 (u8s r.bytes) * F) := by
  have H := Lib.hid h; clear h
  obtain ⟨own, addr, seq⟩ := r
  unfold Rec.val u32
  go_enter Try.func13, Try.ntmps13
  go_wp2_with fail
  refine (record_any ⟨own, addr, seq⟩ w0 _ _ (H.out.new _ _)).mono ?_
  rintro e w1 ⟨v1, rfl, h1⟩
  go_wp2_with fail
  go_ret
  exact ⟨v1, rfl, h1.d2⟩
theorem readJournal_any (A : Option Addr) (xs : List UInt8) (cap g off : Nat) (w0 w : World) (F : HProp) (hA : xs ≠ [] → A = some ⟨g, off, none⟩)
    (hR : ∀ w', Sat w0 w' F → ∀ j u, (u8s xs)[j]? = some u → w'.cell? ⟨g, off + j, none⟩ = some u) (hcap : xs.length ≤ cap) (hcap2 : cap ≤ maxLen) (hn : xs.length ≤ 1000000) (h : Sat w0 w F) :
    Calls Try.prog 15 #[.slice A xs.length cap] w fun e w' => ∃ v', e = .returned (.tuple #[v', .int .i64 (13 * ((readJ xs).length : Int))]) ∧ Sat w0 w' (slc 28 3 v' (readJ xs).length (recs (readJ xs)) * F) := by
  go_enter Try.func15, Try.ntmps15
  go_wp2_with fail
  refine (read_any A xs cap g off w0 w F hA hR hcap hcap2 hn h).mono ?_
  rintro e w1 ⟨v1, rfl, h1⟩
  clear hR hA h
  have H1 := Lib.hid h1; clear h1
  go_wp2_with fail
  go_ret2
  exact ⟨v1, rfl, H1.out⟩
/-- It reads the first k bytes of a slice that the call owns. -/
theorem readJournal_pre (g off n cap k : Nat) (xs : List UInt8) (w0 w : World) (F : HProp) (h : Sat w0 w (slc 5 1 (.slice (some ⟨g, off, none⟩) n cap) n (u8s xs) * F)) (hk : k ≤ n) (hn : n ≤ 1000000) :
    Calls Try.prog 15 #[.slice (some ⟨g, off, none⟩) k cap] w fun e w' => ∃ v', e = .returned (.tuple #[v', .int .i64 (13 * ((readJ (xs.take k)).length : Int))]) ∧
      Sat w0 w' (slc 28 3 v' (readJ (xs.take k)).length (recs (readJ (xs.take k))) * (slc 5 1 (.slice (some ⟨g, off, none⟩) n cap) n (u8s xs) * F)) := by
  obtain ⟨hl, hcs⟩ := h.slc_cases
  have hx : xs.length = n := by simpa [u8s] using hl
  have hcap : n ≤ cap ∧ cap ≤ maxLen := by
    rcases hcs with ⟨A, hv, hn0, _⟩ | ⟨g', off', cap', cur, fr, hv, h1, h2, _⟩
    · injection hv with _ _ h3
      subst h3; subst hn0; exact ⟨Nat.le_refl _, Nat.zero_le _⟩
    · injection hv with _ _ h3
      subst h3; exact ⟨h1, h2⟩
  have hlk : (xs.take k).length = k := by simp; omega
  have := readJournal_any (some ⟨g, off, none⟩) (xs.take k) cap g off w0 w _ (fun _ => rfl) (fun w' hs j u hu => (hs.slc_get j u (by
    have hj : j < k := by have := (List.getElem?_eq_some_iff.1 hu).1; simp [u8s] at this; omega
    simpa [u8s, List.getElem?_take, hj] using hu)).1) (by omega) hcap.2 (by omega) h
  rwa [hlk] at this
theorem rec_neq (a b : Bool) (x y x' y' : Int) (w : World) :
    (binOp .neq 28 (.agg #[.bool a, .int .u32 x, .int .u32 y]) (.agg #[.bool b, .int .u32 x', .int .u32 y'])).run Try.prog w = .ok (.bool (!(a == b && x == x' && y == y'))) w := by
  have u3 := Try.underlying4
  have u4 := Try.underlying26
  have hS : Try.prog.underlying 28 = some (.struct (Try.prog.fieldsOf 28)) := by kernel_rfl
  have hp : Try.prog.stoodInHeld 28 = false := by kernel_rfl
  rw [run_neq_struct, show (10000 : Nat) = 9999 + 1 from rfl, run_equalIn_agg w 9999 28 _ _ hS hp]
  simp only [Program.fieldsOf, Try.underlying28]
  go_simp
  by_cases h1 : a = b <;> by_cases h2 : x = x' <;> by_cases h3 : y = y' <;> simp [h1, h2, h3]
theorem rec_neq_same (a : Bool) (x y : Int) (w : World) :
    (binOp .neq 28 (.agg #[.bool a, .int .u32 x, .int .u32 y]) (.agg #[.bool a, .int .u32 x, .int .u32 y])).run Try.prog w = .ok (.bool false) w := by
  rw [rec_neq]; simp
def pickV (c n : Int) : Int := if c < 0 then -((c + 1).tmod n) else c % n
theorem pickV_lt (c n : Int) (hn : 0 < n) : 0 ≤ pickV c n ∧ pickV c n < n := by
  unfold pickV
  split
  · have h0 : -((c + 1).tmod n) = (-(c + 1)) % n := by rw [← Int.neg_tmod, Int.tmod_eq_emod_of_nonneg (by omega)]
    have h1 := Int.emod_nonneg (-(c + 1)) (show n ≠ 0 by omega)
    have h2 := Int.emod_lt_of_pos (-(c + 1)) hn
    omega
  · exact ⟨Int.emod_nonneg c (show n ≠ 0 by omega), Int.emod_lt_of_pos c hn⟩
theorem pick_any (c n : Int) (w : World) (hn : 0 < n) (hn2 : n ≤ 1000000) (hc : -9223372036854775808 ≤ c ∧ c ≤ 9223372036854775807) :
    Calls Try.prog 14 #[.int .i64 c, .int .i64 n] w fun e w' => e = .returned (.int .i64 (pickV c n)) ∧ w = w' := by
  obtain ⟨hc, hc2⟩ := hc
  by_cases h : c < 0
  · have HP : Hid (pickV c n = -((c + 1).tmod n)) := by simp [Hid, pickV, h]
    go_enter Try.func14, Try.ntmps14
    go_wp2_with fail
    go_ret
    exact ⟨ret_eq (int_eq HP.out.symm), rfl⟩
  · have HP : Hid (pickV c n = c % n) := by simp [Hid, pickV, h]
    go_enter Try.func14, Try.ntmps14
    go_wp2_with fail
    go_ret
    exact ⟨ret_eq (int_eq HP.out.symm), rfl⟩
set_option maxRecDepth 100000 in
set_option maxHeartbeats 8000000 in
theorem torn_walk (A : Option Addr) (l : List Rec) (cap g off : Nat) (at_ by_ : Int) (w : World) (hat : -9223372036854775808 ≤ at_ ∧ at_ ≤ 9223372036854775807) (hby : -9223372036854775808 ≤ by_ ∧ by_ ≤ 9223372036854775807)
    (hl : l.length ≤ 200) (hA : recs l ≠ [] → A = some ⟨g, off, none⟩) (hc : ∀ j u, (recs l)[j]? = some u → w.cell? ⟨g, off + j, none⟩ = some u) :
    Calls Try.prog 4 #[.slice A l.length cap, .int .i64 at_, .int .i64 by_] w fun e w' => e = .returned (.bool true) ∧ Below w.heap.size w w' := by
  have H1 := ((Sat.start w).new 28 #[.bool true, .int .u32 0, .int .u32 7]).slc_new (xs := recs [⟨true, 0, 7⟩]) 3 1 rfl rfl (by simp [maxLen])
  have S1 : Src Try.prog (w.alloc (.cells #[.bool true, .int .u32 0, .int .u32 7] 28)) 3 l.length (.slice A l.length cap) (recs l) :=
    Src.row (by decide) (recs_length l) hA fun j u hu => by
      have := hc j u hu
      rw [World.cell?_alloc_lt _ _ _ (World.block_lt this)]; exact this
  have H := Lib.hid H1; have HS := Lib.hid S1; clear H1 S1 hA hc
  obtain ⟨l', hl'⟩ : ∃ l', l' = [(⟨true, 0, 7⟩ : Rec)] ++ l := ⟨_, rfl⟩
  have HL' := Lib.hid hl'
  have hlen : l'.length = 1 + l.length := by rw [hl']; simp; omega
  have HLEN := Lib.hid hlen
  clear hl' hlen
  go_enter Try.func4, Try.ntmps4
  go_wp2_with (at_builtin; refine wpList_append_sl sl_rec H.out HS.out (recs_one l) (by simp only [maxLen]; omega) (by omega) _ _ rfl rfl rfl rfl ?_; intro v0 w1 h1)
  rw [← recs_append, ← HL'.out, ← HLEN.out] at h1
  obtain ⟨g0, o0, c0, rfl, -, -, -⟩ := h1.slc_cell (by intro e; have := recs_length l'; rw [e] at this; simp at this; have := HLEN.out; omega)
  have HN : l'.length ≤ 201 := by rw [HLEN.out]; omega
  have HP : 0 < l'.length := by rw [HLEN.out]; omega
  have H1 := Lib.hid h1; clear h1
  generalize hN : l'.length = N at *
  have HNN := Lib.hid hN; clear hN HLEN
  go_loopw [7, 8] (fun v7 i wr => ∃ k : Nat, k ≤ N ∧ i = .int .i64 k ∧ Sat w wr (slc 5 1 v7 (13 * k) (u8s (recBytes (l'.take k))) * (slc 28 3 (.slice (some ⟨g0, o0, none⟩) N c0) N (recs l') * old w)))
    (fun _ i _ => N - (intOf i).toNat)
  case atStart => exact ⟨0, by omega, rfl, H1.out.slc_nil _ _ _⟩
  case round =>
    obtain ⟨k, hk, rfl, hS⟩ := hrel
    have HS := Lib.hid hS; clear hS
    by_cases hlt : k < N
    · obtain ⟨r, hr⟩ : ∃ r, l'[k]? = some r := ⟨_, List.getElem?_eq_getElem (by rw [HNN.out]; exact hlt)⟩
      obtain ⟨q1, q2, q3⟩ := recs_get l' k r hr
      have e1 := (HS.out.p2.slc_get _ _ q1).1
      have e2 := (HS.out.p2.slc_get _ _ q2).1
      have e3 := (HS.out.p2.slc_get _ _ q3).1
      rw [← Nat.add_assoc] at e2 e3
      have HR := Lib.hid hr
      clear hr q1 q2 q3
      go_wp2_with fail
      refine (writeRecord_any r w wr _ HS.out).mono ?_
      rintro e w2 ⟨v9, rfl, h2⟩
      obtain ⟨A9, c9, rfl⟩ := h2.slc_form
      have H2 := Lib.hid h2
      clear h2 e1 e2 e3
      go_wp2_with (at_builtin; refine wpList_append_sl sl_u8 H2.out.p2 (Src.own H2.out) (u8s_one _) (by simp only [maxLen]; omega) (by omega) _ _ rfl rfl rfl rfl ?_; intro v7 w3 h3)
      go_roundw
      case rel => exact ⟨k + 1, by omega, by go_num, h3.d2.cast (by rw [← u8s_append, recBytes_take_succ l' k r HR.out]; rfl)⟩
      case measure => simp [intOf]; omega
    · obtain rfl : k = N := by omega
      have h2 := HS.out
      rw [← HNN.out, List.take_length, HNN.out] at h2
      have hbl := recBytes_length l'
      rw [HNN.out] at hbl
      obtain ⟨g1, o1, c1, rfl, hc1, hc1m, -⟩ := h2.slc_cell (by intro e; have := u8s_length (recBytes l'); rw [e, hbl] at this; simp at this; omega)
      have H2 := Lib.hid h2; have HBL := Lib.hid hbl; clear h2 hbl
      unfold maxLen at hc1m
      obtain ⟨p, hp⟩ : ∃ p : Nat, pickV at_ (13 * (k : Int)) = (p : Int) := ⟨_, (Int.toNat_of_nonneg (pickV_lt at_ (13 * (k : Int)) (by omega)).1).symm⟩
      have hp1 := (pickV_lt at_ (13 * (k : Int)) (by omega)).2
      rw [hp] at hp1
      obtain ⟨d, hd⟩ : ∃ d : Nat, pickV by_ 255 = (d : Int) := ⟨_, (Int.toNat_of_nonneg (pickV_lt by_ 255 (by omega)).1).symm⟩
      have hd1 := (pickV_lt by_ 255 (by omega)).2
      rw [hd] at hd1
      have HPP := Lib.hid hp; have HDD := Lib.hid hd; clear hp hd
      go_wp2_with fail
      refine (pick_any _ _ _ (by omega) (by omega) hat).mono ?_
      rintro e w' ⟨he, rfl⟩
      rw [HPP.out] at he
      subst he
      go_wp2_with (at_builtin; refine wpList_append_sl sl_u8 ((H2.out.new _ _).drop.slc_nil _ _ _) (Src.own (H2.out.new _ _).drop) (u8s_one _) (by simp only [maxLen]; omega) (by omega) _ _ rfl rfl rfl rfl ?_; intro v11 w3 h3)
      have hbl := u8s_length (recBytes l')
      rw [HBL.out] at hbl
      simp only [Nat.zero_add, List.nil_append] at h3
      obtain ⟨g2, o2, c2, rfl, hc2, hc2m, -⟩ := h3.slc_cell (by intro e; rw [e] at hbl; simp at hbl; omega)
      unfold maxLen at hc2m
      obtain ⟨b, hb⟩ : ∃ b, (recBytes l')[p]? = some b := ⟨_, List.getElem?_eq_getElem (by rw [HBL.out]; omega)⟩
      have hcb := h3.slc_get p (u8 b) (by simp [u8s, hb])
      obtain ⟨hcb, hcf⟩ := hcb
      unfold u8 at hcb
      have HB := Lib.hid hb
      have hbx := bits_xor_u8 b (UInt8.ofNat (1 + d))
      have hdn : (UInt8.ofNat (1 + d)).toNat = 1 + d := by simp [UInt8.toNat_ofNat']; omega
      rw [hdn] at hbx
      have hbne : b ^^^ UInt8.ofNat (1 + d) ≠ b := by
        intro e
        have h1 := congrArg (b ^^^ ·) e
        simp only [← UInt8.xor_assoc, UInt8.xor_self, UInt8.zero_xor] at h1
        rw [h1] at hdn
        simp at hdn; omega
      generalize b ^^^ UInt8.ofNat (1 + d) = b' at hbx hbne
      have HBX := Lib.hid hbx; have HBNE := Lib.hid hbne; have H3 := Lib.hid h3
      clear hbx hbne hbl hdn hb h3
      have hst : Calls Try.prog 14 #[.int .i64 by_, .int .i64 255] w3.drew fun e w'' => e = .returned (.int .i64 (d : Int)) ∧ w'' = w3.drew :=
        (pick_any by_ 255 w3.drew (by omega) (by omega) hby).mono fun _ _ ⟨h1, h2⟩ => ⟨by rw [h1, HDD.out], h2.symm⟩
      have HST := Lib.hid hst; clear hst
      refine wp_region_still_tail 12 (by kernel_rfl) (by kernel_rfl) ?_
      simp only [List.take_succ_cons, List.take_zero, List.drop_succ_cons, List.drop_zero]
      change wpStill _ _ w3.drew (fun a' => wpList _ _ _ _ a' w3.drew) _ _
      repeat still_step
      still_call HST.out
      repeat still_step
      refine wpStill_nil ?_
      go_wp2_with fail
      have H4 := Lib.hid ((H3.out.slc_set p (by omega) (u8 b')).drew.cast (by rw [u8s_set]))
      refine (readJournal_pre g2 o2 (13 * k) c2 (13 * k) _ w _ _ (by have := H4.out; unfold u8 at this; rw [← HBX.out] at this; exact this) (Nat.le_refl _) (by omega)).mono ?_
      rintro e w4 ⟨v12, he, h4⟩
      have hkb : p < (recBytes l').length := by rw [HBL.out]; omega
      have hbb : (recBytes l')[p]? ≠ some b' := by rw [HB.out]; intro e; exact HBNE.out (Option.some.inj e).symm
      rw [List.take_of_length_le (by simp [HBL.out]), torn_set_length l' p b' hkb hbb, torn_set l' p b' hkb hbb] at h4
      rw [List.take_of_length_le (by simp [HBL.out]), torn_set_length l' p b' hkb hbb] at he
      obtain ⟨A12, c12, rfl⟩ := h4.slc_form
      subst he
      have H5 := Lib.hid h4
      have HKB := Lib.hid hkb
      clear h4 hkb hbb hcb hcf H4 H3 H2 H1 HS HST
      go_wp2_with fail
      refine (readJournal_pre g1 o1 (13 * k) c1 p _ w _ _ H5.out.p3 (by omega) (by omega)).mono ?_
      rintro e w5 ⟨v14, he, h5⟩
      rw [torn_take_length l' p HKB.out, torn_take l' p HKB.out] at h5
      rw [torn_take_length l' p HKB.out] at he
      obtain ⟨A14, c14, rfl⟩ := h5.slc_form
      subst he
      have H6 := Lib.hid h5
      clear h5 H5
      go_wp2_with fail
      refine (readJournal_pre g1 o1 (13 * k) c1 (13 * k) _ w _ _ H6.out.p2 (by omega) (by omega)).mono ?_
      rintro e w6 ⟨v16, he, h6⟩
      have hwl : (readJ (recBytes l')).length = k := by rw [torn_whole]; simp [HNN.out]
      rw [List.take_of_length_le (by simp [HBL.out]), hwl, torn_whole] at h6
      rw [List.take_of_length_le (by simp [HBL.out]), hwl] at he
      obtain ⟨A16, c16, rfl⟩ := h6.slc_form
      subst he
      have H7 := Lib.hid h6
      clear h6 H6 hwl
      have hq1 : 13 * (p / 13) ≤ p := by omega
      have hq2 : p < 13 * (p / 13) + 13 := by omega
      generalize hq : p / 13 = q at *
      have HQ := Lib.hid hq
      clear hq
      go_wp2_with fail
      go_loopw [18] (fun i wr => ∃ j : Nat, j ≤ k ∧ i = .int .i64 j ∧ Sat w wr (slc 28 3 (.slice A16 k c16) k (recs (l'.map Rec.norm)) * (slc 28 3 (.slice A14 q c14) q (recs ((l'.take q).map Rec.norm)) *
        (slc 28 3 (.slice A12 q c12) q (recs ((l'.take q).map Rec.norm)) * (slc 28 3 (.slice (some ⟨g0, o0, none⟩) k c0) k (recs l') * old w)))))
        (fun i _ => k - (intOf i).toNat)
      case atStart => exact ⟨0, by omega, rfl, H7.out.d2.d4⟩
      case round =>
        obtain ⟨j, hj, rfl, hS⟩ := hrel
        have H8 := Lib.hid hS
        clear hS H7
        by_cases hjt : j < k
        · obtain ⟨r, hr⟩ : ∃ r, l'[j]? = some r := ⟨_, List.getElem?_eq_getElem (by rw [HNN.out]; exact hjt)⟩
          have hrn : (l'.map Rec.norm)[j]? = some r.norm := by simp [hr]
          obtain ⟨e1, e2, e3⟩ := rec_at H8.out.p4 hr
          obtain ⟨g6, o6, c6, hv6, hc6, hc6m, -⟩ := H8.out.slc_cell (by intro e; have := recs_length (l'.map Rec.norm); rw [e] at this; simp [HNN.out] at this; omega)
          injection hv6 with hA6 _ hc6'
          subst hA6; subst hc6'
          have HR := Lib.hid hr
          have HRN := Lib.hid hrn
          clear hr hrn
          unfold maxLen at hc6m
          have hj0 : (0 : Int) ≤ (j : Int) := by omega
          have hj1 : (j : Int) < (k : Int) := by omega
          have hneq : ∀ (a : Bool) (x y : Int) (W : World), (binOp .neq 28 (.agg #[.bool a, .int .u32 x, .int .u32 y]) (.agg #[.bool a, .int .u32 x, .int .u32 y])).run Try.prog W = .ok (.bool false) W := by
            exact rec_neq_same
          by_cases hjq : j < q
          · have hrq : ((l'.take q).map Rec.norm)[j]? = some r.norm := by simp [hjq, HR.out]
            have HRQ := Lib.hid hrq
            clear hrq
            have hrl := recs_length ((l'.take q).map Rec.norm)
            obtain ⟨g4, o4, c4, hv4, -, -, -⟩ := H8.out.p2.slc_cell (by intro e; rw [e] at hrl; simp [HNN.out] at hrl; omega)
            injection hv4 with hA4 _ hc4'
            subst hA4; subst hc4'
            obtain ⟨g5, o5, c5, hv5, -, -, -⟩ := H8.out.p3.slc_cell (by intro e; rw [e] at hrl; simp [HNN.out] at hrl; omega)
            injection hv5 with hA5 _ hc5'
            subst hA5; subst hc5'
            clear hrl
            obtain ⟨own, addr, seq⟩ := r
            cases own
            · have H9 := Lib.hid (H8.out.new 28 #[.bool false, .int .u32 (addr.toNat : Int), .int .u32 (seq.toNat : Int)])
              obtain ⟨f1, f2, f3⟩ := rec_at H9.out.p2 HRN.out
              obtain ⟨f4, f5, f6⟩ := rec_at H9.out.p3 HRQ.out
              obtain ⟨f7, f8, f9⟩ := rec_at H9.out.p4 HRQ.out
              simp only [Rec.norm, Bool.false_eq_true, if_false] at f1 f2 f3 f4 f5 f6 f7 f8 f9
              have hjq1 : decide ((j : Int) < (p : Int) / 13) = true := by simp; omega
              go_wp2_with fail
              go_quiet (fail)
              go_wp2_with fail
              go_roundw
              case rel => exact ⟨j + 1, by omega, by go_num, H9.out.drop.drewN _⟩
              case measure => simp [intOf]; omega
            · have H9 := Lib.hid (H8.out.new 28 #[.bool true, .int .u32 0, .int .u32 (seq.toNat : Int)])
              obtain ⟨f1, f2, f3⟩ := rec_at H9.out.p2 HRN.out
              obtain ⟨f4, f5, f6⟩ := rec_at H9.out.p3 HRQ.out
              obtain ⟨f7, f8, f9⟩ := rec_at H9.out.p4 HRQ.out
              simp only [Rec.norm, if_true] at f1 f2 f3 f4 f5 f6 f7 f8 f9
              simp only [show ((0 : UInt32).toNat : Int) = 0 from rfl] at f2 f5 f8
              have hjq1 : decide ((j : Int) < (p : Int) / 13) = true := by simp; omega
              go_wp2_with fail
              go_quiet (fail)
              go_wp2_with fail
              go_roundw
              case rel => exact ⟨j + 1, by omega, by go_num, H9.out.drop.drewN _⟩
              case measure => simp [intOf]; omega
          · obtain ⟨own, addr, seq⟩ := r
            cases own
            · have H9 := Lib.hid (H8.out.new 28 #[.bool false, .int .u32 (addr.toNat : Int), .int .u32 (seq.toNat : Int)])
              obtain ⟨f1, f2, f3⟩ := rec_at H9.out.p2 HRN.out
              simp only [Rec.norm, Bool.false_eq_true, if_false] at f1 f2 f3
              have hjq1 : decide ((j : Int) < (p : Int) / 13) = false := by simp; omega
              go_wp2_with fail
              go_quiet (fail)
              go_wp2_with fail
              go_roundw
              case rel => exact ⟨j + 1, by omega, by go_num, H9.out.drop.drewN _⟩
              case measure => simp [intOf]; omega
            · have H9 := Lib.hid (H8.out.new 28 #[.bool true, .int .u32 0, .int .u32 (seq.toNat : Int)])
              obtain ⟨f1, f2, f3⟩ := rec_at H9.out.p2 HRN.out
              simp only [Rec.norm, if_true] at f1 f2 f3
              simp only [show ((0 : UInt32).toNat : Int) = 0 from rfl] at f2
              have hjq1 : decide ((j : Int) < (p : Int) / 13) = false := by simp; omega
              go_wp2_with fail
              go_quiet (fail)
              go_wp2_with fail
              go_roundw
              case rel => exact ⟨j + 1, by omega, by go_num, H9.out.drop.drewN _⟩
              case measure => simp [intOf]; omega
        · obtain rfl : j = k := by omega
          go_wp2_with fail
          go_ret
          exact ⟨rfl, (H8.out.drop.drop.drop.drop.cast (by rw [star_comm, emp_star])).ends⟩
end Go.Proofs.Ytapoehkdnglahaa
