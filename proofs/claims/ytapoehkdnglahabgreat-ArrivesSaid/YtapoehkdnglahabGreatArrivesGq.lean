/- A part of what Arrives needs. -/
import Derived.Test.YtapoehkdnglahabGreatArrivesGp
set_option maxHeartbeats 8000000
set_option linter.unusedVariables false
set_option linter.unusedSimpArgs false
set_option linter.unusedSectionVars false
namespace Go.Proofs.YtapoehkdnglahabGreat
section
theorem Ms.Fine.mono {m : Ms} {c d : Nat} (h : m.Fine c) (hd : c ≤ d) : m.Fine d := ⟨h.short, fun i s hs => (h.sound i s hs).mono hd, h.air⟩
theorem Ms.Fine.did {m m' : Ms} {i c d n : Nat} (h : m.Fine c) (hD : m.Did m' i d n) (hc : c ≤ d) : m'.Fine d := by
 refine ⟨by rw [hD.kept.length]; exact h.short, fun j s hs => ?_, hD.air h.air⟩
 by_cases e : j = i
 ·subst e
  obtain ⟨s2, h1, h2⟩ := hD.here
  rw [h1] at hs
  cases hs
  exact h2
 ·rw [hD.kept.other j e] at hs
  exact (h.sound j s hs).mono hc
theorem Ms.Fine.mod {m : Ms} {i c : Nat} {f : Sta → Sta} (h : m.Fine c) (hf : ∀ s, s.Sound c → (f s).Sound c) : (m.mod i f).Fine c := by
 refine ⟨by show (m.sts.modify i f).length ≤ 6; rw [List.length_modify]; exact h.short, fun j s hs => ?_, ⟨h.air.few, fun x hx => ?_⟩⟩
 ·have hs' : (m.sts.modify i f)[j]? = some s := hs
  rw [List.getElem?_modify] at hs'
  by_cases e : i = j
  ·subst e
   cases hq : m.sts[i]? with
   | none => rw [hq] at hs'; simp at hs'
   | some q =>
    rw [hq] at hs'
    simp at hs'
    rw [← hs']
    exact hf q (h.sound i q hq)
  ·cases hq : m.sts[j]? with
   | none => rw [hq] at hs'; simp at hs'
   | some q =>
    rw [hq] at hs'
    simp [e] at hs'
    rw [← hs']
    exact h.sound j q hq
 ·show x.src < (m.sts.modify i f).length ∧ x.dst < (m.sts.modify i f).length ∧ _
  rw [List.length_modify]
  exact h.air.each x hx
theorem Sta.Sound.stop {s : Sta} {c : Nat} (h : s.Sound c) : s.stop.Sound c := ⟨(fun n hn => by cases hn), h.jour, h.tear⟩
theorem Sta.Sound.arm {s : Sta} {c : Nat} (h : s.Sound c) {n : Int} (hn : n ≤ 9223372036854775807) : (s.arm n).Sound c := ⟨h.node, h.jour, by show 0 ≤ max 0 n ∧ max 0 n ≤ 9223372036854775807; omega⟩
theorem Ms.Fine.clear {m : Ms} {c : Nat} (h : m.Fine c) : Ms.Fine { m with evs := [] } c := ⟨h.short, h.sound, ⟨h.air.few, h.air.each⟩⟩
theorem Ms.Fine.frame {m : Ms} {c : Nat} (h : m.Fine c) (o : OpD) (k : Nat) : (m.frame o k).Fine c := by
 unfold Ms.frame
 cases hf : m.air[k]? with
 | none => exact h
 | some f =>
  obtain ⟨a1, a2, a3⟩ := h.air.each f (List.mem_of_getElem? hf)
  have he : Ms.Fine { m with air := m.air.eraseIdx k } c := ⟨h.short, h.sound, h.air.erase k⟩
  simp only
  split
  ·cases hs : m.sts[f.dst]? with
   | none => exact he
   | some s =>
    simp only [Option.bind_some]
    cases ht : s.node with
    | none => exact he
    | some t =>
     have hso := h.sound _ s hs
     have hrt := (hso.node t ht).1
     have hw := hrt.wentRcv m.now (((m.sts[f.src]?).map fun x : Sta => x.addr).getD 0) f.bytes
     have hD := Ms.Did.run (m := { m with air := m.air.eraseIdx k }) (i := f.dst) (Ms.Did.emit (Ms.mod_at hs) (hso.says ht hw) hw.pks.le)
     exact he.did hD (Nat.le_refl _)
  ·split
   ·exact he
   ·split
    ·exact ⟨h.short, h.sound, h.air.fly a1 a2 a3⟩
    ·split
     ·refine ⟨h.short, h.sound, ⟨?_, fun x hx => ?_⟩⟩
      ·show (m.air.set k _).length ≤ 48
       rw [List.length_set]; exact h.air.few
      ·rcases List.mem_or_eq_of_mem_set hx with hx | rfl
       ·exact h.air.each x hx
       ·refine ⟨a1, a2, ?_⟩
        show (f.bytes.take _).length ≤ 100000
        rw [List.length_take]; omega
     ·exact h
theorem Ms.Fine.tick {m : Ms} {c : Nat} (h : m.Fine c) (hc : c ≤ 8500) (n : UInt64) (hn : (m.now + n).toNat ≤ 4611686018427387904) : (m.tick n).Fine (c + 1) := by
 have h1 : Ms.Fine { m with now := m.now + n } c := ⟨h.short, h.sound, ⟨h.air.few, h.air.each⟩⟩
 have hT := Ms.tickN_told h1 hc hn m.sts.length (Nat.le_refl _)
 exact ⟨by show (Ms.tickN m.sts.length { m with now := m.now + n }).sts.length ≤ 6; rw [hT.length]; exact h.short, hT.sound, hT.air⟩
theorem Ms.Fine.node {m : Ms} {c : Nat} (h : m.Fine c) (hc : c ≤ 8500) (hn : m.now.toNat ≤ 4611686018427387904) {o : OpD} (ho : o.Ok) (hk : o.kind = 1 ∨ o.kind = 2 ∨ o.kind = 8 ∨ o.kind = 9 ∨ o.kind = 10 ∨ o.kind = 11) : (m.nodeOp o).Fine (c + 1) := by
 have hev : ∀ e, (m.event e).Fine (c + 1) := fun e => ⟨h.short, fun i s hs => (h.sound i s hs).mono (Nat.le_succ c), ⟨h.air.few, h.air.each⟩⟩
 cases hb : m.bars o with
 | true => rw [Ms.nodeOp_bar hb]; exact hev _
 | false =>
  obtain ⟨i, s, e1, hs, hw, hj⟩ := Ms.bars_false hb
  have hat : m.at_ o.a = some s := by rw [e1, m.at_nat]; exact hs
  have hso := h.sound i s hs
  rcases hk with hk | hk | hk | hk | hk | hk
  ·rw [Ms.nodeOp_link hb hk]
   split
   ·exact ⟨h.short, fun i s hs => (h.sound i s hs).mono (Nat.le_succ c), ⟨h.air.few, h.air.each⟩⟩
   ·exact h.mono (Nat.le_succ c)
  ·obtain ⟨j, s2, e2, hs2⟩ := hj (.inr (.inl hk))
   cases ht : s.node with
   | none => rw [ht, hk] at hw; exact absurd (hw (by decide)) (fun h : true = false => by cases h)
   | some t =>
    rw [Ms.nodeOp_send hb hk hat ht (by rw [e2, m.at_nat]; exact hs2)]
    split
    ·rename_i he
     have hrt := (hso.node t ht).1
     have hw := hrt.wentSend hn s2.addr o.text (by unfold Nd.sendE at he; split at he; cases he; omega)
     rw [e1, Int.toNat_natCast]
     exact h.did (Ms.Did.run (Ms.Did.emit (Ms.mod_at hs) ((hso.mono (Nat.le_succ c)).says ht hw) hw.pks.le)) (Nat.le_succ c)
    ·exact hev _
  ·obtain ⟨j, s2, e2, hs2⟩ := hj (.inr (.inr hk))
   cases ht : s.node with
   | none => rw [ht, hk] at hw; exact absurd (hw (by decide)) (fun h : true = false => by cases h)
   | some t =>
    rw [Ms.nodeOp_rcv hb hk hat ht (by rw [e2, m.at_nat]; exact hs2)]
    have hrt := (hso.node t ht).1
    have hw := hrt.wentRcv m.now s2.addr o.text
    rw [e1, Int.toNat_natCast]
    exact (h.did (Ms.Did.run (Ms.Did.emit (Ms.mod_at hs) (hso.says ht hw) hw.pks.le)) (Nat.le_refl c)).mono (Nat.le_succ c)
  ·rw [Ms.nodeOp_stop hb hk]
   exact (h.mod fun s hs => hs.stop).mono (Nat.le_succ c)
  ·rw [Ms.nodeOp_arm hb hk]
   exact (h.mod fun s hs => hs.arm ho.n.2).mono (Nat.le_succ c)
  ·rw [Ms.nodeOp_boot hb hk hat, e1, Int.toNat_natCast]
   have hD := Ms.Did.emit (m := m.mod i (Sta.boot m.now)) (i := i) (c := c) (o := Nd.newO s.addr s.journal m.now) (Ms.mod_at (f := Sta.boot m.now) hs) (hso.boot m.now) (by rw [(Nd.new_frames s.addr s.journal m.now).1]; simp)
   have hk2 : m.Kept (m.mod i (Sta.boot m.now)) i := Ms.Kept.mod (fun _ => rfl)
   have hD2 : m.Did (Ms.emit i (m.mod i (Sta.boot m.now)) (Nd.newO s.addr s.journal m.now)) i c (1 + (Nd.newO s.addr s.journal m.now).frames.length) := ⟨hk2.trans hD.kept, hD.here, fun ha => hD.air ⟨ha.few, fun x hx => by rw [hk2.length]; exact ha.each x hx⟩, hD.evs⟩
   exact (h.did hD2 (Nat.le_refl c)).mono (Nat.le_succ c)
theorem Ms.Fine.do_ {m : Ms} {c : Nat} (h : m.Fine c) (hc : c ≤ 8500) (hn : m.now.toNat + 60000 ≤ 4611686018427387904) {o : OpD} (ho : o.Ok) : (m.do_ o).Fine (c + 1) := by
 have h1 := h.clear
 by_cases hF : o.kind = 4 ∨ o.kind = 5 ∨ o.kind = 6 ∨ o.kind = 7
 ·rw [Ms.do_frame hF]
  split
  ·exact (h1.frame _ _).mono (Nat.le_succ c)
  ·exact h1.mono (Nat.le_succ c)
 ·by_cases hT : o.kind = 3
  ·rw [Ms.do_tick hT]
   split
   ·rename_i hr
    refine h1.tick hc _ ?_
    rw [UInt64.toNat_add]
    refine Nat.le_trans (Nat.mod_le _ _) ?_
    have : (UInt64.ofNat o.n.toNat).toNat ≤ 60000 := by
     rw [UInt64.toNat_ofNat']
     exact Nat.le_trans (Nat.mod_le _ _) (by omega)
    show m.now.toNat + _ ≤ _
    omega
   ·exact h1.mono (Nat.le_succ c)
  ·by_cases hN : o.kind = 1 ∨ o.kind = 2 ∨ o.kind = 8 ∨ o.kind = 9 ∨ o.kind = 10 ∨ o.kind = 11
   ·rw [Ms.do_node hN]
    exact h1.node hc (by show m.now.toNat ≤ _; omega) ho hN
   ·rw [Ms.do_none hF hT hN]
    exact h1.mono (Nat.le_succ c)
def Ms.Same (m m' : Ms) : Prop := m'.now = m.now ∧ m'.sts.map (·.addr) = m.sts.map (·.addr)
theorem Ms.Same.did {m m' : Ms} {i d n : Nat} (hD : m.Did m' i d n) : m.Same m' := ⟨hD.kept.now, hD.kept.addrs⟩
theorem Ms.Same.mod {m : Ms} {i : Nat} {f : Sta → Sta} (hf : ∀ s, (f s).addr = s.addr) : m.Same (m.mod i f) := ⟨rfl, (Ms.Kept.mod (i := i) hf).addrs⟩
theorem Ms.Fine.frame_same {m : Ms} {c : Nat} (h : m.Fine c) (o : OpD) (k : Nat) : m.Same (m.frame o k) := by
 unfold Ms.frame
 cases hf : m.air[k]? with
 | none => exact ⟨rfl, rfl⟩
 | some f =>
  simp only
  split
  ·cases hs : m.sts[f.dst]? with
   | none => exact ⟨rfl, rfl⟩
   | some s =>
    simp only [Option.bind_some]
    cases ht : s.node with
    | none => exact ⟨rfl, rfl⟩
    | some t =>
     have hso := h.sound _ s hs
     have hrt := (hso.node t ht).1
     have hw := hrt.wentRcv m.now (((m.sts[f.src]?).map fun x : Sta => x.addr).getD 0) f.bytes
     have hD := Ms.Did.run (m := { m with air := m.air.eraseIdx k }) (i := f.dst) (Ms.Did.emit (Ms.mod_at hs) (hso.says ht hw) hw.pks.le)
     exact ⟨hD.kept.now, hD.kept.addrs⟩
  ·split
   ·exact ⟨rfl, rfl⟩
   ·split
    ·exact ⟨rfl, rfl⟩
    ·split
     ·exact ⟨rfl, rfl⟩
     ·exact ⟨rfl, rfl⟩
theorem Ms.Fine.node_same {m : Ms} {c : Nat} (h : m.Fine c) (hn : m.now.toNat ≤ 4611686018427387904) {o : OpD} (hk : o.kind = 1 ∨ o.kind = 2 ∨ o.kind = 8 ∨ o.kind = 9 ∨ o.kind = 10 ∨ o.kind = 11) : m.Same (m.nodeOp o) := by
 cases hb : m.bars o with
 | true => rw [Ms.nodeOp_bar hb]; exact ⟨rfl, rfl⟩
 | false =>
  obtain ⟨i, s, e1, hs, hw, hj⟩ := Ms.bars_false hb
  have hat : m.at_ o.a = some s := by rw [e1, m.at_nat]; exact hs
  have hso := h.sound i s hs
  rcases hk with hk | hk | hk | hk | hk | hk
  ·rw [Ms.nodeOp_link hb hk]
   split <;> exact ⟨rfl, rfl⟩
  ·obtain ⟨j, s2, e2, hs2⟩ := hj (.inr (.inl hk))
   cases ht : s.node with
   | none => rw [ht, hk] at hw; exact absurd (hw (by decide)) (fun h : true = false => by cases h)
   | some t =>
    rw [Ms.nodeOp_send hb hk hat ht (by rw [e2, m.at_nat]; exact hs2)]
    split
    ·rename_i he
     have hrt := (hso.node t ht).1
     have hw := hrt.wentSend hn s2.addr o.text (by unfold Nd.sendE at he; split at he; cases he; omega)
     rw [e1, Int.toNat_natCast]
     exact Ms.Same.did (Ms.Did.run (Ms.Did.emit (Ms.mod_at hs) ((hso.mono (Nat.le_succ c)).says ht hw) hw.pks.le))
    ·exact ⟨rfl, rfl⟩
  ·obtain ⟨j, s2, e2, hs2⟩ := hj (.inr (.inr hk))
   cases ht : s.node with
   | none => rw [ht, hk] at hw; exact absurd (hw (by decide)) (fun h : true = false => by cases h)
   | some t =>
    rw [Ms.nodeOp_rcv hb hk hat ht (by rw [e2, m.at_nat]; exact hs2)]
    have hrt := (hso.node t ht).1
    have hw := hrt.wentRcv m.now s2.addr o.text
    rw [e1, Int.toNat_natCast]
    exact Ms.Same.did (Ms.Did.run (Ms.Did.emit (Ms.mod_at hs) (hso.says ht hw) hw.pks.le))
  ·rw [Ms.nodeOp_stop hb hk]
   exact Ms.Same.mod fun _ => rfl
  ·rw [Ms.nodeOp_arm hb hk]
   exact Ms.Same.mod fun _ => rfl
  ·rw [Ms.nodeOp_boot hb hk hat, e1, Int.toNat_natCast]
   have hD := Ms.Did.emit (m := m.mod i (Sta.boot m.now)) (i := i) (c := c) (o := Nd.newO s.addr s.journal m.now) (Ms.mod_at (f := Sta.boot m.now) hs) (hso.boot m.now) (by rw [(Nd.new_frames s.addr s.journal m.now).1]; simp)
   have hk2 : m.Kept (m.mod i (Sta.boot m.now)) i := Ms.Kept.mod (fun _ => rfl)
   exact ⟨(hk2.trans hD.kept).now, (hk2.trans hD.kept).addrs⟩
theorem Ms.Fine.do_same {m : Ms} {c : Nat} (h : m.Fine c) (hc : c ≤ 8500) (hn : m.now.toNat + 60000 ≤ 4611686018427387904) (o : OpD) : (m.do_ o).now.toNat ≤ m.now.toNat + 60000 ∧ (m.do_ o).sts.map (·.addr) = m.sts.map (·.addr) := by
 have h1 := h.clear
 have fin : ∀ m', Ms.Same { m with evs := [] } m' → m'.now.toNat ≤ m.now.toNat + 60000 ∧ m'.sts.map (·.addr) = m.sts.map (·.addr) := fun m' hs => ⟨by rw [hs.1]; exact Nat.le_add_right _ _, hs.2⟩
 by_cases hF : o.kind = 4 ∨ o.kind = 5 ∨ o.kind = 6 ∨ o.kind = 7
 ·rw [Ms.do_frame hF]
  split
  ·exact fin _ (h1.frame_same _ _)
  ·exact fin _ ⟨rfl, rfl⟩
 ·by_cases hT : o.kind = 3
  ·rw [Ms.do_tick hT]
   split
   ·rename_i hr
    have h2 : (UInt64.ofNat o.n.toNat).toNat ≤ 60000 := by
     rw [UInt64.toNat_ofNat']
     exact Nat.le_trans (Nat.mod_le _ _) (by omega)
    have h3 : (m.now + UInt64.ofNat o.n.toNat).toNat ≤ m.now.toNat + 60000 := by
     rw [UInt64.toNat_add]
     exact Nat.le_trans (Nat.mod_le _ _) (by omega)
    have h4 : Ms.Fine { m with now := m.now + UInt64.ofNat o.n.toNat, evs := [] } c := ⟨h.short, h.sound, ⟨h.air.few, h.air.each⟩⟩
    have hT := Ms.tickN_told h4 hc (by show (m.now + UInt64.ofNat o.n.toNat).toNat ≤ _; omega) m.sts.length (Nat.le_refl _)
    refine ⟨?_, hT.addrs⟩
    show (Ms.tickN m.sts.length { m with now := m.now + UInt64.ofNat o.n.toNat, evs := [] }).now.toNat ≤ _
    rw [hT.now]
    exact h3
   ·exact fin _ ⟨rfl, rfl⟩
  ·by_cases hN : o.kind = 1 ∨ o.kind = 2 ∨ o.kind = 8 ∨ o.kind = 9 ∨ o.kind = 10 ∨ o.kind = 11
   ·rw [Ms.do_node hN]
    exact fin _ (h1.node_same (by show m.now.toNat ≤ _; omega) hN)
   ·rw [Ms.do_none hF hT hN]
    exact fin _ ⟨rfl, rfl⟩
theorem Ms.new_fine {l : List UInt32} (h : l.length ≤ 6) : (Ms.new l).Fine 0 := by
 refine ⟨by show (l.map newSta).length ≤ 6; simpa using h, fun i s hs => ?_, ⟨by show ([] : List Fl).length ≤ 48; simp, fun f hf => by cases hf⟩⟩
 have hs' : (l.map newSta)[i]? = some s := hs
 rw [List.getElem?_map] at hs'
 cases hq : l[i]? with
 | none => rw [hq] at hs'; cases hs'
 | some a => rw [hq] at hs'; cases hs'; exact newSta_sound a
end

section
open Go.RowKit
theorem Q_convT32 {P : Program} {n : Frm} {w0 : World} {E : Env} {H : HProp} {d : Option Tmp} {ty : TypeId} {pos : String} {after : Array Edge} {gu : Option (Nat × Bool)} {x : Operand} {src t : TypeId} {m : Int} {ds : TypeDesc} (k : Nat) (hx : E.ev x = some (.int .i64 m)) (hm : m = (k : Int)) (hk : k ≤ 1000000) (hs : Und P src ds) (hd : Und P t (.int .u32)) : OpQ P n w0 ⟨d, .convert src t x, ty, pos, after, gu⟩ E H (u32 (UInt32.ofNat k)) :=
 Q_convI hx hs hd (by
  subst hm
  rw [wrap_u32, UInt32.toNat_ofNat', Nat.mod_eq_of_lt (by omega)]
  omega)
def adr (i : Nat) : UInt32 := UInt32.ofNat (10 * i + 10)
def adrs (q : Nat) : List UInt32 := (List.range q).map adr
theorem adrs_len (q : Nat) : (adrs q).length = q := by simp [adrs]
theorem adrs_succ (q : Nat) : adrs (q + 1) = adrs q ++ [adr q] := by simp [adrs, List.range_succ]
theorem adr_toNat {i : Nat} (hi : i ≤ 1000) : (adr i).toNat = 10 * i + 10 := by
 unfold adr
 rw [UInt32.toNat_ofNat', Nat.mod_eq_of_lt (by omega)]
theorem adr_inj {i j : Nat} (hi : i ≤ 1000) (hj : j ≤ 1000) (h : adr i = adr j) : i = j := by
 have h2 := congrArg UInt32.toNat h
 rw [adr_toNat hi, adr_toNat hj] at h2
 omega
theorem adr_ne {i : Nat} (hi : i ≤ 1000) : adr i ≠ 0 := fun h => by
 have h2 := congrArg UInt32.toNat h
 rw [adr_toNat hi] at h2
 have h3 : (0 : UInt32).toNat = 0 := rfl
 omega
theorem adrs_nodup {q : Nat} (hq : q ≤ 1000) : (adrs q).Nodup := by
 induction q with
 | zero => exact List.nodup_nil
 | succ q ih =>
  rw [adrs_succ]
  refine List.nodup_append.2 ⟨ih (by omega), by simp, fun a ha b hb => ?_⟩
  simp at hb
  subst hb
  rintro rfl
  simp only [adrs, List.mem_map, List.mem_range] at ha
  obtain ⟨i, hi, e⟩ := ha
  have := adr_inj (by omega) (by omega) e
  omega
attribute [local irreducible] WS LS OpQ OpT OpH OpTQ Spec SpecQ cel
variable (w0 : World)
theorem keepPick_spec (n m : Int) (hn : -9223372036854775808 ≤ n ∧ n ≤ 9223372036854775807) (hm : 0 < m ∧ m ≤ 1000) : Spec Tryz.prog w0 17 [.int .i64 n, .int .i64 m] emp (fun _ : Unit => .int .i64 ((if n < 0 then -(n + 1) else n) % m)) (fun _ => emp) := by
  refine Spec.enter Tryz.func17 rfl Tryz.ntmps17 rfl fun G => ?_
  simp only [argE]
  by_cases h : n < 0
  · rw [if_pos h]
    repeat' (first | (refine WS_seqK ?_; intro K hK) | (refine hK _ ?_; clear hK K) | refine stZ ?_ | (refine s2Z ?_ ?_ <;> intro hc <;> (try simp only [cS] at hc) <;> (try (exfalso; first | contradiction | omega))) | refine sbZ ?_ | refine sqZ ?_ | ((refine' LQ ?zh rfl ?_); case zh => intro F'; first | exact Q_remI rfl rfl (by omega) | exact Q_negI rfl (by omega)))
    exact ret_tmp (.inl rfl) rfl rfl ⟨(), rfl, finE⟩
  · rw [if_neg h]
    repeat' (first | (refine WS_seqK ?_; intro K hK) | (refine hK _ ?_; clear hK K) | refine stZ ?_ | (refine s2Z ?_ ?_ <;> intro hc <;> (try simp only [cS] at hc) <;> (try (exfalso; first | contradiction | omega))) | refine sbZ ?_ | refine sqZ ?_ | ((refine' LQ ?zh rfl ?_); case zh => intro F'; exact Q_remI rfl rfl (by omega)))
    exact ret_tmp (.inl rfl) rfl rfl ⟨(), rfl, finE⟩
set_option maxRecDepth 100000 in
theorem keepRow_spec (q : Nat) (hq : 0 < q ∧ q ≤ 6) : Spec Tryz.prog w0 18 [.int .i64 (q : Int)] emp (fun x : Nat × MH => ptr x.1 0) (fun x => mshI x.1 x.2 (Ms.new (adrs q))) := by
  refine Spec.enter Tryz.func18 rfl Tryz.ntmps18 rfl fun G => ?_
  simp only [argE]
  repeat' (first | (refine WS_seqK ?_; intro K hK) | (refine hK _ ?_; clear hK K) | refine stZ ?_ | refine sqZ ?_)
  refine WS_loop (fun kk τ => ∃ (i : Nat) (v : Value), i + kk = q ∧ τ = ⟨[(4, .int .i64 (i : Int)), (3, v), (0, .int .i64 (q : Int))], [], rows 26 1 wordC v (adrs i) * G⟩) ?_ ?_
  · exact ⟨q, _, ⟨0, .slice none 0 0, by omega, rfl⟩, ⟨rfl, rfl, rfl, trivial⟩, rfl, by show Ent (emp * G) (rows 26 1 wordC (.slice none 0 0) [] * G); exact finE⟩
  · rintro kk τ ⟨i, v, hik, rfl⟩
    have hlen := adrs_len i
    rcases Nat.lt_or_ge i q with hlt | hge
    · have h1 : (i : Int) < (q : Int) := by omega
      repeat' (first | (refine WS_seqK ?_; intro K hK) | (refine hK _ ?_; clear hK K) | refine stZ ?_ | (refine s2Z ?_ ?_ <;> intro hc <;> (try simp only [cS] at hc) <;> (try (exfalso; first | contradiction | omega))) | refine sbZ ?_ | refine sqZ ?_ | (refine' LQ ?zh rfl ?_; (case zh => intro F'; exact Q_convT32 (10 * i + 10) rfl (by omega) (by omega) iI iI)) | (refine LS_h (H_buildSliceR wordC [adr i] iI iI iI rfl rfl rfl rfl rfl iI rfl rfl rfl) rfl ?_; intro vx) | (refine LS_h (H_appendR rfl rfl iI iI rfl iI iI wordC_one (by simp only [List.length_cons, List.length_nil]; omega) rfl) rfl ?_; intro va))
      refine ⟨kk - 1, _, by omega, ⟨i + 1, va, by omega, rfl⟩, ⟨rfl, rfl, rfl, trivial⟩, rfl, ?_⟩
      rw [adrs_succ]
      exact finE
    · obtain rfl : i = q := by omega
      have h1 : ¬ (i : Int) < (i : Int) := by omega
      have p1 := mnewM_spec w0 (adrs i) (by omega) (fun a ha => by
        simp only [adrs, List.mem_map, List.mem_range] at ha
        obtain ⟨j, hj, rfl⟩ := ha
        exact adr_ne (by omega)) (adrs_nodup (by omega)) v (rows 26 1 wordC v (adrs i))
      repeat' (first | (refine WS_seqK ?_; intro K hK) | (refine hK _ ?_; clear hK K) | refine stZ ?_ | (refine s2Z ?_ ?_ <;> intro hc <;> (try simp only [cS] at hc) <;> (try (exfalso; first | contradiction | omega))) | refine sbZ ?_ | refine sqZ ?_ | (refine LS_h (H_callX iI rfl p1 iI) rfl ?_; intro x))
      exact ret_tmp (.inl rfl) rfl rfl ⟨x, rfl, finE⟩
end

section
open Go.RowKit
structure BndI (q i : Nat) (m : Ms) : Prop where
  fine : m.Fine i
  now : m.now.toNat ≤ i * 60000
  addrs : m.sts.map (·.addr) = (List.range q).map adr
theorem BndI.new {q : Nat} (hq : q ≤ 6) : BndI q 0 (Ms.new (adrs q)) := by
 refine ⟨Ms.new_fine (by rw [adrs_len]; exact hq), by show (0 : UInt64).toNat ≤ _; simp, ?_⟩
 show ((adrs q).map newSta).map (·.addr) = _
 rw [List.map_map]
 show (adrs q).map (fun a => a) = _
 simp [adrs]
theorem BndI.step {q i : Nat} {m : Ms} (h : BndI q i m) (hi : i < 4096) {o : OpD} (ho : o.Ok) : BndI q (i + 1) (m.do_ o) := by
 have hn := h.now
 have h1 := h.fine.do_ (by omega) (by omega) ho
 have h2 := h.fine.do_same (by omega) (by omega) o
 exact ⟨h1, by omega, h2.2.trans h.addrs⟩
theorem BndI.skip {q i : Nat} {m : Ms} (h : BndI q i m) : BndI q (i + 1) m := ⟨h.fine.mono (Nat.le_succ i), Nat.le_trans h.now (Nat.mul_le_mul_right _ (Nat.le_succ i)), h.addrs⟩
end

section
def Ms.At (m : Ms) (i : Nat) (t : Nd) : Prop := ∃ s, m.sts[i]? = some s ∧ s.node = some t ∧ s.armed = false ∧ s.addr = adr i
def fanF (m : Ms) (i : Nat) (f : UInt32 × Str) : List Fl := if f.1 = 0 then ((List.range m.sts.length).filter fun j => m.hear i j).map fun j => ⟨i, j, f.2⟩ else [⟨i, (stFind m.sts f.1).getD 0, f.2⟩]
theorem fly_air {m : Ms} {f : Fl} (h : m.air.length < 48) : m.fly f = { m with air := m.air ++ [f] } := by
 unfold Ms.fly
 rw [if_neg (by simp; omega)]
theorem cast_air {i : Nat} {b : Str} {m : Ms} : ∀ k, m.air.length + k ≤ 48 → Ms.castN i b k m = { m with air := m.air ++ ((List.range k).filter fun j => m.hear i j).map fun j => ⟨i, j, b⟩ }
 | 0, _ => by simp [Ms.castN]
 | k + 1, hk => by
  have ih := cast_air (i := i) (b := b) (m := m) k (by omega)
  unfold Ms.castN
  rw [ih]
  have hl : (((List.range k).filter fun j => m.hear i j).map fun j => (⟨i, j, b⟩ : Fl)).length ≤ k := by
   rw [List.length_map]
   exact Nat.le_trans (List.length_filter_le _ _) (by simp)
  have hh : Ms.hear { m with air := m.air ++ ((List.range k).filter fun j => m.hear i j).map fun j => (⟨i, j, b⟩ : Fl) } i k = m.hear i k := rfl
  rw [hh, List.range_succ, List.filter_append, List.map_append]
  by_cases h : m.hear i k = true
  ·rw [if_pos h, fly_air (by show (m.air ++ _).length < 48; rw [List.length_append]; omega)]
   simp [List.filter_cons, h]
  ·rw [if_neg h]
   simp [List.filter_cons, h]
def FrameOk (m : Ms) (i : Nat) (f : UInt32 × Str) : Prop := f.1 = 0 ∨ ∃ j, stFind m.sts f.1 = some j ∧ m.hear i j = true
theorem frameO_ok {m : Ms} {i : Nat} {sub : Ms → OutD → Ms} {f : UInt32 × Str} (h : FrameOk m i f) (hl : m.air.length + m.sts.length ≤ 48) (h0 : 0 < m.sts.length) : Ms.frameO sub i m f = { m with air := m.air ++ fanF m i f } := by
 unfold Ms.frameO fanF
 rcases h with h | ⟨j, h1, h2⟩
 ·rw [if_pos h, if_pos h]
  exact cast_air _ hl
 ·by_cases h : f.1 = 0
  ·rw [if_pos h, if_pos h]
   exact cast_air _ hl
  ·rw [if_neg h, if_neg h, h1]
   simp only [Option.map_some, h2]
   rw [if_pos trivial, fly_air (by omega)]
structure Spoke (m m' : Ms) (i : Nat) (t : Nd) : Prop where
  now : m'.now = m.now
  hears : m'.hears = m.hears
  addrs : m'.sts.map (·.addr) = m.sts.map (·.addr)
  here : m'.At i t
  others : ∀ j u, j ≠ i → (m'.At j u ↔ m.At j u)
  air : m'.air = m.air ++ t.out.frames.flatMap (fanF m i)
  evs : m'.evs = m.evs ++ (if t.out.none then [] else [⟨i, 0, t.out⟩])
theorem stFind_addrs : ∀ {a b : List Sta}, a.map (·.addr) = b.map (·.addr) → ∀ x, stFind a x = stFind b x
 | [], [], _, _ => rfl
 | [], _ :: _, h, _ => by simp at h
 | _ :: _, [], h, _ => by simp at h
 | s :: a, t :: b, h, x => by
  simp only [List.map_cons, List.cons.injEq] at h
  unfold stFind
  rw [h.1, stFind_addrs h.2 x]
theorem fanF_same {m m' : Ms} (h : m'.hears = m.hears) (ha : m'.sts.map (·.addr) = m.sts.map (·.addr)) (i : Nat) (f : UInt32 × Str) : fanF m' i f = fanF m i f := by
 have hl : m'.sts.length = m.sts.length := by have := congrArg List.length ha; simpa using this
 unfold fanF Ms.hear
 rw [h, hl, stFind_addrs ha]
theorem emit_spoke {m : Ms} {i : Nat} {s0 t : Nd} (h0 : m.At i s0) (hf : t.out.frames = [] ∨ ∃ f, t.out.frames = [f] ∧ FrameOk m i f) (hl : m.air.length + m.sts.length ≤ 48) : Spoke m (Ms.emit i (m.mod i (·.run t)) t.out) i t := by
 obtain ⟨s, hs, hn, ha, hd⟩ := h0
 have hm1 : (m.mod i (·.run t)).sts[i]? = some (s.run t) := Ms.mod_at hs
 have hk1 : m.Kept (m.mod i (·.run t)) i := Ms.Kept.mod fun _ => rfl
 have hlen := hk1.length
 have hpos : 0 < m.sts.length := by have := (List.getElem?_eq_some_iff.1 hs).1; omega
 have other : ∀ (m2 : Ms), m.Kept m2 i → ∀ j u, j ≠ i → (m2.At j u ↔ m.At j u) := fun m2 hk j u hj => by unfold Ms.At; rw [hk.other j hj]
 unfold Ms.emit Ms.emitR
 cases hno : t.out.none with
 | true =>
  rw [if_pos rfl]
  have hfr : t.out.frames = [] := by
   simp only [OutD.none, Bool.and_eq_true, List.isEmpty_iff] at hno
   exact hno.1.1.2
  exact ⟨rfl, rfl, hk1.addrs, ⟨_, hm1, rfl, ha, hd⟩, other _ hk1, by rw [hfr]; simp; rfl, by rw [hno]; simp; rfl⟩
 | false =>
  rw [if_neg (by decide), hm1]
  simp only
  rw [if_neg (by show ¬ ((s.run t).armed && _) = true; rw [show (s.run t).armed = false from ha]; simp)]
  have hk2 : m.Kept (((m.mod i (·.run t)).mod i (·.write t.out)).event ⟨i, 0, t.out⟩) i := Ms.Kept.trans (m1 := (m.mod i (·.run t)).mod i (·.write t.out)) (hk1.trans (Ms.Kept.mod fun _ => rfl)) ⟨rfl, rfl, rfl, fun _ _ => rfl⟩
  have hat2 : (((m.mod i (·.run t)).mod i (·.write t.out)).event ⟨i, 0, t.out⟩).sts[i]? = some ((s.run t).write t.out) := Ms.mod_at hm1
  have hair2 : (((m.mod i (·.run t)).mod i (·.write t.out)).event ⟨i, 0, t.out⟩).air = m.air := rfl
  have hev2 : (((m.mod i (·.run t)).mod i (·.write t.out)).event ⟨i, 0, t.out⟩).evs = m.evs ++ [⟨i, 0, t.out⟩] := rfl
  generalize ((m.mod i (·.run t)).mod i (·.write t.out)).event ⟨i, 0, t.out⟩ = m2 at *
  have hlen2 := hk2.length
  have hh2 := hk2.hears
  rcases hf with hf | ⟨f, hf, hok⟩
  ·rw [hf]
   simp only [List.foldl_nil, List.flatMap_nil, List.append_nil]
   exact ⟨hk2.now, hh2, hk2.addrs, ⟨_, hat2, rfl, ha, hd⟩, other _ hk2, by rw [hf]; simpa using hair2, by rw [hno]; exact hev2⟩
  ·rw [hf]
   simp only [List.foldl_cons, List.foldl_nil]
   have hok2 : FrameOk m2 i f := by
    rcases hok with h | ⟨j, h1, h2⟩
    ·exact .inl h
    ·exact .inr ⟨j, by rw [stFind_addrs hk2.addrs]; exact h1, by unfold Ms.hear; rw [hh2]; exact h2⟩
   rw [frameO_ok hok2 (by rw [hair2, hlen2]; exact hl) (by omega)]
   refine ⟨hk2.now, hh2, hk2.addrs, ⟨_, hat2, rfl, ha, hd⟩, fun j u hj => (other m2 hk2 j u hj), ?_, by rw [hno]; exact hev2⟩
   rw [hf]
   show m2.air ++ fanF m2 i f = _
   rw [hair2, fanF_same hh2 hk2.addrs]
   simp
theorem deliver_spoke {m : Ms} {k : Nat} {f : Fl} {s t : Nd} (hk : m.air[k]? = some f) (hs : m.At f.dst s) (hx : ∃ u, m.At f.src u) (ht : t = s.rcvF m.now (adr f.src) f.bytes) (hf : t.out.frames = [] ∨ ∃ g, t.out.frames = [g] ∧ FrameOk m f.dst g) (hl : m.air.length + m.sts.length ≤ 48) {o : OpD} (ho : o.kind = 4) (hoa : o.a = (k : Int)) : Spoke { m with air := m.air.eraseIdx k, evs := [] } (m.do_ o) f.dst t := by
 have hlt := (List.getElem?_eq_some_iff.1 hk).1
 unfold Ms.do_
 rw [if_pos (.inl ho), if_pos ⟨by omega, by omega⟩]
 have e1 : o.a.toNat % m.air.length = k := by rw [hoa]; simp; exact Nat.mod_eq_of_lt hlt
 rw [e1]
 unfold Ms.frame
 have e2 : ({ m with evs := [] } : Ms).air[k]? = some f := hk
 rw [e2]
 simp only
 rw [if_pos ho]
 obtain ⟨s1, a1, a2, a3, a4⟩ := hs
 obtain ⟨u, s2, b1, b2, b3, b4⟩ := hx
 have e3 : (({ m with evs := [] } : Ms).sts[f.dst]?).bind (·.node) = some s := by
  show (m.sts[f.dst]?).bind (·.node) = some s
  rw [a1]; exact a2
 rw [e3]
 simp only
 have e4 : ((m.sts[f.src]?).map fun x : Sta => x.addr).getD 0 = adr f.src := by rw [b1]; exact b4
 rw [e4, ← ht]
 have hlen : (m.air.eraseIdx k).length ≤ m.air.length := by rw [List.length_eraseIdx]; split <;> omega
 exact emit_spoke (m := { m with air := m.air.eraseIdx k, evs := [] }) (s0 := s) ⟨s1, a1, a2, a3, a4⟩ hf (by show (m.air.eraseIdx k).length + m.sts.length ≤ 48; omega)
theorem stFind_at {m : Ms} {q : Nat} (hq : q ≤ 1000) (ha : m.sts.map (·.addr) = (List.range q).map adr) {j : Nat} (hj : j < q) : stFind m.sts (adr j) = some j := by
 have key : ∀ (l : List Sta) (o n : Nat), o + n ≤ 1000 → l.map (·.addr) = (List.range' o n).map adr → ∀ j, o ≤ j → j < o + n → stFind l (adr j) = some (j - o) := by
  intro l
  induction l with
  | nil =>
   intro o n _ h j h1 h2
   cases n with
   | zero => omega
   | succ n => simp [List.range'_succ] at h
  | cons s l ih =>
   intro o n hb h j h1 h2
   cases n with
   | zero => omega
   | succ n =>
    rw [List.range'_succ] at h
    simp only [List.map_cons, List.cons.injEq] at h
    unfold stFind
    by_cases e : o = j
    ·subst e
     rw [if_pos h.1]; simp
    ·rw [if_neg (by rw [h.1]; exact fun e' => e (adr_inj (by omega) (by omega) e')), ih (o + 1) n (by omega) h.2 j (by omega) (by omega)]
     simp only [Option.map_some, Option.some.injEq]
     omega
 rw [List.range_eq_range'] at ha
 have := key m.sts 0 q (by omega) ha j (by omega) (by omega)
 simpa using this
end

section
def cntN (d : Nat → Option Nat) (q : Nat) : Nat := (List.range q).countP fun i => (d i).isNone
def upd {α : Type} (d : Nat → α) (y : Nat) (v : α) : Nat → α := fun i => if i = y then v else d i
theorem upd_at {α : Type} (d : Nat → α) (y : Nat) (v : α) : upd d y v y = v := if_pos rfl
theorem upd_ne {α : Type} (d : Nat → α) {y i : Nat} (v : α) (h : i ≠ y) : upd d y v i = d i := if_neg h
theorem cntN_succ (d : Nat → Option Nat) (q : Nat) : cntN d (q + 1) = cntN d q + if (d q).isNone then 1 else 0 := by
 unfold cntN
 rw [List.range_succ, List.countP_append, List.countP_cons, List.countP_nil]
 omega
theorem cntN_upd_ge (d : Nat → Option Nat) (h : Nat) : ∀ (q y : Nat), q ≤ y → cntN (upd d y (some h)) q = cntN d q
 | 0, _, _ => rfl
 | q + 1, y, hy => by rw [cntN_succ, cntN_succ, cntN_upd_ge d h q y (by omega), upd_ne d _ (by omega)]
theorem cntN_upd {d : Nat → Option Nat} {h : Nat} : ∀ {q y : Nat}, y < q → d y = none → cntN (upd d y (some h)) q + 1 = cntN d q
 | 0, _, hy, _ => absurd hy (Nat.not_lt_zero _)
 | q + 1, y, hy, hd => by
  rw [cntN_succ, cntN_succ]
  by_cases e : y = q
  ·subst e
   rw [cntN_upd_ge d h y y (Nat.le_refl _), upd_at, hd]
   simp
  ·have ih := cntN_upd (h := h) (q := q) (y := y) (by omega) hd
   rw [upd_ne d _ (Ne.symm e)]
   omega
theorem cntN_le (d : Nat → Option Nat) (q : Nat) : cntN d q ≤ q := by
 unfold cntN
 have := List.countP_le_length (p := fun i => (d i).isNone) (l := List.range q)
 simpa using this
section
variable {q a b : Nat} {H : Nat → Nat → Bool} {tx : Str}
structure Turn where
  r : Nat
  T : Nat
  tau : Nat
  due : Nat
structure IsRq (q a b : Nat) (H : Nat → Nat → Bool) (w : Turn) (d : Nat → Option Nat) (f : Fl) : Prop where
  src : f.src < q
  dst : f.dst < q
  ne : f.src ≠ f.dst
  hear : H f.src f.dst = true
  offb : f.src ≠ b
  dist : ∃ h, d f.src = some h ∧ h + 1 ≤ w.tau ∧ f.bytes = (rqP (adr a) (adr b) ((w.tau - h : Nat) : Int) (h : Int) (UInt32.ofNat w.r) (UInt32.ofNat (w.r + 1))).out
structure Tree (q a b : Nat) (H : Nat → Nat → Bool) (w : Turn) (nd : Nat → Nd) (d : Nat → Option Nat) : Prop where
  root : d a = some 0
  pn : ∀ i, i < q → i ≠ a → PN (adr a) (adr b) (adr i) w.r (nd i)
  raw : ∀ i, i < q → i ≠ a → d i = none → Raw (adr a) (adr b) w.r (nd i)
  node : ∀ i h, i < q → i ≠ a → d i = some h → ∃ j, Knows (adr a) w.r w.T h (adr j) (nd i) ∧ j < q ∧ j ≠ i ∧ H i j = true ∧ 1 ≤ h ∧ h ≤ w.tau ∧ d j = some (h - 1)
theorem Tree.chain {w : Turn} {nd : Nat → Nd} {d : Nat → Option Nat} (t : Tree q a b H w nd d) : ∀ (h i : Nat), i < q → d i = some h → ∃ l : List Nat, l.length = h + 1 ∧ l.Nodup ∧ ∀ x ∈ l, x < q ∧ ∃ g, d x = some g ∧ g ≤ h
 | 0, i, hi, hd => ⟨[i], rfl, by simp, fun x hx => by simp at hx; subst hx; exact ⟨hi, 0, hd, Nat.le_refl _⟩⟩
 | h + 1, i, hi, hd => by
  have hia : i ≠ a := fun e => by rw [e, t.root] at hd; cases hd
  obtain ⟨j, _, hj, _, _, _, _, hdj⟩ := t.node i (h + 1) hi hia hd
  obtain ⟨l, l1, l2, l3⟩ := Tree.chain t h j hj hdj
  refine ⟨i :: l, by simp [l1], ?_, ?_⟩
  ·rw [List.nodup_cons]
   refine ⟨fun hm => ?_, l2⟩
   obtain ⟨_, g, g1, g2⟩ := l3 i hm
   rw [hd] at g1; cases g1; omega
  ·intro x hx
   rcases List.mem_cons.1 hx with rfl | hx
   ·exact ⟨hi, h + 1, hd, Nat.le_refl _⟩
   ·obtain ⟨a1, g, a2, a3⟩ := l3 x hx
    exact ⟨a1, g, a2, by omega⟩
theorem Tree.dist {w : Turn} {nd : Nat → Nd} {d : Nat → Option Nat} (t : Tree q a b H w nd d) {h i : Nat} (hi : i < q) (hd : d i = some h) : h + 1 ≤ q := by
 obtain ⟨l, l1, l2, l3⟩ := t.chain h i hi hd
 have hs : l ⊆ List.range q := fun x hx => List.mem_range.2 (l3 x hx).1
 have := List.Nodup.length_le_of_subset l2 hs
 simp at this
 omega
structure Way (q a b : Nat) (H : Nat → Nat → Bool) (nd : Nat → Nd) (d e : Nat → Option Nat) (low : Nat) : Prop where
  root : e b = some 0
  offa : e a = none
  high : ∀ i, i < q → ∀ k, e i = some k → ∃ h, d i = some h ∧ low < h
  bare : ∀ i, i < q → i ≠ a → e i = none → viewT (nd i).ls (adr b) = none
  node : ∀ i k, i < q → i ≠ b → e i = some k → ∃ bq j, viewT (nd i).ls (adr b) = some (bq, (k : Int), adr j) ∧ j < q ∧ j ≠ i ∧ H i j = true ∧ 1 ≤ k ∧ e j = some (k - 1)
inductive Tok (q a b : Nat) (H : Nat → Nat → Bool) (tx : Str) (w : Turn) (nd : Nat → Nd) (d e : Nat → Option Nat) : Nat → Nat → List Fl → Prop
 | ask : AW (adr a) (adr b) tx w.r w.tau w.due (nd a) → d b = none → (∀ i, i < q → i ≠ a → viewT (nd i).ls (adr b) = none) → Tok q a b H tx w nd d e 0 20 []
 | rep {k hy x y : Nat} {bq : UInt32} : AW (adr a) (adr b) tx w.r w.tau w.due (nd a) → (d b).isSome = true → Way q a b H nd d e hy → x < q → y < q → x ≠ y → H x y = true → e x = some k → d y = some hy → k + hy ≤ 7 →
   Tok q a b H tx w nd d e 1 (10 + hy) [⟨x, y, (rpP (adr a) (adr b) (k : Int) bq).out⟩]
 | dat {k hy x y : Nat} : AD (adr a) (adr b) (nd a) → (d b).isSome = true → Way q a b H nd d e 0 → x < q → y < q → x ≠ y → H x y = true → e y = some hy → k + hy ≤ 7 →
   Tok q a b H tx w nd d e 2 (1 + hy) [⟨x, y, (dtP (adr a) (adr b) (k : Int) tx).out⟩]
 | done : AD (adr a) (adr b) (nd a) → (d b).isSome = true → Tok q a b H tx w nd d e 3 0 []
def Cover (q b : Nat) (H : Nat → Nat → Bool) (d : Nat → Option Nat) (rs : List Fl) : Prop := ∀ i, i < q → i ≠ b → (d i).isSome = true → ∀ j, j < q → H i j = true → (d j).isSome = true ∨ ∃ f ∈ rs, f.src = i ∧ f.dst = j
structure FloodX (q a b : Nat) (H : Nat → Nat → Bool) (tx : Str) (w : Turn) (ph mu : Nat) (m : Ms) (nd : Nat → Nd) (d e : Nat → Option Nat) (tk rs : List Fl) (mt : Nat) : Prop where
  at_ : ∀ i, i < q → m.At i (nd i)
  tree : Tree q a b H w nd d
  tok : Tok q a b H tx w nd d e ph mt tk
  air : m.air.Perm (tk ++ rs)
  rqs : ∀ f ∈ rs, IsRq q a b H w d f
  few : rs.length + 6 * cntN d q ≤ 36
  mu : mu = rs.length + 6 * cntN d q + mt
  cover : w.tau = 8 → Cover q b H d rs
structure Net (q : Nat) (H : Nat → Nat → Bool) (T : Nat) (m : Ms) : Prop where
  addrs : m.sts.map (·.addr) = (List.range q).map adr
  hear : ∀ i j, i < q → j < q → m.hear i j = H i j
  now : m.now.toNat = T
theorem Net.len {T : Nat} {m : Ms} (h : Net q H T m) : m.sts.length = q := by
 have := congrArg List.length h.addrs
 simpa using this
def Flood (q a b : Nat) (H : Nat → Nat → Bool) (tx : Str) (w : Turn) (ph mu : Nat) (m : Ms) : Prop := Net q H w.T m ∧ ∃ nd d e tk rs mt, FloodX q a b H tx w ph mu m nd d e tk rs mt
theorem Way.same {nd nd' : Nat → Nd} {d e : Nat → Option Nat} {low : Nat} (h : Way q a b H nd d e low) (hv : ∀ i, i < q → i ≠ a → viewT (nd' i).ls (adr b) = viewT (nd i).ls (adr b)) : Way q a b H nd' d e low := ⟨h.root, h.offa, h.high, fun i hi hia he => by rw [hv i hi hia]; exact h.bare i hi hia he, fun i k hi hib he => by
 have hia : i ≠ a := fun e0 => by rw [e0, h.offa] at he; cases he
 rw [hv i hi hia]; exact h.node i k hi hib he⟩
theorem Way.heard {nd : Nat → Nd} {d e : Nat → Option Nat} {low : Nat} (h : Way q a b H nd d e low) {y g : Nat} (hy : d y = none) : Way q a b H nd (upd d y (some g)) e low := ⟨h.root, h.offa, fun i hi k he => by
 obtain ⟨g', h1, h2⟩ := h.high i hi k he
 refine ⟨g', ?_, h2⟩
 rw [upd_ne _ _ (fun e0 => by rw [e0, hy] at h1; cases h1)]
 exact h1, h.bare, h.node⟩
theorem Tok.idle {w : Turn} {nd nd' : Nat → Nd} {d e : Nat → Option Nat} {ph mt : Nat} {tk : List Fl} (h : Tok q a b H tx w nd d e ph mt tk) (haw : AW (adr a) (adr b) tx w.r w.tau w.due (nd a) → AW (adr a) (adr b) tx w.r w.tau w.due (nd' a)) (had : AD (adr a) (adr b) (nd a) → AD (adr a) (adr b) (nd' a)) (hv : ∀ i, i < q → i ≠ a → viewT (nd' i).ls (adr b) = viewT (nd i).ls (adr b)) : Tok q a b H tx w nd' d e ph mt tk := by
 cases h with
 | ask h1 h2 h3 => exact .ask (haw h1) h2 fun i hi hia => by rw [hv i hi hia]; exact h3 i hi hia
 | rep h1 h2 h3 h4 h5 h6 h7 h8 h9 h10 => exact .rep (haw h1) h2 (h3.same hv) h4 h5 h6 h7 h8 h9 h10
 | dat h1 h2 h3 h4 h5 h6 h7 h8 h9 => exact .dat (had h1) h2 (h3.same hv) h4 h5 h6 h7 h8 h9
 | done h1 h2 => exact .done (had h1) h2
theorem Tree.same {w : Turn} {nd nd' : Nat → Nd} {d : Nat → Option Nat} (t : Tree q a b H w nd d) (h : ∀ i, i < q → i ≠ a → PN (adr a) (adr b) (adr i) w.r (nd' i) ∧ (Raw (adr a) (adr b) w.r (nd i) → Raw (adr a) (adr b) w.r (nd' i)) ∧ ∀ g n, Knows (adr a) w.r w.T g n (nd i) → Knows (adr a) w.r w.T g n (nd' i)) : Tree q a b H w nd' d := ⟨t.root, fun i hi hia => (h i hi hia).1, fun i hi hia hd => (h i hi hia).2.1 (t.raw i hi hia hd), fun i g hi hia hd => by
 obtain ⟨j, h1, h2⟩ := t.node i g hi hia hd
 exact ⟨j, (h i hi hia).2.2 _ _ h1, h2⟩⟩
theorem perm_erase {α : Type} : ∀ {l : List α} {k : Nat} {f : α}, l[k]? = some f → l.Perm (f :: l.eraseIdx k)
 | [], _, _, h => by simp at h
 | x :: l, 0, f, h => by simp at h; subst h; exact List.Perm.refl _
 | x :: l, k + 1, f, h => by
  have ih := perm_erase (l := l) (k := k) (f := f) (by simpa using h)
  exact (ih.cons x).trans (List.Perm.swap f x _)
end
end

section
section
variable {q a b : Nat} {H : Nat → Nat → Bool} {tx : Str}
structure Set0 (q a b : Nat) (H : Nat → Nat → Bool) (tx : Str) : Prop where
  hq : q ≤ 6
  ha : a < q
  hb : b < q
  ab : a ≠ b
  sym : ∀ i j, i < q → j < q → H i j = true → H j i = true
  irr : ∀ i, i < q → H i i = false
  htx : tx.length ≤ 16
theorem Set0.ne (g : Set0 q a b H tx) {i j : Nat} (hi : i < q) (hj : j < q) (h : i ≠ j) : adr i ≠ adr j := fun e => h (adr_inj (by have := g.hq; omega) (by have := g.hq; omega) e)
theorem Set0.nz (g : Set0 q a b H tx) {i : Nat} (hi : i < q) : adr i ≠ 0 := adr_ne (by have := g.hq; omega)
structure Turn.Ok (w : Turn) : Prop where
  r : w.r ≤ 4
  T : w.T ≤ 1500
  tau : 1 ≤ w.tau ∧ w.tau ≤ 8
def EvOk (a b : Nat) (tx : Str) (l : List Ev) (n : Nat) : Prop := (∀ e ∈ l, ∀ c ∈ e.out.came, e.node = (b : Int) ∧ c = (adr a, tx)) ∧ (l.map fun e => e.out.came.length).sum = n
theorem EvOk.none {y : Nat} {o : OutD} (h : o.came = []) : EvOk a b tx ([] ++ if o.none then [] else [⟨y, 0, o⟩]) 0 := by
 split
 ·exact ⟨fun e he => by simp at he, by simp⟩
 ·refine ⟨fun e he c hc => ?_, ?_⟩
  ·simp at he; subst he
   rw [h] at hc; cases hc
  ·simp [h]
theorem EvOk.one {o : OutD} (h : o.came = [(adr a, tx)]) : EvOk a b tx ([] ++ if o.none then [] else [⟨b, 0, o⟩]) 1 := by
 rw [if_neg (by simp [OutD.none, h])]
 refine ⟨fun e he c hc => ?_, by simp [h]⟩
 simp at he; subst he
 rw [h] at hc
 simp at hc
 exact ⟨rfl, hc⟩
theorem Spoke.net {T y : Nat} {m m' : Ms} {t : Nd} (h : Spoke m m' y t) (n : Net q H T m) : Net q H T m' := ⟨h.addrs.trans n.addrs, fun i j hi hj => by
 unfold Ms.hear; rw [h.hears]; exact n.hear i j hi hj, by rw [h.now]; exact n.now⟩
theorem Spoke.at_ {y : Nat} {m m' : Ms} {t : Nd} {nd : Nat → Nd} (h : Spoke m m' y t) (ha : ∀ i, i < q → m.At i (nd i)) : ∀ i, i < q → m'.At i (upd nd y t i) := fun i hi => by
 by_cases e : i = y
 ·subst e; rw [upd_at]; exact h.here
 ·rw [upd_ne _ _ e]; exact (h.others i _ e).2 (ha i hi)
theorem fan_cast {m : Ms} {T : Nat} (n : Net q H T m) {y : Nat} (hy : y < q) (x : Str) : fanF m y (0, x) = ((List.range q).filter fun j => H y j).map fun j => ⟨y, j, x⟩ := by
 unfold fanF
 rw [if_pos rfl, n.len]
 congr 1
 apply List.filter_congr
 intro j hj
 exact n.hear y j hy (List.mem_range.1 hj)
theorem fan_one {m : Ms} {T : Nat} (n : Net q H T m) (g : Set0 q a b H tx) {y j : Nat} (hj : j < q) (x : Str) : fanF m y (adr j, x) = [⟨y, j, x⟩] := by
 unfold fanF
 rw [if_neg (g.nz hj), stFind_at (by have := g.hq; omega) n.addrs hj]
 rfl
theorem frame_one {m : Ms} {T : Nat} (n : Net q H T m) (g : Set0 q a b H tx) {y j : Nat} (hy : y < q) (hj : j < q) (hh : H y j = true) (x : Str) : FrameOk m y (adr j, x) :=
 .inr ⟨j, stFind_at (by have := g.hq; omega) n.addrs hj, by rw [n.hear y j hy hj]; exact hh⟩
theorem FloodX.idle {w : Turn} {ph mu mt : Nat} {m m' m0 : Ms} {nd : Nat → Nd} {d e : Nat → Option Nat} {tk rs rs' : List Fl} {f : Fl} {t : Nd} (g : Set0 q a b H tx) (h : FloodX q a b H tx w ph mu m nd d e tk rs mt) {y : Nat} (hy : y < q)
  (hs : Spoke m0 m' y t) (h0 : ∀ i, i < q → m0.At i (nd i)) (hair : m0.air.Perm (tk ++ rs')) (hrs : rs.Perm (f :: rs')) (hdst : f.dst = y) (hk : Idly (nd y) t m.now) (hheard : (d y).isSome = true) : FloodX q a b H tx w ph (mu - 1) m' (upd nd y t) d e tk rs' mt ∧ mu - 1 < mu := by
 have hlen := hrs.length_eq
 simp only [List.length_cons] at hlen
 have hmu := h.mu
 have hfew := h.few
 refine ⟨⟨hs.at_ h0, ?_, ?_, ?_, fun x hx => h.rqs x (hrs.mem_iff.2 (List.mem_cons_of_mem _ hx)), by omega, by omega, fun ht i hi hib hd j hj hh => ?_⟩, by omega⟩
 ·refine h.tree.same fun i hi hia => ?_
  by_cases ei : i = y
  ·subst ei
   rw [upd_at]
   exact ⟨(h.tree.pn i hi hia).idle hk, fun r => r.idle hk, fun _ _ k => k.idle hk⟩
  ·rw [upd_ne _ _ ei]
   exact ⟨h.tree.pn i hi hia, fun r => r, fun _ _ k => k⟩
 ·refine h.tok.idle (fun haw => ?_) (fun had => ?_) (fun i hi hia => ?_)
  ·by_cases ei : a = y
   ·subst ei; rw [upd_at]; exact haw.idle hk
   ·rw [upd_ne _ _ ei]; exact haw
  ·by_cases ei : a = y
   ·subst ei; rw [upd_at]; exact had.idle hk
   ·rw [upd_ne _ _ ei]; exact had
  ·by_cases ei : i = y
   ·subst ei; rw [upd_at, hk.ls]
   ·rw [upd_ne _ _ ei]
 ·rw [hs.air, hk.frames]
  simpa using hair
 ·rcases h.cover ht i hi hib hd j hj hh with h1 | ⟨x, hx, h1, h2⟩
  ·exact .inl h1
  ·rcases List.mem_cons.1 (hrs.mem_iff.1 hx) with rfl | hx
   ·exact .inl (by rw [← h2, hdst]; exact hheard)
   ·exact .inr ⟨x, hx, h1, h2⟩
theorem FloodX.spread {w : Turn} (hw : w.Ok) {ph mu mt : Nat} {m m' m0 : Ms} {nd : Nat → Nd} {d e : Nat → Option Nat} {tk rs rs' : List Fl} {f : Fl} {t : Nd} (g : Set0 q a b H tx) (n : Net q H w.T m) (n0 : Net q H w.T m0) (h : FloodX q a b H tx w ph mu m nd d e tk rs mt) {y x hx : Nat} (hy : y < q) (hya : y ≠ a) (hyb : y ≠ b)
  (hs : Spoke m0 m' y t) (h0 : ∀ i, i < q → m0.At i (nd i)) (hair : m0.air.Perm (tk ++ rs')) (hrs : rs.Perm (f :: rs')) (hdst : f.dst = y) (hsrc : f.src = x) (hxq : x < q) (hxy : x ≠ y) (hxH : H x y = true) (hxd : d x = some hx) (htau : hx + 1 ≤ w.tau) (hd : d y = none)
  (ht : PN (adr a) (adr b) (adr y) w.r t ∧ Knows (adr a) w.r w.T (hx + 1) (adr x) t ∧ viewT t.ls (adr b) = none ∧ t.out.came = [] ∧ t.out.frames = if w.tau - hx = 1 then [] else [(0, (rqP (adr a) (adr b) ((w.tau - hx - 1 : Nat) : Int) ((hx + 1 : Nat) : Int) (UInt32.ofNat w.r) (UInt32.ofNat (w.r + 1))).out)]) : ∃ mu', FloodX q a b H tx w ph mu' m' (upd nd y t) (upd d y (some (hx + 1))) e tk (rs' ++ t.out.frames.flatMap (fanF m0 y)) mt ∧ mu' < mu := by
 obtain ⟨t1, t2, t3, t4, t5⟩ := ht
 have hlen := hrs.length_eq
 simp only [List.length_cons] at hlen
 have hmu := h.mu
 have hfew := h.few
 have hcnt := cntN_upd (h := hx + 1) hy hd
 have hq6 := g.hq
 have hfan : (t.out.frames.flatMap (fanF m0 y)).length ≤ 6 := by
  rw [t5]
  split
  ·simp
  ·simp only [List.flatMap_cons, List.flatMap_nil, List.append_nil]
   rw [fan_cast n0 hy, List.length_map]
   refine Nat.le_trans (List.length_filter_le _ _) ?_
   simpa using hq6
 have hdx := h.tree.dist hxq hxd
 have keepd : ∀ i v, d i = some v → upd d y (some (hx + 1)) i = some v := fun i v hv => by
  rw [upd_ne _ _ (fun e0 => by rw [e0, hd] at hv; cases hv)]; exact hv
 have keeps : ∀ i, (d i).isSome = true → (upd d y (some (hx + 1)) i).isSome = true := fun i hi => by
  obtain ⟨v, hv⟩ := Option.isSome_iff_exists.1 hi
  rw [keepd i v hv]; rfl
 refine ⟨(rs' ++ t.out.frames.flatMap (fanF m0 y)).length + 6 * cntN (upd d y (some (hx + 1))) q + mt, ⟨hs.at_ h0, ?_, ?_, ?_, ?_, ?_, rfl, ?_⟩, ?_⟩
 ·refine ⟨?_, fun i hi hia => ?_, fun i hi hia hdi => ?_, fun i v hi hia hdi => ?_⟩
  ·exact keepd a 0 h.tree.root
  ·by_cases ei : i = y
   ·subst ei; rw [upd_at]; exact t1
   ·rw [upd_ne _ _ ei]; exact h.tree.pn i hi hia
  ·by_cases ei : i = y
   ·subst ei; rw [upd_at] at hdi; cases hdi
   ·rw [upd_ne _ _ ei] at hdi ⊢; exact h.tree.raw i hi hia hdi
  ·by_cases ei : i = y
   ·subst ei
    rw [upd_at] at hdi ⊢
    cases hdi
    exact ⟨x, t2, hxq, hxy, g.sym x i hxq hy hxH, by omega, by omega, keepd x hx hxd⟩
   ·rw [upd_ne _ _ ei] at hdi ⊢
    obtain ⟨j, j1, j2, j3, j4, j5, j6, j7⟩ := h.tree.node i v hi hia hdi
    exact ⟨j, j1, j2, j3, j4, j5, j6, keepd j _ j7⟩
 ·have hva : upd nd y t a = nd a := upd_ne _ _ (Ne.symm hya)
  have hvv : ∀ i, i < q → i ≠ a → viewT (upd nd y t i).ls (adr b) = viewT (nd i).ls (adr b) := fun i hi hia => by
   by_cases ei : i = y
   ·subst ei; rw [upd_at, t3]; exact (h.tree.raw i hi hia hd).noB.symm
   ·rw [upd_ne _ _ ei]
  have h1 := h.tok.idle (nd' := upd nd y t) (fun haw => by rw [hva]; exact haw) (fun had => by rw [hva]; exact had) hvv
  cases h1 with
  | ask h1 h2 h3 => exact .ask h1 (by rw [upd_ne _ _ (Ne.symm hyb)]; exact h2) h3
  | rep h1 h2 h3 h4 h5 h6 h7 h8 h9 h10 => exact .rep h1 (keeps b h2) (h3.heard hd) h4 h5 h6 h7 h8 (keepd _ _ h9) h10
  | dat h1 h2 h3 h4 h5 h6 h7 h8 h9 => exact .dat h1 (keeps b h2) (h3.heard hd) h4 h5 h6 h7 h8 h9
  | done h1 h2 => exact .done h1 (keeps b h2)
 ·rw [hs.air, ← List.append_assoc]
  exact hair.append_right _
 ·intro z hz
  rcases List.mem_append.1 hz with hz | hz
  ·obtain ⟨z1, z2, z3, z4, z5, v, z6, z7, z8⟩ := h.rqs z (hrs.mem_iff.2 (List.mem_cons_of_mem _ hz))
   exact ⟨z1, z2, z3, z4, z5, v, keepd _ _ z6, z7, z8⟩
  ·rw [t5] at hz
   split at hz
   ·simp at hz
   ·rename_i hne
    simp only [List.flatMap_cons, List.flatMap_nil, List.append_nil] at hz
    rw [fan_cast n0 hy] at hz
    obtain ⟨j, hj, rfl⟩ := List.mem_map.1 hz
    obtain ⟨hj1, hj2⟩ := List.mem_filter.1 hj
    have hj3 := List.mem_range.1 hj1
    refine ⟨hy, hj3, fun e0 => ?_, hj2, hyb, hx + 1, upd_at _ _ _, by omega, ?_⟩
    ·have e1 : y = j := e0
     subst e1
     rw [g.irr y hy] at hj2; cases hj2
    ·have e1 : w.tau - hx - 1 = w.tau - (hx + 1) := by omega
     rw [e1]
 ·rw [List.length_append]; omega
 ·intro ht8 i hi hib hdi j hj hh
  by_cases ei : i = y
  ·subst ei
   right
   refine ⟨⟨i, j, (rqP (adr a) (adr b) ((w.tau - hx - 1 : Nat) : Int) ((hx + 1 : Nat) : Int) (UInt32.ofNat w.r) (UInt32.ofNat (w.r + 1))).out⟩, List.mem_append_right _ ?_, rfl, rfl⟩
   ·rw [t5, if_neg (by omega)]
    simp only [List.flatMap_cons, List.flatMap_nil, List.append_nil]
    rw [fan_cast n0 hy]
    exact List.mem_map.2 ⟨j, List.mem_filter.2 ⟨List.mem_range.2 hj, hh⟩, rfl⟩
  ·rw [upd_ne _ _ ei] at hdi
   rcases h.cover ht8 i hi hib hdi j hj hh with h1 | ⟨z, hz, h1, h2⟩
   ·exact .inl (keeps j h1)
   ·rcases List.mem_cons.1 (hrs.mem_iff.1 hz) with rfl | hz
    ·left
     rw [← h2, hdst, upd_at]; rfl
    ·exact .inr ⟨z, List.mem_append_left _ hz, h1, h2⟩
 ·rw [List.length_append]; omega
end
end

section
section
variable {q a b : Nat} {H : Nat → Nat → Bool} {tx : Str}
theorem FloodX.meet {w : Turn} (hw : w.Ok) {ph mu mt : Nat} {m m' m0 : Ms} {nd : Nat → Nd} {d e : Nat → Option Nat} {tk rs rs' : List Fl} {f : Fl} {t : Nd} (g : Set0 q a b H tx) (n0 : Net q H w.T m0) (h : FloodX q a b H tx w ph mu m nd d e tk rs mt) {x hx : Nat}
  (hs : Spoke m0 m' b t) (h0 : ∀ i, i < q → m0.At i (nd i)) (hair : m0.air.Perm (tk ++ rs')) (hrs : rs.Perm (f :: rs')) (hdst : f.dst = b) (hsrc : f.src = x) (hxq : x < q) (hxy : x ≠ b) (hxH : H x b = true) (hxd : d x = some hx) (htau : hx + 1 ≤ w.tau) (hd : d b = none)
  (ht : PN (adr a) (adr b) (adr b) w.r t ∧ Knows (adr a) w.r w.T (hx + 1) (adr x) t ∧ viewT t.ls (adr b) = none ∧ t.out.came = [] ∧ ∃ bq, t.out.frames = [(adr x, (rpP (adr a) (adr b) 0 bq).out)]) : ph = 0 ∧ ∃ mu' tk' mt', FloodX q a b H tx w 1 mu' m' (upd nd b t) (upd d b (some (hx + 1))) (upd (fun _ => none) b (some 0)) tk' rs' mt' ∧ mu' < mu := by
 obtain ⟨t1, t2, t3, t4, bq, t5⟩ := ht
 have hlen := hrs.length_eq
 simp only [List.length_cons] at hlen
 have hmu := h.mu
 have hfew := h.few
 have hcnt := cntN_upd (h := hx + 1) g.hb hd
 have hq6 := g.hq
 have hdx := h.tree.dist hxq hxd
 have hba := Ne.symm g.ab
 have keepd : ∀ i v, d i = some v → upd d b (some (hx + 1)) i = some v := fun i v hv => by
  rw [upd_ne _ _ (fun e0 => by rw [e0, hd] at hv; cases hv)]; exact hv
 have keeps : ∀ i, (d i).isSome = true → (upd d b (some (hx + 1)) i).isSome = true := fun i hi => by
  obtain ⟨v, hv⟩ := Option.isSome_iff_exists.1 hi
  rw [keepd i v hv]; rfl
 have hva : upd nd b t a = nd a := upd_ne _ _ g.ab
 have htree : Tree q a b H w (upd nd b t) (upd d b (some (hx + 1))) := by
  refine ⟨keepd a 0 h.tree.root, fun i hi hia => ?_, fun i hi hia hdi => ?_, fun i v hi hia hdi => ?_⟩
  ·by_cases ei : i = b
   ·subst ei; rw [upd_at]; exact t1
   ·rw [upd_ne _ _ ei]; exact h.tree.pn i hi hia
  ·by_cases ei : i = b
   ·subst ei; rw [upd_at] at hdi; cases hdi
   ·rw [upd_ne _ _ ei] at hdi ⊢; exact h.tree.raw i hi hia hdi
  ·by_cases ei : i = b
   ·subst ei
    rw [upd_at] at hdi ⊢
    cases hdi
    exact ⟨x, t2, hxq, hxy, g.sym x i hxq hi hxH, by omega, by omega, keepd x hx hxd⟩
   ·rw [upd_ne _ _ ei] at hdi ⊢
    obtain ⟨j, j1, j2, j3, j4, j5, j6, j7⟩ := h.tree.node i v hi hia hdi
    exact ⟨j, j1, j2, j3, j4, j5, j6, keepd j _ j7⟩
 have htok := h.tok
 cases htok with
 | ask h1 h2 h3 =>
  refine ⟨rfl, rs'.length + 6 * cntN (upd d b (some (hx + 1))) q + (10 + hx), _, 10 + hx, ⟨hs.at_ h0, htree, .rep (by rw [hva]; exact h1) (by rw [upd_at]; rfl) ⟨upd_at _ _ _, upd_ne _ _ g.ab, ?_, ?_, ?_⟩ g.hb hxq (Ne.symm hxy) (g.sym x b hxq g.hb hxH) (upd_at _ _ _) (keepd x hx hxd) (by have := hw.tau.2; omega) (k := 0) (bq := bq), ?_, ?_, by omega, rfl, ?_⟩, by have := hw.tau.2; omega⟩
  ·intro i hi k he
   by_cases ei : i = b
   ·subst ei; exact ⟨hx + 1, upd_at _ _ _, by omega⟩
   ·rw [upd_ne _ _ ei] at he; cases he
  ·intro i hi hia he
   by_cases ei : i = b
   ·subst ei; rw [upd_at] at he; cases he
   ·rw [upd_ne _ _ ei]; exact h3 i hi hia
  ·intro i k hi hib he
   rw [upd_ne _ _ hib] at he; cases he
  ·rw [hs.air, t5]
   simp only [List.flatMap_cons, List.flatMap_nil, List.append_nil]
   rw [fan_one n0 g hxq]
   refine (hair.append_right _).trans ?_
   simp
  ·intro z hz
   obtain ⟨z1, z2, z3, z4, z5, v, z6, z7, z8⟩ := h.rqs z (hrs.mem_iff.2 (List.mem_cons_of_mem _ hz))
   exact ⟨z1, z2, z3, z4, z5, v, keepd _ _ z6, z7, z8⟩
  ·intro ht8 i hi hib hdi j hj hh
   rw [upd_ne _ _ hib] at hdi
   rcases h.cover ht8 i hi hib hdi j hj hh with h4 | ⟨z, hz, h4, h5⟩
   ·exact .inl (keeps j h4)
   ·rcases List.mem_cons.1 (hrs.mem_iff.1 hz) with rfl | hz
    ·left
     rw [← h5, hdst, upd_at]; rfl
    ·exact .inr ⟨z, hz, h4, h5⟩
 | rep _ h2 => rw [hd] at h2; cases h2
 | dat _ h2 => rw [hd] at h2; cases h2
 | done _ h2 => rw [hd] at h2; cases h2
theorem Tree.turn {w : Turn} {nd : Nat → Nd} {d : Nat → Option Nat} {y : Nat} {t : Nd} (h : Tree q a b H w nd d) (hd : (d y).isSome = true) (h1 : y ≠ a → PN (adr a) (adr b) (adr y) w.r t) (h2 : ∀ g n, Knows (adr a) w.r w.T g n (nd y) → Knows (adr a) w.r w.T g n t) : Tree q a b H w (upd nd y t) d := by
 refine ⟨h.root, fun i hi hia => ?_, fun i hi hia hdi => ?_, fun i v hi hia hdi => ?_⟩
 ·by_cases ei : i = y
  ·subst ei; rw [upd_at]; exact h1 hia
  ·rw [upd_ne _ _ ei]; exact h.pn i hi hia
 ·by_cases ei : i = y
  ·subst ei; rw [hdi] at hd; cases hd
  ·rw [upd_ne _ _ ei]; exact h.raw i hi hia hdi
 ·obtain ⟨j, j1, j2⟩ := h.node i v hi hia hdi
  refine ⟨j, ?_, j2⟩
  by_cases ei : i = y
  ·subst ei; rw [upd_at]; exact h2 _ _ j1
  ·rw [upd_ne _ _ ei]; exact j1
theorem FloodX.move {w : Turn} {ph ph' mu mt mt' : Nat} {m m' m0 : Ms} {nd nd' : Nat → Nd} {d e e' : Nat → Option Nat} {f : Fl} {rs tk' : List Fl} (h : FloodX q a b H tx w ph mu m nd d e [f] rs mt) (hat : ∀ i, i < q → m'.At i (nd' i)) (htree : Tree q a b H w nd' d) (htok : Tok q a b H tx w nd' d e' ph' mt' tk') (hair : m'.air.Perm (rs ++ tk')) (hmt : mt' < mt) : ∃ mu', FloodX q a b H tx w ph' mu' m' nd' d e' tk' rs mt' ∧ mu' < mu := by
 have hmu := h.mu
 refine ⟨rs.length + 6 * cntN d q + mt', ⟨hat, htree, htok, hair.trans List.perm_append_comm, h.rqs, h.few, rfl, h.cover⟩, by omega⟩
theorem FloodX.token {w : Turn} (hw : w.Ok) {ph mu mt : Nat} {m m' m0 : Ms} {nd : Nat → Nd} {d e : Nat → Option Nat} {rs : List Fl} {f : Fl} (g : Set0 q a b H tx) (n0 : Net q H w.T m0) (hnow : m.now.toNat = w.T) (h : FloodX q a b H tx w ph mu m nd d e [f] rs mt) (hinv : ∀ i, i < q → (nd i).Inv)
  (h0 : ∀ i, i < q → m0.At i (nd i)) (hair : m0.air.Perm rs) (hsp : ∀ t, t = (nd f.dst).rcvF m.now (adr f.src) f.bytes → (t.out.frames = [] ∨ ∃ x, t.out.frames = [x] ∧ FrameOk m0 f.dst x) → Spoke m0 m' f.dst t) (hev : m0.evs = []) :
  Net q H w.T m' ∧ ∃ ph' mu' nd' e' tk' mt', FloodX q a b H tx w ph' mu' m' nd' d e' tk' rs mt' ∧ mu' < mu ∧ ph ≤ ph' ∧ EvOk a b tx m'.evs ((if ph' = 3 then 1 else 0) - (if ph = 3 then 1 else 0)) := by
 have hT := hw.T
 have hq6 := g.hq
 have hn : m.now.toNat < 3000 := by omega
 have htok := h.tok
 generalize hfe : [f] = fs at htok
 cases htok with
 | ask _ _ _ => cases hfe
 | done _ _ => cases hfe
 | @rep k hy x y bq h1 h2 h3 h4 h5 h6 h7 h8 h9 h10 =>
  simp only [List.cons.injEq, and_true] at hfe
  subst hfe
  simp only at hsp
  have hxa : x ≠ a := fun e0 => by rw [e0, h3.offa] at h8; cases h8
  by_cases hya : y = a
  ·subst hya
   have hhy : hy = 0 := by rw [h.tree.root] at h9; cases h9; rfl
   subst hhy
   obtain ⟨r1, r2, r3⟩ := AW.reply (k := k) (bq := bq) h1 (g.ne h5 g.hb g.ab) (g.nz g.hb) hn (g.nz h4) (g.ne h4 h5 h6) (by omega) _ rfl
   generalize hte : (nd y).rcvF m.now (adr x) (rpP (adr y) (adr b) (k : Int) bq).out = t at *
   have hs := hsp t rfl (.inr ⟨_, r3, frame_one n0 g h5 h4 (g.sym x y h4 h5 h7) _⟩)
   have hvv : ∀ i, i < q → i ≠ y → viewT (upd nd y t i).ls (adr b) = viewT (nd i).ls (adr b) := fun i hi hia => by rw [upd_ne _ _ hia]
   obtain ⟨mu', hF, hlt⟩ := FloodX.move (ph' := 2) (mt' := 1 + k) (m' := m') (nd' := upd nd y t) (e' := e) (tk' := [⟨y, x, (dtP (adr y) (adr b) ((0 : Nat) : Int) tx).out⟩]) (m0 := m0) h (hs.at_ h0)
    (Tree.same h.tree fun i hi hia => by rw [upd_ne _ _ hia]; exact ⟨h.tree.pn i hi hia, fun r => r, fun _ _ r => r⟩)
    (.dat (by rw [upd_at]; exact r1) h2 (h3.same hvv) h5 h4 (Ne.symm h6) (g.sym x y h4 h5 h7) h8 (by omega)) (by
     rw [hs.air, r3]
     simp only [List.flatMap_cons, List.flatMap_nil, List.append_nil]
     rw [fan_one n0 g h4]
     exact hair.append_right _) (by omega)
   refine ⟨hs.net n0, 2, mu', _, e, _, _, hF, hlt, by omega, ?_⟩
   rw [hs.evs, hev]
   exact EvOk.none r2
  ·obtain ⟨j, j1, j2, j3, j4, j5, j6, j7⟩ := h.tree.node y hy h5 hya h9
   have hyb : y ≠ b := fun e0 => by
    subst e0
    obtain ⟨v, v1, v2⟩ := h3.high y h5 0 h3.root
    rw [h9] at v1; cases v1; omega
   have hey : e y = none := by
    cases hey : e y with
    | none => rfl
    | some v =>
     obtain ⟨u, u1, u2⟩ := h3.high y h5 v hey
     rw [h9] at u1; cases u1; omega
   have hPN := h.tree.pn y h5 hya
   obtain ⟨r1, r2, r3, r4, r5⟩ := PN.reply (k := k) (bq := bq) hPN (hinv y h5) j1 (g.ne g.ha h5 (Ne.symm hya)) (g.ne g.hb h5 (Ne.symm hyb)) (g.nz g.hb) (g.ne g.ha g.hb g.ab) (h3.bare y h5 hya hey) hn (g.nz h4) (g.ne h4 h5 h6) (by omega) _ rfl
   generalize hte : (nd y).rcvF m.now (adr x) (rpP (adr a) (adr b) (k : Int) bq).out = t at *
   have hs := hsp t rfl (.inr ⟨_, r5, frame_one n0 g h5 j2 j4 _⟩)
   have hva : upd nd y t a = nd a := upd_ne _ _ (Ne.symm hya)
   have hway : Way q a b H (upd nd y t) d (upd e y (some (k + 1))) (hy - 1) := by
    refine ⟨by rw [upd_ne _ _ (Ne.symm hyb)]; exact h3.root, by rw [upd_ne _ _ (Ne.symm hya)]; exact h3.offa, fun i hi v hv => ?_, fun i hi hia hv => ?_, fun i v hi hib hv => ?_⟩
    ·by_cases ei : i = y
     ·subst ei; exact ⟨hy, h9, by omega⟩
     ·rw [upd_ne _ _ ei] at hv
      obtain ⟨u, u1, u2⟩ := h3.high i hi v hv
      exact ⟨u, u1, by omega⟩
    ·by_cases ei : i = y
     ·subst ei; rw [upd_at] at hv; cases hv
     ·rw [upd_ne _ _ ei] at hv ⊢
      exact h3.bare i hi hia hv
    ·by_cases ei : i = y
     ·subst ei
      rw [upd_at] at hv ⊢
      cases hv
      refine ⟨bq, x, r3, h4, h6, g.sym x i h4 hi h7, by omega, ?_⟩
      rw [upd_ne _ _ h6]
      exact h8
     ·rw [upd_ne _ _ ei] at hv ⊢
      obtain ⟨bq', j', u1, u2, u3, u4, u5, u6⟩ := h3.node i v hi hib hv
      refine ⟨bq', j', u1, u2, u3, u4, u5, ?_⟩
      rw [upd_ne _ _ (fun e0 => by rw [e0, hey] at u6; cases u6)]
      exact u6
   obtain ⟨mu', hF, hlt⟩ := FloodX.move (ph' := 1) (mt' := 10 + (hy - 1)) (m' := m') (nd' := upd nd y t) (e' := upd e y (some (k + 1))) (tk' := [⟨y, j, (rpP (adr a) (adr b) ((k + 1 : Nat) : Int) bq).out⟩]) (m0 := m0) h (hs.at_ h0)
    (h.tree.turn (by rw [h9]; rfl) (fun _ => r1) fun gg nn hk => by
     have e1 := hk.line
     have e2 := j1.line
     rw [e2] at e1
     simp only [Option.some.injEq, Prod.mk.injEq, true_and] at e1
     have e3 : hy = gg := by omega
     rw [← e3, ← e1.2]; exact r2)
    (.rep (by rw [hva]; exact h1) h2 hway h5 j2 (Ne.symm j3) j4 (upd_at _ _ _) j7 (by omega)) (by
     rw [hs.air, r5]
     simp only [List.flatMap_cons, List.flatMap_nil, List.append_nil]
     rw [fan_one n0 g j2]
     exact hair.append_right _) (by omega)
   refine ⟨hs.net n0, 1, mu', _, _, _, _, hF, hlt, by omega, ?_⟩
   rw [hs.evs, hev]
   exact EvOk.none r4
 | @dat k hy x y h1 h2 h3 h4 h5 h6 h7 h8 h9 =>
  simp only [List.cons.injEq, and_true] at hfe
  subst hfe
  simp only at hsp
  have hya : y ≠ a := fun e0 => by rw [e0, h3.offa] at h8; cases h8
  have hva : ∀ t, upd nd y t a = nd a := fun t => upd_ne _ _ (Ne.symm hya)
  have hPN := h.tree.pn y h5 hya
  have hdy : (d y).isSome = true := by
   obtain ⟨u, u1, _⟩ := h3.high y h5 hy h8
   rw [u1]; rfl
  by_cases hyb : y = b
  ·subst hyb
   have hhy : hy = 0 := by rw [h3.root] at h8; cases h8; rfl
   subst hhy
   obtain ⟨r1, r2, r3, r4, r5, r6⟩ := PN.arrived (k := k) hPN g.htx hn (g.nz h4) (g.ne h4 h5 h6) (by omega) _ rfl
   generalize hte : (nd y).rcvF m.now (adr x) (dtP (adr a) (adr y) (k : Int) tx).out = t at *
   have hs := hsp t rfl (.inl r6)
   obtain ⟨mu', hF, hlt⟩ := FloodX.move (ph' := 3) (mt' := 0) (m' := m') (nd' := upd nd y t) (e' := e) (tk' := []) (m0 := m0) h (hs.at_ h0)
    (h.tree.turn hdy (fun _ => r1) fun gg nn hk => hk.like r3 (by rw [r2]))
    (.done (by rw [hva]; exact h1) h2) (by
     rw [hs.air, r6]
     simpa using hair) (by omega)
   refine ⟨hs.net n0, 3, mu', _, e, _, _, hF, hlt, by omega, ?_⟩
   rw [hs.evs, hev]
   exact EvOk.one r5
  ·obtain ⟨bq', j', u1, u2, u3, u4, u5, u6⟩ := h3.node y hy h5 hyb h8
   obtain ⟨r1, r2, r3, r4, r5, r6⟩ := PN.data (k := k) hPN (g.ne g.hb h5 (Ne.symm hyb)) u1 g.htx hn (g.nz h4) (g.ne h4 h5 h6) (by omega) _ rfl
   generalize hte : (nd y).rcvF m.now (adr x) (dtP (adr a) (adr b) (k : Int) tx).out = t at *
   have hs := hsp t rfl (.inr ⟨_, r6, frame_one n0 g h5 u2 u4 _⟩)
   have hvv : ∀ i, i < q → i ≠ a → viewT (upd nd y t i).ls (adr b) = viewT (nd i).ls (adr b) := fun i hi hia => by
    by_cases ei : i = y
    ·subst ei; rw [upd_at]; exact r2.view _
    ·rw [upd_ne _ _ ei]
   obtain ⟨mu', hF, hlt⟩ := FloodX.move (ph' := 2) (mt' := 1 + (hy - 1)) (m' := m') (nd' := upd nd y t) (e' := e) (tk' := [⟨y, j', (dtP (adr a) (adr b) ((k + 1 : Nat) : Int) tx).out⟩]) (m0 := m0) h (hs.at_ h0)
    (h.tree.turn hdy (fun _ => r1) fun gg nn hk => hk.like r3 (r2.view _))
    (.dat (by rw [hva]; exact h1) h2 (h3.same hvv) h5 u2 (Ne.symm u3) u4 u6 (by omega)) (by
     rw [hs.air, r6]
     simp only [List.flatMap_cons, List.flatMap_nil, List.append_nil]
     rw [fan_one n0 g u2]
     exact hair.append_right _) (by omega)
   refine ⟨hs.net n0, 2, mu', _, e, _, _, hF, hlt, by omega, ?_⟩
   rw [hs.evs, hev]
   exact EvOk.none r5
theorem Flood.deliver {w : Turn} (hw : w.Ok) {ph mu : Nat} {m : Ms} (g : Set0 q a b H tx) (h : Flood q a b H tx w ph mu m) (hinv : ∀ i t, m.At i t → t.Inv) {k : Nat} (hk : k < m.air.length) {o : OpD} (ho : o.kind = 4) (hoa : o.a = (k : Int)) :
  ∃ ph' mu', Flood q a b H tx w ph' mu' (m.do_ o) ∧ mu' < mu ∧ ph ≤ ph' ∧ EvOk a b tx (m.do_ o).evs ((if ph' = 3 then 1 else 0) - (if ph = 3 then 1 else 0)) := by
 obtain ⟨n, nd, d, e, tk, rs, mt, hX⟩ := h
 obtain ⟨f, hf⟩ : ∃ f, m.air[k]? = some f := ⟨_, List.getElem?_eq_getElem hk⟩
 have hp1 := perm_erase hf
 have hp2 := hp1.symm.trans hX.air
 have hq6 := g.hq
 have htk : tk.length ≤ 1 := by
  have := hX.tok
  cases this <;> simp
 have hfew := hX.few
 have hal : m.air.length + m.sts.length ≤ 48 := by
  have := hX.air.length_eq
  rw [List.length_append] at this
  rw [n.len]; omega
 have h0 : ∀ i, i < q → Ms.At { m with air := m.air.eraseIdx k, evs := [] } i (nd i) := hX.at_
 have n0 : Net q H w.T { m with air := m.air.eraseIdx k, evs := [] } := ⟨n.addrs, n.hear, n.now⟩
 have hn : m.now.toNat < 3000 := by rw [n.now]; have := hw.T; omega
 have hmem : f ∈ tk ++ rs := hp2.mem_iff.1 (by simp)
 have hfo : ∀ y x, FrameOk { m with air := m.air.eraseIdx k, evs := [] } y x → FrameOk m y x := fun y x h => h
 rcases List.mem_append.1 hmem with hm | hm
 ·have htk1 : tk = [f] := by
   cases tk with
   | nil => cases hm
   | cons z tk =>
    cases tk with
    | nil => simp at hm; rw [hm]
    | cons z2 tk => simp at htk
  subst htk1
  have hair : (m.air.eraseIdx k).Perm rs := by
   have : (f :: m.air.eraseIdx k).Perm (f :: rs) := hp2
   exact this.cons_inv
  have hd : f.src < q ∧ f.dst < q := by
   have htok := hX.tok
   generalize hfe : [f] = fs at htok
   cases htok <;> simp at hfe <;> subst hfe <;> exact ⟨by assumption, by assumption⟩
  obtain ⟨hnet, ph', mu', nd', e', tk', mt', hF, hlt, hph, hev⟩ := FloodX.token (m' := m.do_ o) hw g n0 n.now hX (fun i hi => hinv i _ (hX.at_ i hi)) h0 hair (fun t ht hfr => deliver_spoke hf (hX.at_ _ hd.2) ⟨_, hX.at_ _ hd.1⟩ ht hfr hal ho hoa) rfl
  exact ⟨ph', mu', ⟨hnet, nd', d, e', tk', rs, mt', hF⟩, hlt, hph, hev⟩
 ·obtain ⟨l1, l2, rfl⟩ := List.append_of_mem hm
  have hrs : (l1 ++ f :: l2).Perm (f :: (l1 ++ l2)) := List.perm_middle
  have hair : (m.air.eraseIdx k).Perm (tk ++ (l1 ++ l2)) := by
   have : (f :: m.air.eraseIdx k).Perm (f :: (tk ++ (l1 ++ l2))) := by
    refine hp2.trans ?_
    rw [← List.append_assoc]
    refine List.perm_middle.trans ?_
    rw [List.append_assoc]
   exact this.cons_inv
  obtain ⟨z1, z2, z3, z4, z5, hx, z6, z7, z8⟩ := hX.rqs f hm
  have hiv := hinv _ _ (hX.at_ _ z2)
  have hsp : ∀ t, t = (nd f.dst).rcvF m.now (adr f.src) f.bytes → (t.out.frames = [] ∨ ∃ x, t.out.frames = [x] ∧ FrameOk m f.dst x) → Spoke { m with air := m.air.eraseIdx k, evs := [] } (m.do_ o) f.dst t := fun t ht hfr => deliver_spoke hf (hX.at_ _ z2) ⟨_, hX.at_ _ z1⟩ ht hfr hal ho hoa
  rw [z8] at hsp
  have hne := g.ne z1 z2 z3
  have hnz := g.nz z1
  have htau := hw.tau
  have hdx := hX.tree.dist z1 z6
  by_cases hia : f.dst = a
  ·have hidle : Idly (nd f.dst) ((nd f.dst).rcvF m.now (adr f.src) (rqP (adr a) (adr b) ((w.tau - hx : Nat) : Int) (hx : Int) (UInt32.ofNat w.r) (UInt32.ofNat (w.r + 1))).out) m.now := by
    have hga : Good3 (adr a) (adr b) (nd a).ls ∧ (nd a).self = adr a ∧ (nd a).silent = 0 := by
     have htok := hX.tok
     cases htok with
     | ask h1 => exact ⟨h1.good, h1.self, h1.silent⟩
     | rep h1 => exact ⟨h1.good, h1.self, h1.silent⟩
     | dat h1 => exact ⟨h1.good, h1.self, h1.silent⟩
     | done h1 => exact ⟨h1.good, h1.self, h1.silent⟩
    rw [hia]
    exact own_again hga.1 hga.2.1 hga.2.2 hn hnz (by rw [← hia]; exact hne) (by omega) (by omega) _
   have hs := hsp _ rfl (.inl hidle.frames)
   obtain ⟨hF, hlt⟩ := FloodX.idle (m' := m.do_ o) g hX z2 hs h0 hair hrs rfl hidle (by rw [hia, hX.tree.root]; rfl)
   refine ⟨ph, mu - 1, ⟨hs.net n0, _, _, _, _, _, _, hF⟩, hlt, Nat.le_refl _, ?_⟩
   rw [hs.evs, Nat.sub_self]
   exact EvOk.none hidle.came
  ·have hPN := hX.tree.pn _ z2 hia
   cases hdy : d f.dst with
   | some v =>
    obtain ⟨j, j1, _⟩ := hX.tree.node _ v z2 hia hdy
    have hidle := hPN.again (t := w.tau - hx) (k := hx) hn hnz hne (by omega) (by omega) (by
     obtain ⟨u, u1, u2⟩ := j1.mem
     refine ⟨u, u1, ?_⟩
     have := n.now
     show m.now.toNat < u.toNat
     omega) (UInt32.ofNat (w.r + 1))
    have hs := hsp _ rfl (.inl hidle.frames)
    obtain ⟨hF, hlt⟩ := FloodX.idle (m' := m.do_ o) g hX z2 hs h0 hair hrs rfl hidle (by rw [hdy]; rfl)
    refine ⟨ph, mu - 1, ⟨hs.net n0, _, _, _, _, _, _, hF⟩, hlt, Nat.le_refl _, ?_⟩
    rw [hs.evs, Nat.sub_self]
    exact EvOk.none hidle.came
   | none =>
    have hraw := hX.tree.raw _ z2 hia hdy
    by_cases hib : f.dst = b
    ·rw [hib] at hsp hne z2 z3 z4 hdy hPN hraw hiv
     have hr := PN.sought (t := w.tau - hx) (k := hx) (T := w.T) hPN hiv hraw hw.r (g.ne g.ha g.hb g.ab) (g.nz g.ha) n.now (by have := hw.T; omega) hnz hne (by omega) (by omega) _ rfl
     obtain ⟨bq, hfr⟩ := hr.2.2.2.2
     have hs := hsp _ rfl (.inr ⟨_, hfr, frame_one n g g.hb z1 (g.sym _ _ z1 g.hb z4) _⟩)
     obtain ⟨rfl, mu', tk', mt', hF, hlt⟩ := FloodX.meet (m' := m.do_ o) hw g n0 hX hs h0 hair hrs hib rfl z1 z3 z4 z6 z7 hdy hr
     refine ⟨1, mu', ⟨hs.net n0, _, _, _, _, _, _, hF⟩, hlt, by omega, ?_⟩
     rw [hs.evs]
     exact EvOk.none hr.2.2.2.1
    ·have hr := PN.request (t := w.tau - hx) (k := hx) (T := w.T) hPN hiv hraw hw.r (g.ne g.ha z2 (Ne.symm hia)) (g.ne g.hb z2 (Ne.symm hib)) (g.nz g.ha) (g.ne g.ha g.hb g.ab) n.now (by have := hw.T; omega) hnz hne (by omega) (by omega) _ rfl
     have hs := hsp _ rfl (by
      rw [hr.2.2.2.2]
      split
      ·exact .inl rfl
      ·exact .inr ⟨_, rfl, .inl rfl⟩)
     obtain ⟨mu', hF, hlt⟩ := FloodX.spread (m' := m.do_ o) hw g n n0 hX z2 hia hib hs h0 hair hrs rfl rfl z1 z3 z4 z6 z7 hdy hr
     refine ⟨ph, mu', ⟨hs.net n0, _, _, _, _, _, _, hF⟩, hlt, Nat.le_refl _, ?_⟩
     rw [hs.evs, Nat.sub_self]
     exact EvOk.none hr.2.2.2.1
end
end

end Go.Proofs.YtapoehkdnglahabGreat

