/- Proved: 'mesh/meshkeep.Arrives' returns true, whatever the input, and leaves it alone; there are no conditions. -/
import Derived.Test.YtapoehkdnglahabGreatArrivesGq
set_option maxHeartbeats 64000000
set_option linter.unusedVariables false
set_option linter.unusedSimpArgs false
set_option linter.unusedSectionVars false
namespace Go.Proofs.YtapoehkdnglahabGreat
section
section
variable {q a b : Nat} {H : Nat → Nat → Bool} {tx : Str}
structure Failed (q a b : Nat) (H : Nat → Nat → Bool) (tx : Str) (r tau due T : Nat) (m : Ms) : Prop where
  net : Net q H T m
  air : m.air = []
  ex : ∃ nd : Nat → Nd, (∀ i, i < q → m.At i (nd i)) ∧ (∀ i, i < q → i ≠ a → PN (adr a) (adr b) (adr i) r (nd i) ∧ viewT (nd i).ls (adr b) = none) ∧ AW (adr a) (adr b) tx r tau due (nd a)
structure Done (q : Nat) (m : Ms) : Prop where
  addrs : m.sts.map (·.addr) = (List.range q).map adr
  air : m.air = []
  ex : ∀ i, i < q → ∃ t, m.At i t ∧ t.srs = []
theorem Flood.end_ {w : Turn} {ph mu : Nat} {m : Ms} (g : Set0 q a b H tx) (hc : ∀ i, i + 1 < q → H i (i + 1) = true) (h : Flood q a b H tx w ph mu m) (ha : m.air = []) : (ph = 0 ∧ w.tau ≠ 8 ∧ Failed q a b H tx w.r w.tau w.due w.T m) ∨ (ph = 3 ∧ Done q m) := by
 obtain ⟨n, nd, d, e, tk, rs, mt, hX⟩ := h
 have hnil : tk ++ rs = [] := by
  have := hX.air
  rw [ha] at this
  exact this.nil_eq.symm
 obtain ⟨h1, h2⟩ := List.append_eq_nil_iff.1 hnil
 subst h1 h2
 have htok := hX.tok
 cases htok with
 | ask k1 k2 k3 =>
  left
  refine ⟨rfl, fun ht => ?_, n, ha, nd, hX.at_, fun i hi hia => ⟨hX.tree.pn i hi hia, k3 i hi hia⟩, k1⟩
  have hcov := hX.cover ht
  have step : ∀ i j, i < q → j < q → H i j = true → (d i).isSome = true → (d j).isSome = true := fun i j hi hj hh hd => by
   rcases hcov i hi (fun e0 => by rw [e0, k2] at hd; cases hd) hd j hj hh with h | ⟨f, hf, _⟩
   ·exact h
   ·cases hf
  have up : ∀ k, a + k < q → (d (a + k)).isSome = true := fun k => by
   induction k with
   | zero => intro _; show (d a).isSome = true; rw [hX.tree.root]; rfl
   | succ k ih => intro hk; exact step (a + k) (a + (k + 1)) (by omega) hk (hc (a + k) (by omega)) (ih (by omega))
  have down : ∀ k, k ≤ a → (d (a - k)).isSome = true := fun k => by
   induction k with
   | zero => intro _; show (d a).isSome = true; rw [hX.tree.root]; rfl
   | succ k ih =>
    intro hk
    have haq := g.ha
    have h3 := hc (a - (k + 1)) (by omega)
    have e1 : a - (k + 1) + 1 = a - k := by omega
    rw [e1] at h3
    exact step (a - k) (a - (k + 1)) (by omega) (by omega) (g.sym _ _ (by omega) (by omega) h3) (ih (by omega))
  have hb : (d b).isSome = true := by
   rcases Nat.lt_or_ge a b with h | h
   ·have := up (b - a) (by have := g.hb; omega)
    rwa [show a + (b - a) = b by omega] at this
   ·have := down (a - b) (by omega)
    rwa [show a - (a - b) = b by omega] at this
  rw [k2] at hb; cases hb
 | done k1 k2 =>
  right
  refine ⟨rfl, n.addrs, ha, fun i hi => ⟨nd i, hX.at_ i hi, ?_⟩⟩
  by_cases hia : i = a
  ·rw [hia]; exact k1.srs
  ·exact (hX.tree.pn i hi hia).srs
theorem tickN_spoke {m : Ms} {nd : Nat → Nd} (ha : m.sts.map (·.addr) = (List.range q).map adr) (h : ∀ i, i < q → m.At i (nd i)) (hq : q ≤ 6) (hair : m.air = []) (c : Nat) (hf : ∀ i, i < q → ((nd i).tickF m.now).out.frames = [] ∨ i = c ∧ ∃ x, ((nd i).tickF m.now).out.frames = [(0, x)]) : ∀ k, k ≤ q →
  (Ms.tickN k m).now = m.now ∧ (Ms.tickN k m).hears = m.hears ∧ (Ms.tickN k m).sts.map (·.addr) = m.sts.map (·.addr) ∧ (∀ i, i < q → (Ms.tickN k m).At i (if i < k then (nd i).tickF m.now else nd i)) ∧ (Ms.tickN k m).air = if c < k ∧ c < q then ((nd c).tickF m.now).out.frames.flatMap (fanF m c) else []
 | 0, _ => ⟨rfl, rfl, rfl, fun i hi => by rw [if_neg (Nat.not_lt_zero _)]; exact h i hi, by rw [if_neg (by omega)]; exact hair⟩
 | k + 1, hk => by
  obtain ⟨i1, i2, i3, i4, i5⟩ := tickN_spoke ha h hq hair c hf k (by omega)
  have hat := i4 k (by omega)
  rw [if_neg (Nat.lt_irrefl k)] at hat
  have hat' := hat
  obtain ⟨s, s1, s2, s3, s4⟩ := hat
  unfold Ms.tickN
  have e1 : ((Ms.tickN k m).sts[k]?).bind (·.node) = some (nd k) := by rw [s1]; exact s2
  rw [e1]
  simp only
  have hlen : (Ms.tickN k m).sts.length = q := by
   have := congrArg List.length (i3.trans ha)
   simpa using this
  have hmlen : m.sts.length = q := by
   have := congrArg List.length ha
   simpa using this
  have hfan : ∀ x, (fanF m c (0, x)).length ≤ 6 := fun x => by
   unfold fanF
   rw [if_pos rfl, List.length_map]
   refine Nat.le_trans (List.length_filter_le _ _) ?_
   rw [hmlen]
   simpa using hq
  have hal : (Ms.tickN k m).air.length ≤ 6 := by
   rw [i5]
   split
   ·rename_i hck
    rcases hf c hck.2 with h0 | ⟨_, x, h0⟩
    ·rw [h0]; simp
    ·rw [h0]
     simp only [List.flatMap_cons, List.flatMap_nil, List.append_nil]
     exact hfan x
   ·simp
  rw [i1]
  have hs := emit_spoke (m := Ms.tickN k m) (i := k) (s0 := nd k) (t := (nd k).tickF m.now) hat' (by
   rcases hf k (by omega) with h0 | ⟨_, x, h0⟩
   ·exact .inl h0
   ·exact .inr ⟨_, h0, .inl rfl⟩) (by omega)
  refine ⟨hs.now.trans i1, hs.hears.trans i2, hs.addrs.trans i3, fun i hi => ?_, ?_⟩
  ·by_cases e : i = k
   ·subst e
    rw [if_pos (by omega)]
    exact hs.here
   ·refine (hs.others i _ e).2 ?_
    have := i4 i hi
    by_cases hik : i < k
    ·rw [if_pos hik] at this
     rw [if_pos (by omega)]
     exact this
    ·rw [if_neg hik] at this
     rw [if_neg (by omega)]
     exact this
  ·rw [hs.air, i5]
   have hfs : ∀ i f, fanF (Ms.tickN k m) i f = fanF m i f := fun i f => fanF_same i2 i3 i f
   have hfe : fanF (Ms.tickN k m) k = fanF m k := funext fun f => hfs k f
   rw [hfe]
   by_cases hck : c = k
   ·subst hck
    rw [if_neg (by omega), if_pos (by omega)]
    simp
   ·have h0 : ((nd k).tickF m.now).out.frames = [] := by
     rcases hf k (by omega) with h0 | ⟨h0, _⟩
     ·exact h0
     ·exact absurd h0.symm hck
    rw [h0]
    simp only [List.flatMap_nil, List.append_nil]
    by_cases h1 : c < k ∧ c < q
    ·rw [if_pos h1, if_pos (by omega)]
    ·rw [if_neg h1, if_neg (by omega)]
def Tick80 (o : OpD) : Prop := o.kind = 3 ∧ o.n = 80
theorem do_tick80 {m : Ms} {o : OpD} (h : Tick80 o) : m.do_ o = Ms.tickN m.sts.length { m with now := m.now + 80, evs := [] } := by
 rw [Ms.do_tick h.1, if_pos (by have := h.2; omega)]
 have : UInt64.ofNat o.n.toNat = 80 := by rw [h.2]; rfl
 rw [this]
 rfl
theorem Done.tick {m : Ms} (h : Done q m) (hq : q ≤ 6) {o : OpD} (ho : Tick80 o) : Done q (m.do_ o) := by
 have hlen : m.sts.length = q := by
  have := congrArg List.length h.addrs
  simpa using this
 have hex : ∀ i, ∃ t : Nd, i < q → (Ms.At { m with now := m.now + 80, evs := [] } i t ∧ t.srs = []) := fun i => by
  by_cases hi : i < q
  ·obtain ⟨t, ht⟩ := h.ex i hi
   exact ⟨t, fun _ => ht⟩
  ·exact ⟨Nd.blank 0, fun h => absurd h hi⟩
 obtain ⟨nd, hnd⟩ := Classical.axiomOfChoice hex
 rw [do_tick80 ho]
 have hs := tickN_spoke (q := q) (m := { m with now := m.now + 80, evs := [] }) (nd := nd) h.addrs (fun i hi => (hnd i hi).1) hq h.air q (fun i hi => .inl (tick_nosr (hnd i hi).2).2.1) q (Nat.le_refl _)
 obtain ⟨i1, i2, i3, i4, i5⟩ := hs
 have e1 : Ms.tickN m.sts.length { m with now := m.now + 80, evs := [] } = Ms.tickN q { m with now := m.now + 80, evs := [] } := by rw [hlen]
 rw [e1]
 refine ⟨i3.trans h.addrs, ?_, fun i hi => ⟨_, i4 i hi, ?_⟩⟩
 ·rw [i5, if_neg (by omega)]
 ·rw [if_pos hi]; exact (tick_nosr (hnd i hi).2).1
theorem now80 {m : Ms} {T : Nat} (h : m.now.toNat = T) (hT : T ≤ 10000) : (m.now + 80).toNat = T + 80 := by
 rw [UInt64.toNat_add]
 have : (80 : UInt64).toNat = 80 := rfl
 omega
theorem Failed.tick {r tau due T : Nat} {m : Ms} (g : Set0 q a b H tx) (h : Failed q a b H tx r tau due T m) (hT : T + 80 < due) (hd : due < 3000) {o : OpD} (ho : Tick80 o) : Failed q a b H tx r tau due (T + 80) (m.do_ o) := by
 obtain ⟨nd, h1, h2, h3⟩ := h.ex
 have hlen := h.net.len
 have hnow := now80 h.net.now (by omega)
 have hidle : ∀ i, i < q → Idly (nd i) ((nd i).tickF (m.now + 80)) (m.now + 80) := fun i hi => by
  by_cases hia : i = a
  ·rw [hia]; exact h3.wait_ hd (by omega)
  ·exact (h2 i hi hia).1.tick (by omega)
 rw [do_tick80 ho, hlen]
 obtain ⟨i1, i2, i3, i4, i5⟩ := tickN_spoke (q := q) (m := { m with now := m.now + 80, evs := [] }) (nd := nd) h.net.addrs h1 g.hq h.air q (fun i hi => .inl (hidle i hi).frames) q (Nat.le_refl _)
 refine ⟨⟨i3.trans h.net.addrs, fun i j hi hj => ?_, by rw [i1]; exact hnow⟩, by rw [i5, if_neg (by omega)], fun i => (nd i).tickF (m.now + 80), fun i hi => ?_, fun i hi hia => ⟨(h2 i hi hia).1.idle (hidle i hi), by rw [(hidle i hi).ls]; exact (h2 i hi hia).2⟩, h3.idle (hidle a g.ha)⟩
 ·unfold Ms.hear; rw [i2]; exact h.net.hear i j hi hj
 ·have := i4 i hi
  rw [if_pos hi] at this
  exact this
theorem PN.more {A B me : UInt32} {r : Nat} {s : Nd} (h : PN A B me r s) : PN A B me (r + 1) s := ⟨h.self, h.silent, h.srs, h.clk, h.good, fun l hl => by have := h.seqA l hl; omega, by have := h.order; omega, fun id hid => h.fut id (by omega)⟩
theorem PN.raw {A B me : UInt32} {r : Nat} {s : Nd} (h : PN A B me r s) (hr : r ≤ 4) (hB : viewT s.ls B = none) : Raw A B (r + 1) s := ⟨h.fut _ (by rw [id_small (by omega)]; omega), by have := h.order; omega, h.seqA, hB⟩
theorem flood_start {w : Turn} {r : Nat} {m : Ms} {nd : Nat → Nd} (g : Set0 q a b H tx) (hw : w.r = r + 1) (hr : r ≤ 3) (htau : 1 ≤ w.tau) (n : Net q H w.T m) (h1 : ∀ i, i < q → m.At i (nd i)) (h2 : ∀ i, i < q → i ≠ a → PN (adr a) (adr b) (adr i) r (nd i) ∧ viewT (nd i).ls (adr b) = none) (h3 : AW (adr a) (adr b) tx w.r w.tau w.due (nd a))
  (h4 : m.air = ((List.range q).filter fun j => H a j).map fun j => ⟨a, j, (rqP (adr a) (adr b) ((w.tau : Nat) : Int) ((0 : Nat) : Int) (UInt32.ofNat w.r) (UInt32.ofNat (w.r + 1))).out⟩) : ∃ mu, mu ≤ 56 ∧ Flood q a b H tx w 0 mu m := by
 have hq6 := g.hq
 have hcnt : cntN (upd (fun _ => none) a (some 0)) q + 1 = cntN (fun _ => none) q := cntN_upd g.ha rfl
 have hcq := cntN_le (fun _ => none) q
 have hal : m.air.length ≤ 6 := by
  rw [h4, List.length_map]
  refine Nat.le_trans (List.length_filter_le _ _) ?_
  simpa using hq6
 refine ⟨m.air.length + 6 * cntN (upd (fun _ => none) a (some 0)) q + 20, by omega, n, nd, upd (fun _ => none) a (some 0), fun _ => none, [], m.air, 20, h1, ⟨upd_at _ _ _, fun i hi hia => ?_, fun i hi hia hd => ?_, fun i v hi hia hd => ?_⟩, .ask h3 (upd_ne _ _ (Ne.symm g.ab)) (fun i hi hia => (h2 i hi hia).2), List.Perm.refl _, fun f hf => ?_, by omega, rfl, fun ht i hi hib hd j hj hh => ?_⟩
 ·rw [hw]; exact (h2 i hi hia).1.more
 ·rw [hw]; exact (h2 i hi hia).1.raw (by omega) (h2 i hi hia).2
 ·rw [upd_ne _ _ hia] at hd; cases hd
 ·rw [h4] at hf
  obtain ⟨j, hj, rfl⟩ := List.mem_map.1 hf
  obtain ⟨hj1, hj2⟩ := List.mem_filter.1 hj
  have hj3 := List.mem_range.1 hj1
  refine ⟨g.ha, hj3, fun e0 => ?_, hj2, g.ab, 0, upd_at _ _ _, by omega, rfl⟩
  have e1 : a = j := e0
  subst e1
  rw [g.irr a g.ha] at hj2; cases hj2
 ·have hia : i = a := by
   by_cases hia : i = a
   ·exact hia
   ·rw [upd_ne _ _ hia] at hd; cases hd
  subst hia
  right
  refine ⟨⟨i, j, (rqP (adr i) (adr b) ((w.tau : Nat) : Int) ((0 : Nat) : Int) (UInt32.ofNat w.r) (UInt32.ofNat (w.r + 1))).out⟩, ?_, rfl, rfl⟩
  rw [h4]
  exact List.mem_map.2 ⟨j, List.mem_filter.2 ⟨List.mem_range.2 hj, hh⟩, rfl⟩
def tauN (r : Nat) : Nat := if r ≤ 1 then 1 else if r = 2 then 3 else if r = 3 then 5 else 8
def dueN' (r : Nat) : Nat := if r = 0 then 0 else if r = 1 then 240 else if r = 2 then 640 else if r = 3 then 1200 else 2000
def turnN (r : Nat) : Turn := ⟨r, dueN' (r - 1), tauN r, dueN' r⟩
theorem turnN_ok {r : Nat} (h : 1 ≤ r ∧ r ≤ 4) : (turnN r).Ok := by
 refine ⟨h.2, ?_, ?_⟩ <;> obtain ⟨h1, h2⟩ := h <;> (have : r = 1 ∨ r = 2 ∨ r = 3 ∨ r = 4 := by omega) <;> rcases this with rfl | rfl | rfl | rfl <;> decide
theorem AW.again {A B : UInt32} {s : Nd} {now : UInt64} {r : Nat} (h : AW A B tx r (tauN r) (dueN' r) s) (hr : 1 ≤ r ∧ r ≤ 3) (hn : now.toNat = dueN' r) : AW A B tx (r + 1) (tauN (r + 1)) (dueN' (r + 1)) (s.tickF now) ∧ (s.tickF now).out.frames = [(0, (rqP A B ((tauN (r + 1) : Nat) : Int) ((0 : Nat) : Int) (UInt32.ofNat (r + 1)) (UInt32.ofNat (r + 1 + 1))).out)] := by
 obtain ⟨bk, bs, bo⟩ := s.begun now
 have bl : (s.begin now).ls = [] := by rw [Nd.begin_ls, h.ls]; rfl
 have bf := s.begin_frames now
 obtain ⟨ci, hc⟩ := h.clk
 have hself := bk.self.trans h.self
 have hwait := bk.wait.trans h.wait
 have hsrs := bk.srs.trans h.srs
 have hdat := bk.datas.trans h.datas
 have hsil := bk.silent.trans h.silent
 have hids := bk.ids.trans h.ids
 have hseq := bk.seq.trans h.seq
 have hsent : (s.begin now).sent.length ≤ r := by rw [bk.sent]; exact h.sent
 have hord : (s.begin now).order.length ≤ r := by rw [bo]; exact h.order
 have hclk := bk.clk.trans hc
 have hnow := bk.now
 unfold Nd.tickF Nd.tick
 generalize s.begin now = s0 at *
 have hdue : (UInt64.ofNat (dueN' r)).toNat ≤ now.toNat := by
  rw [UInt64.toNat_ofNat', hn]
  exact Nat.mod_le _ _
 -- the search's next step
 obtain ⟨y, hy1, hy2, hy3, hy4⟩ : ∃ y : Sr, Sr.further ⟨B, ((tauN r : Nat) : Int), 0, true, 1⟩ = some y ∧ y = ⟨B, ((tauN (r + 1) : Nat) : Int), 0, true, 1⟩ ∧ (now + askWait y).toNat = dueN' (r + 1) ∧ askWait y = UInt64.ofNat (dueN' (r + 1) - dueN' r) := by
  have : r = 1 ∨ r = 2 ∨ r = 3 := by omega
  rcases this with rfl | rfl | rfl
  ·refine ⟨⟨B, 3, 0, true, 1⟩, rfl, rfl, ?_, rfl⟩
   have : askWait ⟨B, 3, 0, true, 1⟩ = 400 := rfl
   rw [this, UInt64.toNat_add, hn]; rfl
  ·refine ⟨⟨B, 5, 0, true, 1⟩, rfl, rfl, ?_, rfl⟩
   have : askWait ⟨B, 5, 0, true, 1⟩ = 560 := rfl
   rw [this, UInt64.toNat_add, hn]; rfl
  ·refine ⟨⟨B, 8, 0, true, 1⟩, rfl, rfl, ?_, rfl⟩
   have : askWait ⟨B, 8, 0, true, 1⟩ = 800 := rfl
   rw [this, UInt64.toNat_add, hn]; rfl
 have hst : s0.step now = some (Nd.ask { s0 with clk := [], srs := [y] } 0 y) := by
  unfold Nd.step
  have e1 : bestN s0.clk now s0.clk.length = some 0 := by
   rw [hclk]
   cases hb : bestN [(⟨UInt64.ofNat (dueN' r), ci, 1⟩ : Tm)] now [(⟨UInt64.ofNat (dueN' r), ci, 1⟩ : Tm)].length with
   | none =>
    have := bestN_none hb 0 (by simp)
    have h3 : now.toNat < (UInt64.ofNat (dueN' r)).toNat := this
    omega
   | some v =>
    have := (bestN_some hb).1
    simp at this
    rw [this]
  rw [e1]
  simp only
  have e2 : (at' s0.clk 0).what = 1 := by rw [hclk]; rfl
  have e3 : s0.clk.eraseIdx 0 = [] := by rw [hclk]; rfl
  rw [e2, e3]
  have e4 : nmFind s0.srs 1 = some 0 := by rw [hsrs]; rfl
  have e5 : s0.srs[0]? = some ⟨B, ((tauN r : Nat) : Int), 0, true, 1⟩ := by rw [hsrs]; rfl
  simp only [e4, e5]
  unfold Nd.again
  have e6 : lookT s0.ls B s0.now = none := by rw [bl]; rfl
  simp only [e6, if_true, hy1]
  have e7 : s0.srs.set 0 y = [y] := by rw [hsrs]; rfl
  rw [e7]
 have hA := ask_out (s := { s0 with clk := [], srs := [y] }) (x := y) (x0 := y) bl hsil (by show s0.sent.length ≤ 4; omega) (by show s0.order.length ≤ 14; omega) rfl
 have hdn : dueN now s0.clk + 1 = 2 := by
  rw [hclk]
  unfold dueN
  simp only [List.filter_cons, List.filter_nil]
  rw [if_pos (by simpa using UInt64.le_iff_toNat_le.2 hdue)]
  rfl
 rw [hdn]
 generalize hu : Nd.ask { s0 with clk := [], srs := [y] } 0 y = u at *
 have hu2 : u.step now = none := by
  unfold Nd.step
  have : bestN u.clk now u.clk.length = none := by
   cases hb : bestN u.clk now u.clk.length with
   | none => rfl
   | some v =>
    obtain ⟨h1, h2, _⟩ := bestN_some hb
    have h3 : at' u.clk v ∈ u.clk := at'_mem h1
    generalize at' u.clk v = z at h2 h3
    rw [hA.clk] at h3
    simp at h3
    rw [h3] at h2
    have h4 : (now + askWait y).toNat ≤ now.toNat := by rw [← hnow] at *; exact h2
    rw [hy3, hn] at h4
    have : r = 1 ∨ r = 2 ∨ r = 3 := by omega
    rcases this with rfl | rfl | rfl <;> exact absurd h4 (by decide)
  rw [this]
 have htk : s0.ticks 2 now = u := by
  unfold Nd.ticks
  rw [hst]
  exact ticks_none hu2
 rw [htk]
 obtain ⟨k1, k2, k3, k4, k5, k6⟩ := u.ended
 have hgr : growS (UInt32.ofNat (r + 1)) = UInt32.ofNat (r + 1 + 1) := by
  have : r = 1 ∨ r = 2 ∨ r = 3 := by omega
  rcases this with rfl | rfl | rfl <;> rfl
 have hid : UInt32.ofNat r + 1 = UInt32.ofNat (r + 1) := by
  have : r = 1 ∨ r = 2 ∨ r = 3 := by omega
  rcases this with rfl | rfl | rfl <;> rfl
 have eseq : ({ s0 with clk := [], srs := [y] } : Nd).seq = UInt32.ofNat (r + 1) := hseq
 have eids : ({ s0 with clk := [], srs := [y] } : Nd).ids = UInt32.ofNat r := hids
 refine ⟨⟨?_, ?_, ?_, ?_, ?_, ?_, ?_, ?_, ?_, ?_, ?_⟩, ?_⟩
 ·rw [k1.self, hA.self]; exact hself
 ·rw [k1.silent, hA.silent]; exact hsil
 ·rw [k2, hA.ls]; exact bl
 ·rw [k1.wait, hA.wait]; exact hwait
 ·rw [k1.srs, hA.srs, hy2]
 ·refine ⟨s0.last + 1, ?_⟩
  rw [k1.clk, hA.clk]
  have e8 : ({ s0 with clk := [], srs := [y] } : Nd).now + askWait y = UInt64.ofNat (dueN' (r + 1)) := by
   apply UInt64.toNat_inj.1
   show (s0.now + askWait y).toNat = _
   rw [hnow, hy3, UInt64.toNat_ofNat']
   have : r = 1 ∨ r = 2 ∨ r = 3 := by omega
   rcases this with rfl | rfl | rfl <;> rfl
  rw [e8, hy2]
  rfl
 ·rw [k1.ids, hA.ids, eids, hid]
 ·rw [k1.datas, hA.datas]; exact hdat
 ·rw [k1.seq, hA.seq, eseq, hgr]
 ·rw [k1.sent]; have := hA.sent; exact Nat.le_trans this (by show s0.sent.length + 1 ≤ _; omega)
 ·rw [k4]; have := hA.order; exact Nat.le_trans this (by show s0.order.length + 1 ≤ _; omega)
 ·rw [k5, hA.frames, eids, eseq, hgr, hid, hy2]
  show s0.out.frames ++ [(0, Pk.out ⟨_, 1, 0, true, _, B, 0, s0.self, _, 0, [], []⟩)] = _
  rw [bf, hself]
  rfl
theorem Failed.again {r : Nat} {T : Nat} {m : Ms} (g : Set0 q a b H tx) (h : Failed q a b H tx r (tauN r) (dueN' r) T m) (hr : 1 ≤ r ∧ r ≤ 3) (hT : T + 80 = dueN' r) {o : OpD} (ho : Tick80 o) : ∃ mu, mu ≤ 56 ∧ Flood q a b H tx (turnN (r + 1)) 0 mu (m.do_ o) := by
 obtain ⟨nd, h1, h2, h3⟩ := h.ex
 have hlen := h.net.len
 have hd3 : dueN' r < 3000 := by
  have : r = 1 ∨ r = 2 ∨ r = 3 := by omega
  rcases this with rfl | rfl | rfl <;> decide
 have hnow := now80 h.net.now (by omega)
 have hidle : ∀ i, i < q → i ≠ a → Idly (nd i) ((nd i).tickF (m.now + 80)) (m.now + 80) := fun i hi hia => (h2 i hi hia).1.tick (by omega)
 obtain ⟨haw, hfr⟩ := h3.again hr (now := m.now + 80) (by omega)
 rw [do_tick80 ho, hlen]
 obtain ⟨i1, i2, i3, i4, i5⟩ := tickN_spoke (q := q) (m := { m with now := m.now + 80, evs := [] }) (nd := nd) h.net.addrs h1 g.hq h.air a (fun i hi => by
  by_cases hia : i = a
  ·right
   refine ⟨hia, (rqP (adr a) (adr b) ((tauN (r + 1) : Nat) : Int) ((0 : Nat) : Int) (UInt32.ofNat (r + 1)) (UInt32.ofNat (r + 1 + 1))).out, ?_⟩
   rw [hia]; exact hfr
  ·exact .inl (hidle i hi hia).frames) q (Nat.le_refl _)
 have hnet : Net q H (turnN (r + 1)).T (Ms.tickN q { m with now := m.now + 80, evs := [] }) := ⟨i3.trans h.net.addrs, fun i j hi hj => by unfold Ms.hear; rw [i2]; exact h.net.hear i j hi hj, by
  rw [i1]
  show (m.now + 80).toNat = dueN' (r + 1 - 1)
  rw [hnow, hT]; rfl⟩
 refine flood_start (nd := fun i => (nd i).tickF (m.now + 80)) (r := r) g rfl hr.2 ?_ hnet (fun i hi => ?_) (fun i hi hia => ⟨(h2 i hi hia).1.idle (hidle i hi hia), by rw [(hidle i hi hia).ls]; exact (h2 i hi hia).2⟩) haw ?_
 ·have : r = 1 ∨ r = 2 ∨ r = 3 := by omega
  rcases this with rfl | rfl | rfl <;> decide
 ·have := i4 i hi
  rw [if_pos hi] at this
  exact this
 ·rw [i5, if_pos ⟨g.ha, g.ha⟩]
  have e1 : (nd a).tickF ({ m with now := m.now + 80, evs := [] } : Ms).now = (nd a).tickF (m.now + 80) := rfl
  rw [e1, hfr]
  simp only [List.flatMap_cons, List.flatMap_nil, List.append_nil]
  exact fan_cast (T := T + 80) (m := { m with now := m.now + 80, evs := [] }) ⟨h.net.addrs, h.net.hear, hnow⟩ g.ha _
def rN (i : Nat) : Nat := if i < 3 then 1 else if i < 8 then 2 else if i < 15 then 3 else 4
def Lull (q a b : Nat) (H : Nat → Nat → Bool) (tx : Str) (i c : Nat) (m : Ms) : Prop := (c = 0 ∧ i < 15 ∧ Failed q a b H tx (rN i) (tauN (rN i)) (dueN' (rN i)) (80 * i) m) ∨ (c = 1 ∧ Done q m)
def InRound (q a b : Nat) (H : Nat → Nat → Bool) (tx : Str) (i j c : Nat) (m : Ms) : Prop := (∃ ph mu, mu + j ≤ 56 ∧ (c = if ph = 3 then 1 else 0) ∧ 80 * i = dueN' (rN i - 1) ∧ Flood q a b H tx (turnN (rN i)) ph mu m) ∨ (j = 0 ∧ m.air = [] ∧ Lull q a b H tx i c m)
theorem rN_ok (i : Nat) : 1 ≤ rN i ∧ rN i ≤ 4 := by unfold rN; (repeat' split) <;> omega
theorem InRound.end_ {i j c : Nat} {m : Ms} (g : Set0 q a b H tx) (hc : ∀ i, i + 1 < q → H i (i + 1) = true) (h : InRound q a b H tx i j c m) (ha : m.air = []) : Lull q a b H tx i c m := by
 rcases h with ⟨ph, mu, h1, h2, h3, h4⟩ | ⟨_, _, h⟩
 ·rcases h4.end_ g hc ha with ⟨rfl, h5, h6⟩ | ⟨rfl, h5⟩
  ·left
   refine ⟨by simpa using h2, ?_, ?_⟩
   ·have h7 : tauN (rN i) ≠ 8 := h5
    unfold rN at h7
    by_cases h15 : i < 15
    ·exact h15
    ·rw [if_neg (by omega), if_neg (by omega), if_neg (by omega)] at h7
     exact absurd rfl h7
   ·have h7 : Failed q a b H tx (rN i) (tauN (rN i)) (dueN' (rN i)) (dueN' (rN i - 1)) m := h6
    rw [h3]; exact h7
  ·right
   exact ⟨by simpa using h2, h5⟩
 ·exact h
theorem InRound.step {i j c : Nat} {m : Ms} (g : Set0 q a b H tx) (h : InRound q a b H tx i j c m) (hinv : ∀ i t, m.At i t → t.Inv) {k : Nat} (hk : k < m.air.length) {o : OpD} (ho : o.kind = 4) (hoa : o.a = (k : Int)) : ∃ c', InRound q a b H tx i (j + 1) c' (m.do_ o) ∧ EvOk a b tx (m.do_ o).evs (c' - c) ∧ c ≤ c' ∧ j + 1 ≤ 56 := by
 rcases h with ⟨ph, mu, h1, h2, h3, h4⟩ | ⟨_, h, _⟩
 ·obtain ⟨ph', mu', k1, k2, k3, k4⟩ := h4.deliver (turnN_ok (rN_ok i)) g hinv hk ho hoa
  refine ⟨if ph' = 3 then 1 else 0, .inl ⟨ph', mu', by omega, rfl, h3, k1⟩, by rw [h2]; exact k4, ?_, by omega⟩
  rw [h2]
  have hph : ph' ≤ 3 := by
   obtain ⟨_, nd, d, e, tk, rs, mt, hX⟩ := k1
   have := hX.tok
   cases this <;> decide
  split <;> split <;> omega
 ·rw [h] at hk
  exact absurd hk (Nat.not_lt_zero _)
theorem Lull.tick {i c : Nat} {m : Ms} (g : Set0 q a b H tx) (h : Lull q a b H tx i c m) {o : OpD} (ho : Tick80 o) : InRound q a b H tx (i + 1) 0 c (m.do_ o) := by
  rcases h with ⟨rfl, h1, h2⟩ | ⟨rfl, h2⟩
  · by_cases hd : 80 * i + 80 = dueN' (rN i)
    · have hr : 1 ≤ rN i ∧ rN i ≤ 3 := by
        refine ⟨(rN_ok i).1, ?_⟩
        unfold rN
        rw [if_pos h1]
        (repeat' split) <;> omega
      obtain ⟨mu, k1, k2⟩ := h2.again g hr hd ho
      have hrn : rN (i + 1) = rN i + 1 := by
        unfold rN at hd ⊢
        unfold dueN' at hd
        (repeat' split at hd) <;> (repeat' split) <;> omega
      left
      refine ⟨0, mu, by omega, rfl, ?_, by rw [hrn]; exact k2⟩
      rw [hrn, Nat.add_sub_cancel]; omega
    · right
      have hlt : 80 * i + 80 < dueN' (rN i) ∧ dueN' (rN i) < 3000 ∧ i + 1 < 15 ∧ rN (i + 1) = rN i := by
        unfold rN at hd ⊢
        unfold dueN' at hd ⊢
        (repeat' split at hd) <;> (repeat' split) <;> omega
      have h3 := h2.tick g hlt.1 hlt.2.1 ho
      refine ⟨rfl, h3.air, .inl ⟨rfl, hlt.2.2.1, ?_⟩⟩
      rw [hlt.2.2.2, show 80 * (i + 1) = 80 * i + 80 by omega]
      exact h3
  · right
    have h3 := h2.tick g.hq ho
    exact ⟨rfl, h3.air, .inr ⟨rfl, h3⟩⟩
theorem Lull.last {c : Nat} {i : Nat} {m : Ms} (h : Lull q a b H tx i c m) (hi : 15 ≤ i) : c = 1 := by
 rcases h with ⟨_, h, _⟩ | ⟨h, _⟩
 ·omega
 ·exact h
end
end

section
section
variable {q a b : Nat} {H : Nat → Nat → Bool} {tx : Str}
theorem fresh_node (x : UInt32) : (Nd.new x [] 0).self = x ∧ (Nd.new x [] 0).silent = 0 ∧ (Nd.new x [] 0).seq = 1 ∧ (Nd.new x [] 0).ls = [] ∧ (Nd.new x [] 0).seen = [] ∧ (Nd.new x [] 0).order = [] ∧ (Nd.new x [] 0).wait = [] ∧ (Nd.new x [] 0).srs = [] ∧ (Nd.new x [] 0).clk = [] ∧ (Nd.new x [] 0).names = 0 ∧ (Nd.new x [] 0).ids = 0 ∧ (Nd.new x [] 0).datas = 0 ∧ (Nd.new x [] 0).sent = [] := by
 have h := Nd.new_same x [] 0
 have e : Nd.booted x [] 0 = Nd.blank x := by unfold Nd.booted; rw [if_neg (by simp)]
 rw [e] at h
 exact ⟨h.self, h.silent, h.seq, h.ls, h.seen, h.order, h.wait, h.srs, h.clk, h.names, h.ids, h.datas, h.sent⟩
theorem fresh_pn (A B x : UInt32) : PN A B x 0 (Nd.new x [] 0) ∧ viewT (Nd.new x [] 0).ls B = none := by
 obtain ⟨h1, h2, h3, h4, h5, h6, h7, h8, h9, _⟩ := fresh_node x
 refine ⟨⟨h1, h2, h8, h9, fun l hl => (by rw [h4] at hl; cases hl), fun l hl => (by rw [h4] at hl; cases hl), by rw [h6]; simp, fun id _ => (by rw [h5]; rfl)⟩, by rw [h4]; rfl⟩
theorem fresh_send {A B : UInt32} (hAB : A ≠ B) : AW A B tx 1 (tauN 1) (dueN' 1) ((Nd.new A [] 0).sendF 0 B tx) ∧ ((Nd.new A [] 0).sendF 0 B tx).out.frames = [(0, (rqP A B ((tauN 1 : Nat) : Int) ((0 : Nat) : Int) (UInt32.ofNat 1) (UInt32.ofNat (1 + 1))).out)] := by
 obtain ⟨h1, h2, h3, h4, h5, h6, h7, h8, h9, h10, h11, h12, h13⟩ := fresh_node A
 generalize Nd.new A [] 0 = s at *
 obtain ⟨bk, bs, bo⟩ := s.begun 0
 have bl : (s.begin 0).ls = [] := by rw [Nd.begin_ls, h4]; rfl
 have bf := s.begin_frames 0
 have hself := bk.self.trans h1
 have hsil := bk.silent.trans h2
 have hseq := bk.seq.trans h3
 have hord := bo.trans h6
 have hwait := bk.wait.trans h7
 have hsrs := bk.srs.trans h8
 have hclk := bk.clk.trans h9
 have hnam := bk.names.trans h10
 have hids := bk.ids.trans h11
 have hdat := bk.datas.trans h12
 have hsent := bk.sent.trans h13
 have hnow := bk.now
 unfold Nd.sendF
 generalize s.begin 0 = s0 at *
 have e1 : s0.sendT B tx = Nd.ask { s0 with wait := [(B, [tx])], names := 1, srs := [⟨B, 1, 0, false, 1⟩] } 0 ⟨B, 1, 0, false, 1⟩ := by
  rw [Nd.sendT_eq]
  have e2 : lookT s0.ls B s0.now = none := by rw [bl]; rfl
  rw [e2, if_neg (by decide)]
  have e3 : s0.texts B = [] := by unfold Nd.texts; rw [hwait]; rfl
  have e4 : s0.roomFor B = s0 := by unfold Nd.roomFor; rw [e3, if_neg (by decide)]
  rw [e4]
  have e5 : srFind (s0.put B tx).srs B = none := by show srFind s0.srs B = none; rw [hsrs]; rfl
  rw [e5]
  simp only
  unfold Nd.begins Nd.newSr Nd.put
  simp only [e3, hwait, hsrs, hnam]
  rfl
 rw [e1]
 have hA := ask_out (s := { s0 with wait := [(B, [tx])], names := 1, srs := [⟨B, 1, 0, false, 1⟩] }) (x := ⟨B, 1, 0, false, 1⟩) (x0 := ⟨B, 1, 0, false, 1⟩) bl hsil (by show s0.sent.length ≤ 4; rw [hsent]; simp) (by show s0.order.length ≤ 14; rw [hord]; simp) rfl
 generalize Nd.ask { s0 with wait := [(B, [tx])], names := 1, srs := [⟨B, 1, 0, false, 1⟩] } 0 ⟨B, 1, 0, false, 1⟩ = u at *
 obtain ⟨k1, k2, k3, k4, k5, k6⟩ := u.ended
 have eseq : ({ s0 with wait := [(B, [tx])], names := 1, srs := [⟨B, 1, 0, false, 1⟩] } : Nd).seq = 1 := hseq
 have eids : ({ s0 with wait := [(B, [tx])], names := 1, srs := [⟨B, 1, 0, false, 1⟩] } : Nd).ids = 0 := hids
 refine ⟨⟨?_, ?_, ?_, ?_, ?_, ?_, ?_, ?_, ?_, ?_, ?_⟩, ?_⟩
 ·rw [k1.self, hA.self]; exact hself
 ·rw [k1.silent, hA.silent]; exact hsil
 ·rw [k2, hA.ls]; exact bl
 ·rw [k1.wait, hA.wait]
 ·rw [k1.srs, hA.srs]; rfl
 ·refine ⟨s0.last + 1, ?_⟩
  rw [k1.clk, hA.clk]
  have e8 : ({ s0 with wait := [(B, [tx])], names := 1, srs := [⟨B, 1, 0, false, 1⟩] } : Nd).now + askWait ⟨B, 1, 0, false, 1⟩ = UInt64.ofNat (dueN' 1) := by
   show s0.now + _ = _
   rw [hnow]; rfl
  rw [e8]
  show s0.clk ++ _ = _
  rw [hclk]
  rfl
 ·rw [k1.ids, hA.ids, eids]; rfl
 ·rw [k1.datas, hA.datas]; exact hdat
 ·rw [k1.seq, hA.seq, eseq]; rfl
 ·rw [k1.sent]; have := hA.sent; exact Nat.le_trans this (by show s0.sent.length + 1 ≤ _; rw [hsent]; simp)
 ·rw [k4]; have := hA.order; exact Nat.le_trans this (by show s0.order.length + 1 ≤ _; rw [hord]; simp)
 ·rw [k5, hA.frames, eids, eseq]
  show s0.out.frames ++ [(0, Pk.out ⟨_, 1, 0, true, _, B, 0, s0.self, _, 0, [], []⟩)] = _
  rw [bf, hself]
  rfl
structure Pre (q c : Nat) (m : Ms) : Prop where
  addrs : m.sts.map (·.addr) = (List.range q).map adr
  air : m.air = []
  now : m.now = 0
  at_ : ∀ i, i < q → m.At i (Nd.new (adr i) [] 0)
  sym : ∀ i j, i < q → j < q → m.hear i j = true → m.hear j i = true
  irr : ∀ i, i < q → m.hear i i = false
  chain : ∀ i, i < c → i + 1 < q → m.hear i (i + 1) = true
theorem Pre.new (q : Nat) : Pre q 0 (Ms.new (adrs q)) := by
 have ha : (Ms.new (adrs q)).sts.map (·.addr) = (List.range q).map adr := by
  show ((adrs q).map newSta).map (·.addr) = _
  rw [List.map_map]
  show (adrs q).map (fun a => a) = _
  simp [adrs]
 refine ⟨ha, rfl, rfl, fun i hi => ⟨newSta (adr i), ?_, rfl, rfl, rfl⟩, fun i j _ _ h => (by cases h), fun i _ => rfl, fun i h => absurd h (Nat.not_lt_zero _)⟩
 show ((adrs q).map newSta)[i]? = _
 unfold adrs
 simp [hi]
theorem hear_link (m : Ms) (i j : Nat) (x y : Nat) (hi : i < 6) (hj : j < 6) (hx : x < 6) (hy : y < 6) : (m.link i j true).hear x y = if (x = i ∧ y = j) ∨ (x = j ∧ y = i) then true else m.hear x y := by
 show (if x * 6 + y = i * 6 + j ∨ x * 6 + y = j * 6 + i then true else m.hears (x * 6 + y)) = _
 by_cases h : (x = i ∧ y = j) ∨ (x = j ∧ y = i)
 ·rw [if_pos h, if_pos (by rcases h with ⟨rfl, rfl⟩ | ⟨rfl, rfl⟩; exact .inl rfl; exact .inr rfl)]
 ·rw [if_neg h, if_neg (by omega)]; rfl
theorem do_link {m : Ms} {o : OpD} {i j : Nat} (hk : o.kind = 1) (hi : o.a = (i : Int)) (hj : o.b = (j : Int)) (hon : o.on = true) (h1 : i < m.sts.length) (h2 : j < m.sts.length) : m.do_ o = if i ≠ j then Ms.link { m with evs := [] } i j true else { m with evs := [] } := by
 rw [Ms.do_node (.inl hk)]
 have hb : Ms.bars { m with evs := [] } o = false := by
  unfold Ms.bars
  have e1 : Ms.at_ { m with evs := [] } o.a = m.sts[i]? := by rw [hi]; exact Ms.at_nat _ i
  have e2 : Ms.at_ { m with evs := [] } o.b = m.sts[j]? := by rw [hj]; exact Ms.at_nat _ j
  rw [e1, e2, hk, List.getElem?_eq_getElem h1, List.getElem?_eq_getElem h2]
  rfl
 rw [Ms.nodeOp_link hb hk, hi, hj, hon]
 by_cases e : i = j
 ·subst e; rw [if_neg (by simp), if_neg (by simp)]
 ·rw [if_pos (by omega), if_pos e]; rfl
theorem Pre.link {c : Nat} {m : Ms} (h : Pre q c m) (hq : q ≤ 6) {o : OpD} {i j : Nat} (hk : o.kind = 1) (hi : o.a = (i : Int)) (hj : o.b = (j : Int)) (hon : o.on = true) (h1 : i < q) (h2 : j < q) : Pre q (if i = c ∧ j = c + 1 then c + 1 else c) (m.do_ o) := by
 have hlen : m.sts.length = q := by
  have := congrArg List.length h.addrs
  simpa using this
 rw [do_link hk hi hj hon (by omega) (by omega)]
 by_cases e : i = j
 ·subst e
  rw [if_neg (show ¬ (i = c ∧ i = c + 1) by omega), if_neg (show ¬ i ≠ i from fun h => h rfl)]
  exact ⟨h.addrs, h.air, h.now, h.at_, h.sym, h.irr, h.chain⟩
 ·rw [if_pos e]
  have hl : ∀ x y, x < q → y < q → (Ms.link { m with evs := [] } i j true).hear x y = if (x = i ∧ y = j) ∨ (x = j ∧ y = i) then true else m.hear x y := fun x y hx hy => hear_link { m with evs := [] } i j x y (by omega) (by omega) (by omega) (by omega)
  refine ⟨h.addrs, h.air, h.now, h.at_, fun x y hx hy hh => ?_, fun x hx => ?_, fun x hx hxq => ?_⟩
  ·rw [hl x y hx hy] at hh
   rw [hl y x hy hx]
   split
   ·rfl
   ·rw [if_neg (by omega)] at hh
    exact h.sym x y hx hy hh
  ·rw [hl x x hx hx, if_neg (by omega)]
   exact h.irr x hx
  ·rw [hl x (x + 1) (by omega) hxq]
   split
   ·rfl
   ·rename_i hn
    refine h.chain x ?_ hxq
    split at hx <;> omega
theorem Pre.set {c : Nat} {m : Ms} (h : Pre q c m) (hq : q ≤ 6) (ha : a < q) (hb : b < q) (hab : a ≠ b) (ht : tx.length ≤ 16) : Set0 q a b m.hear tx := ⟨hq, ha, hb, hab, h.sym, h.irr, ht⟩
theorem Pre.send' {c : Nat} {m : Ms} (h : Pre q c m) (g : Set0 q a b m.hear tx) {o : OpD} (hk : o.kind = 2) (hoa : o.a = (a : Int)) (hob : o.b = (b : Int)) (hot : o.text = tx) : InRound q a b m.hear tx 0 0 0 (m.nodeOp o) := by
 have hlen : m.sts.length = q := by
  have := congrArg List.length h.addrs
  simpa using this
 obtain ⟨s, s1, s2, s3, s4⟩ := h.at_ a g.ha
 obtain ⟨z, z1, z2, z3, z4⟩ := h.at_ b g.hb
 have e1 : m.at_ o.a = some s := by rw [hoa]; exact (Ms.at_nat _ a).trans s1
 have e2 : m.at_ o.b = some z := by rw [hob]; exact (Ms.at_nat _ b).trans z1
 have hb : m.bars o = false := by
  unfold Ms.bars
  rw [e1, e2, hk]
  simp only [Option.bind_some, s2]
  rfl
 have hself := (fresh_node (adr a)).1
 rw [Ms.nodeOp_send hb hk e1 s2 e2]
 have hE : Nd.sendE (Nd.new (adr a) [] 0) z.addr o.text = 0 := by
  unfold Nd.sendE
  rw [if_neg (by rw [hot]; have := g.htx; omega), if_neg]
  rw [z4, hself]
  rintro (h | h)
  ·exact g.ne g.hb g.ha (Ne.symm g.ab) h
  ·exact g.nz g.hb h
 have hnow : m.now = 0 := h.now
 have hat : o.a.toNat = a := by rw [hoa]; rfl
 rw [if_pos hE, z4, hot, hat, hnow]
 obtain ⟨f1, f2⟩ := fresh_send (tx := tx) (g.ne g.ha g.hb g.ab)
 have hs := emit_spoke (m := m) (i := a) (s0 := Nd.new (adr a) [] 0) (t := (Nd.new (adr a) [] 0).sendF 0 (adr b) tx) (h.at_ a g.ha) (.inr ⟨_, f2, .inl rfl⟩) (by rw [h.air]; show 0 + m.sts.length ≤ 48; have := g.hq; omega)
 have n : Net q m.hear 0 m := ⟨h.addrs, fun i j _ _ => rfl, by rw [hnow]; rfl⟩
 obtain ⟨mu, h1, h2⟩ := flood_start (w := turnN 1) (r := 0) (nd := fun i => if i = a then (Nd.new (adr a) [] 0).sendF 0 (adr b) tx else Nd.new (adr i) [] 0) g rfl (by omega) (by decide) (hs.net n) (fun i hi => by
   by_cases e : i = a
   ·subst e
    simp only [if_true]
    exact hs.here
   ·simp only [if_neg e]
    exact (hs.others i _ e).2 (h.at_ i hi)) (fun i hi hia => by
   simp only [if_neg hia]
   exact fresh_pn _ _ _) (by simp only [if_true]; exact f1) (by
   rw [hs.air, f2]
   simp only [List.flatMap_cons, List.flatMap_nil, List.append_nil]
   rw [h.air, List.nil_append]
   exact fan_cast n g.ha _)
 exact .inl ⟨0, mu, by omega, rfl, rfl, h2⟩
theorem Pre.send {c : Nat} {m : Ms} (h : Pre q c m) (g : Set0 q a b m.hear tx) {o : OpD} (hk : o.kind = 2) (hoa : o.a = (a : Int)) (hob : o.b = (b : Int)) (hot : o.text = tx) : InRound q a b m.hear tx 0 0 0 (m.do_ o) := by
 rw [Ms.do_node (.inr (.inl hk))]
 have h' : Pre q c { m with evs := [] } := ⟨h.addrs, h.air, h.now, h.at_, h.sym, h.irr, h.chain⟩
 exact h'.send' g hk hoa hob hot
end
end

section
variable {T : Str → UInt32 → UInt32 → Prop}
def sends (o : OpD) : Str → Nat := fun x => if o.kind = 2 ∧ o.text = x then 1 else 0
end

section
open Go.RowKit
theorem evsO_at {es : List ES} {j : Nat} {e : ES} (h : es[j]? = some e) : evsO es = evsO (es.take j) * (evO e * evsO (es.drop (j + 1))) := by
 have h1 : es = es.take j ++ (e :: es.drop (j + 1)) := by
  obtain ⟨h2, h3⟩ := List.getElem?_eq_some_iff.1 h
  conv => lhs; rw [← List.take_append_drop j es, List.drop_eq_getElem_cons h2, h3]
 conv => lhs; rw [h1, evsO_append, evsO]
theorem WS_lenC {P : Program} {n : Frm} {w0 : World} {E : Env} {D : List Deferred} {H F : HProp} {Q : Exit → St → Prop} {c : Code} {α : Type} {e : TypeId} {size : Nat} {f : α → List Value} {l : List α} (v : Value) (hl : RowsOf H v α e size f l F) (h : l.length ≤ maxLen → (∀ A k q, v = .slice A k q → k = l.length) → WS P n w0 c Q ⟨E, D, H⟩) : WS P n w0 c Q ⟨E, D, H⟩ := fun a w g => by
 have hs := g.sat.cast hl.eq
 unfold rows at hs
 obtain ⟨_, ⟨A, hv, h0, _⟩ | ⟨g', off, cap, cur, fr, hv, h1, h2, _⟩⟩ := hs.slc_cases
 ·exact h (by omega) (fun A' k q e => by rw [hv] at e; cases e; exact h0.symm) a w g
 ·exact h (by omega) (fun A' k q e => by rw [hv] at e; cases e; rfl) a w g
attribute [local irreducible] WS LS OpQ OpT OpH OpTQ Spec SpecQ cel
variable (w0 : World)
end

section
open Go.RowKit
variable {P : Program} {n : Frm} {w0 : World} {E : Env} {D : List Deferred} {H F R L : HProp} {ops : Array Oper} {Q : Exit → St → Prop} {post : List Nat} {f : Nat} {listed : Array Bool} {c : Bool}
section
variable {i d : Nat} {op : Op} {ty : TypeId} {pos : String} {after : Array Edge} {v : Value}
end
theorem WS_midK {x y : Code} {σ : St} {K : St → Prop} (hK : ∀ τ, WS P n w0 y Q τ → K τ) (I : St → Prop) (h : WS P n w0 x (thenS (fun σ' => ∃ τ', I τ' ∧ τ'.E.sub σ'.E ∧ τ'.D = σ'.D ∧ Ent σ'.H τ'.H) Q) σ) (hm : ∀ τ, I τ → WS P n w0 y Q τ) : WS P n w0 x (thenS K Q) σ := h.mono fun e σ' h => by
 cases e with
 | normal =>
  obtain ⟨τ', hI, e1, e2, e3⟩ := h
  exact hK _ fun a w g => hm τ' hI a w (g.low e1 e2 e3)
 | _ => exact h
end

section
open Go.RowKit
theorem pick_nat (n : Int) {m : Nat} (hm : 0 < m) : ∃ k : Nat, (if n < 0 then -(n + 1) else n) % (m : Int) = (k : Int) ∧ k < m := by
 have h1 : 0 ≤ (if n < 0 then -(n + 1) else n) % (m : Int) := Int.emod_nonneg _ (by omega)
 have h2 : (if n < 0 then -(n + 1) else n) % (m : Int) < (m : Int) := Int.emod_lt_of_pos _ (by omega)
 exact ⟨((if n < 0 then -(n + 1) else n) % (m : Int)).toNat, by omega, by omega⟩
theorem succ_mod (a q : Nat) : ((a : Int) + 1) % (q : Int) = (((a + 1) % q : Nat) : Int) := by
 rw [Int.natCast_emod]; rfl
theorem other_node {a q : Nat} (h2 : 2 ≤ q) (ha : a < q) : (a + 1) % q < q ∧ a ≠ (a + 1) % q := by
 refine ⟨Nat.mod_lt _ (by omega), ?_⟩
 by_cases h : a + 1 = q
 ·rw [h, Nat.mod_self]; omega
 ·rw [Nat.mod_eq_of_lt (by omega)]; omega
theorem BndI.inv {q i : Nat} {m : Ms} (h : BndI q i m) : ∀ i t, m.At i t → t.Inv := fun j t ht => by
 obtain ⟨s, h1, h2, _⟩ := ht
 exact ((h.fine.sound j s h1).node t h2).1.inv
theorem BndI.le {q i j : Nat} {m : Ms} (h : BndI q i m) (hij : i ≤ j) : BndI q j m := ⟨h.fine.mono hij, Nat.le_trans h.now (Nat.mul_le_mul_right _ hij), h.addrs⟩
theorem Pre.le {q c c' : Nat} {m : Ms} (h : Pre q c m) (hc : c' ≤ c) : Pre q c' m := ⟨h.addrs, h.air, h.now, h.at_, h.sym, h.irr, fun i hi => h.chain i (by omega)⟩
theorem InRound.last {q a b i c : Nat} {H : Nat → Nat → Bool} {tx : Str} {m : Ms} (h : InRound q a b H tx i 0 c m) (hi : i = 40) : c = 1 := by
 subst hi
 rcases h with ⟨ph, mu, h1, h2, h3, h4⟩ | ⟨_, _, h⟩
 ·exact absurd h3 (by decide)
 ·exact h.last (by omega)
theorem InRound.le1 {q a b i j c : Nat} {H : Nat → Nat → Bool} {tx : Str} {m : Ms} (h : InRound q a b H tx i j c m) : c ≤ 1 := by
 rcases h with ⟨ph, mu, h1, h2, h3, h4⟩ | ⟨_, _, h⟩
 ·rw [h2]; split <;> omega
 ·rcases h with ⟨h, _⟩ | ⟨h, _⟩ <;> omega
theorem Q_remN {P : Program} {n : Frm} {w0 : World} {E : Env} {H : HProp} {d : Option Tmp} {ty : TypeId} {pos : String} {after : Array Edge} {gu : Option (Nat × Bool)} {x y : Operand} {t t2 : TypeId} {a b : Nat} (hx : E.ev x = some (.int .i64 (a : Int))) (hy : E.ev y = some (.int .i64 (b : Int))) (h : 0 < b) : OpQ P n w0 ⟨d, .binOp .rem t x y t2, ty, pos, after, gu⟩ E H (.int .i64 ((a % b : Nat) : Int)) := by
 rw [Int.natCast_emod]
 exact Q_remI hx hy (by omega)
theorem Q_incN {P : Program} {n : Frm} {w0 : World} {E : Env} {H : HProp} {d : Option Tmp} {ty : TypeId} {pos : String} {after : Array Edge} {gu : Option (Nat × Bool)} {x : Operand} {t t2 : TypeId} {a : Nat} (hx : E.ev x = some (.int .i64 (a : Int))) (h : a ≤ 1000000) : OpQ P n w0 ⟨d, .binOp .add t x (.const (.int .i64 1)) t2, ty, pos, after, gu⟩ E H (.int .i64 ((a + 1 : Nat) : Int)) := by
 rw [Int.natCast_add]
 exact Q_addI hx rfl (by omega)
def camSum (l : List Ev) : Nat := (l.map fun e => e.out.came.length).sum
theorem camSum_snoc {l : List Ev} {j : Nat} {e : Ev} (h : l[j]? = some e) : camSum (l.take (j + 1)) = camSum (l.take j) + e.out.came.length := by
 unfold camSum
 rw [List.take_add_one, h]
 simp
theorem camSum_le (l : List Ev) (j : Nat) : camSum (l.take j) ≤ camSum l := by
 have h : camSum l = camSum (l.take j) + camSum (l.drop j) := by
  have := congrArg camSum (List.take_append_drop j l)
  rw [← this]
  unfold camSum
  rw [List.map_append, List.sum_append]
 omega
theorem camSum_all (l : List Ev) {j : Nat} (h : l.length ≤ j) : camSum (l.take j) = camSum l := by rw [List.take_of_length_le h]
attribute [local irreducible] WS LS OpQ OpT OpH OpTQ Spec SpecQ cel
variable (w0 : World)
set_option maxRecDepth 100000 in
theorem arrives_law (n fa ta : Int) (hn : -9223372036854775808 ≤ n ∧ n ≤ 9223372036854775807) (hfa : -9223372036854775808 ≤ fa ∧ fa ≤ 9223372036854775807) (hta : -9223372036854775808 ≤ ta ∧ ta ≤ 9223372036854775807) (vl vo : Value) (ls os : List Int) (hls : ∀ x ∈ ls, -9223372036854775808 ≤ x ∧ x ≤ 9223372036854775807) (hos : ∀ x ∈ os, -9223372036854775808 ≤ x ∧ x ≤ 9223372036854775807) (tx : Str) (X : HProp) [hX : Rdr w0 X vl Int 1 intC ls] [hY : Rdr w0 X vo Int 1 intC os] :
    Spec Tryz.prog w0 7 [.int .i64 n, vl, vo, .int .i64 fa, .int .i64 ta, strV tx] X (fun _ : Unit => .bool true) (fun _ => X) := by
  refine Spec.enter Tryz.func7 rfl Tryz.ntmps7 rfl fun G => ?_
  have p1 := keepPick_spec w0 n 5 hn (by omega)
  obtain ⟨pk, hpk, hpk4⟩ := pick_nat n (m := 5) (by omega)
  have hpk' : (if n < 0 then -(n + 1) else n) % 5 = (pk : Int) := hpk
  rw [hpk'] at p1
  obtain ⟨q, hqe, hq6, hq2⟩ : ∃ q : Nat, 2 + (pk : Int) = (q : Int) ∧ q ≤ 6 ∧ 2 ≤ q := ⟨pk + 2, by omega, by omega, by omega⟩
  have p2 := keepRow_spec w0 q ⟨by omega, hq6⟩
  simp only [argE]
  repeat' (first | (refine WS_seqK ?_; intro K hK) | (refine hK _ ?_; clear hK K) | refine stZ ?_ | refine sqZ ?_ | (refine LS_h (H_callX iI rfl p1 ⟨emp_star.symm⟩) rfl ?_; intro u1))
  rw [hqe]
  by_cases hbig : (16 : Int) < (tx.length : Int)
  · repeat' (first | (refine WS_seqK ?_; intro K hK) | (refine hK _ ?_; clear hK K) | refine stZ ?_ | (refine s2Z ?_ ?_ <;> intro hc <;> (try simp only [cS] at hc) <;> (try (exfalso; first | contradiction | omega))) | refine sbZ ?_ | refine sqZ ?_ | ((refine' LQ ?zh rfl ?_); case zh => intro F'; exact Q_bin rfl rfl iI) | (refine LS_h (H_callX iI rfl p2 ⟨emp_star.symm⟩) rfl ?_; intro x))
    exact ret_tmp (.inl rfl) rfl rfl ⟨(), rfl, finE⟩
  by_cases hbig2 : (64 : Int) < (ls.length : Int)
  · repeat' (first | (refine WS_seqK ?_; intro K hK) | (refine hK _ ?_; clear hK K) | refine stZ ?_ | (refine s2Z ?_ ?_ <;> intro hc <;> (try simp only [cS] at hc) <;> (try (exfalso; first | contradiction | omega))) | refine sbZ ?_ | refine sqZ ?_ | ((refine' LQ ?zh rfl ?_); case zh => intro F'; exact Q_bin rfl rfl iI) | (refine LS_h (H_callX iI rfl p2 ⟨emp_star.symm⟩) rfl ?_; intro x))
    exact ret_tmp (.inl rfl) rfl rfl ⟨(), rfl, finE⟩
  have htx : tx.length ≤ 16 := by omega
  have hls64 : ls.length ≤ 64 := by omega
  repeat' (first | (refine WS_seqK ?_; intro K hK) | (refine hK _ ?_; clear hK K) | refine stZ ?_ | (refine s2Z ?_ ?_ <;> intro hc <;> (try simp only [cS] at hc) <;> (try (exfalso; first | contradiction | omega))) | refine sbZ ?_ | refine sqZ ?_ | ((refine' LQ ?zh rfl ?_); case zh => intro F'; exact Q_bin rfl rfl iI) | (refine LS_h (H_callX iI rfl p2 ⟨emp_star.symm⟩) rfl ?_; intro x))
  refine WS_loop (fun kk τ => ∃ (i : Nat) (m : Ms), i + kk = q ∧ i + 1 ≤ q ∧ BndI q i m ∧ Pre q i m ∧ τ = ⟨[(15, .int .i64 (i : Int)), (14, ptr x.1 0), (13, .int .i64 (q : Int)), (5, strV tx), (4, .int .i64 ta), (3, .int .i64 fa), (2, vo), (1, vl), (0, .int .i64 n)], [], mshI x.1 x.2 m * (X * G)⟩) ?_ ?_
  · exact ⟨q, _, ⟨0, _, by omega, by omega, BndI.new hq6, Pre.new q, rfl⟩, ⟨rfl, rfl, rfl, rfl, rfl, rfl, rfl, rfl, rfl, trivial⟩, rfl, finE⟩
  rintro kk τ ⟨i, m, hik, hiq, hB, hP, rfl⟩
  rcases Nat.lt_or_ge (i + 1) q with hlt | hge
  · have h1 : (i : Int) + 1 < (q : Int) := by omega
    have hok : OpD.Ok ⟨1, (i : Int), (i : Int) + 1, 0, true, []⟩ := ⟨by show -9223372036854775808 ≤ (0 : Int) ∧ (0 : Int) ≤ 9223372036854775807; omega, fun h => by cases h⟩
    have hB2 := hB.step (by omega) hok
    have hP2 := hP.link hq6 (o := ⟨1, (i : Int), (i : Int) + 1, 0, true, []⟩) (i := i) (j := i + 1) rfl rfl (by show (i : Int) + 1 = ((i + 1 : Nat) : Int); omega) rfl (by omega) hlt
    rw [if_pos ⟨rfl, rfl⟩] at hP2
    have p3 := mdo_spec w0 x.1 x.2 m ⟨1, (i : Int), (i : Int) + 1, 0, true, []⟩ i hB.fine (by omega) (by have := hB.now; omega) hok
    simp only [opA, opC] at p3
    generalize m.do_ ⟨1, (i : Int), (i : Int) + 1, 0, true, []⟩ = m2 at *
    repeat' (first | (refine WS_seqK ?_; intro K hK) | (refine hK _ ?_; clear hK K) | refine stZ ?_ | (refine s2Z ?_ ?_ <;> intro hc <;> (try simp only [cS] at hc) <;> (try (exfalso; first | contradiction | omega))) | refine sbZ ?_ | refine sqZ ?_ | (refine LS_h (H_callX iI rfl p3 iI) rfl ?_; intro x3))
    exact ⟨kk - 1, _, by omega, ⟨i + 1, m2, by omega, by omega, hB2, hP2, rfl⟩, ⟨rfl, rfl, rfl, rfl, rfl, rfl, rfl, rfl, rfl, trivial⟩, rfl, finE⟩
  have h1 : ¬ (i : Int) + 1 < (q : Int) := by omega
  repeat' (first | (refine WS_seqK ?_; intro K hK) | (refine hK _ ?_; clear hK K) | refine stZ ?_ | (refine s2Z ?_ ?_ <;> intro hc <;> (try simp only [cS] at hc) <;> (try (exfalso; first | contradiction | omega))) | refine sbZ ?_ | refine sqZ ?_)
  have hB0 := hB; have hP0 := hP
  clear hB hP
  refine WS_loop (fun kk τ => ∃ (k : Nat) (m : Ms), k + kk = 70 ∧ k ≤ ls.length + 1 ∧ BndI q (q + k) m ∧ Pre q i m ∧ τ = ⟨[(16, .int .i64 (k : Int)), (14, ptr x.1 0), (13, .int .i64 (q : Int)), (5, strV tx), (4, .int .i64 ta), (3, .int .i64 fa), (2, vo), (1, vl), (0, .int .i64 n)], [], mshI x.1 x.2 m * (X * G)⟩) ?_ ?_
  · exact ⟨70, _, ⟨0, m, by omega, by omega, hB0.le (by omega), hP0, rfl⟩, ⟨rfl, rfl, rfl, rfl, rfl, rfl, rfl, rfl, rfl, trivial⟩, rfl, finE⟩
  clear hB0 hP0
  rintro kk τ ⟨k, m, hkk, hkl, hB, hP, rfl⟩
  rcases Nat.lt_or_ge (k + 1) ls.length with hlt | hge2
  · have h2 : (k : Int) + 1 < (ls.length : Int) := by omega
    obtain ⟨z1, hz1⟩ : ∃ z, ls[k]? = some z := ⟨_, List.getElem?_eq_getElem (by omega)⟩
    obtain ⟨z2, hz2⟩ : ∃ z, ls[k + 1]? = some z := ⟨_, List.getElem?_eq_getElem (by omega)⟩
    have p4 := keepPick_spec w0 z1 q (hls z1 (List.mem_of_getElem? hz1)) (by omega)
    have p5 := keepPick_spec w0 z2 q (hls z2 (List.mem_of_getElem? hz2)) (by omega)
    obtain ⟨y1, e1, hy1⟩ := pick_nat z1 (m := q) (by omega)
    obtain ⟨y2, e2, hy2⟩ := pick_nat z2 (m := q) (by omega)
    rw [e1] at p4
    rw [e2] at p5
    have hok : OpD.Ok ⟨1, (y1 : Int), (y2 : Int), 0, true, []⟩ := ⟨by show -9223372036854775808 ≤ (0 : Int) ∧ (0 : Int) ≤ 9223372036854775807; omega, fun h => by cases h⟩
    have hB2 := hB.step (by omega) hok
    have hP2 := hP.link hq6 (o := ⟨1, (y1 : Int), (y2 : Int), 0, true, []⟩) (i := y1) (j := y2) rfl rfl rfl rfl hy1 hy2
    have hP3 : Pre q i (m.do_ ⟨1, (y1 : Int), (y2 : Int), 0, true, []⟩) := hP2.le (by split <;> omega)
    have p3 := mdo_spec w0 x.1 x.2 m ⟨1, (y1 : Int), (y2 : Int), 0, true, []⟩ (q + k) hB.fine (by omega) (by have := hB.now; omega) hok
    simp only [opA, opC] at p3
    clear hP2
    generalize m.do_ ⟨1, (y1 : Int), (y2 : Int), 0, true, []⟩ = m2 at *
    have hk1 : ((k : Int) + 1) = ((k + 1 : Nat) : Int) := by omega
    repeat' (first | (show WS _ _ _ (.region 12 _ true) _ _; refine WS_drawK [0, 1, 2, 3, 4, 5, 7, 8, 9, 10, 11, 12, 6, 13, 14, 15] 15 [3, 4, 9, 10] (by decide +kernel) rfl ?_) | (refine WS_seqK ?_; intro K hK) | (refine hK _ ?_; clear hK K) | refine stZ ?_ | (refine s2Z ?_ ?_ <;> intro hc <;> (try simp only [cS] at hc) <;> (try (exfalso; first | contradiction | omega))) | refine sbZ ?_ | refine sqZ ?_ | (refine DL_h (H_callX iI rfl p4 ⟨emp_star.symm⟩) rfl rfl rfl ?_; intro u4) | (refine DL_h (H_callX iI rfl p5 ⟨emp_star.symm⟩) rfl rfl rfl ?_; intro u5) | (refine DL_h (H_callX iI rfl p3 iI) rfl rfl rfl ?_; intro x3))
    exact ⟨kk - 2, _, by omega, ⟨k + 2, m2, by omega, by omega, hB2.skip, hP3, rfl⟩, ⟨rfl, rfl, rfl, rfl, rfl, rfl, rfl, rfl, rfl, trivial⟩, rfl, finE⟩
  have h2 : ¬ (k : Int) + 1 < (ls.length : Int) := by omega
  have p4 := keepPick_spec w0 fa q hfa (by omega)
  have p5 := keepPick_spec w0 ta q hta (by omega)
  obtain ⟨a, e1, ha⟩ := pick_nat fa (m := q) (by omega)
  obtain ⟨b0, e2, hb0⟩ := pick_nat ta (m := q) (by omega)
  rw [e1] at p4
  rw [e2] at p5
  have hon := other_node hq2 ha
  obtain ⟨b, hb, hab, hbe⟩ : ∃ b : Nat, b < q ∧ a ≠ b ∧ ((b0 = a ∧ b = (a + 1) % q) ∨ (b0 ≠ a ∧ b = b0)) := by
    by_cases e : b0 = a
    · exact ⟨(a + 1) % q, hon.1, hon.2, .inl ⟨e, rfl⟩⟩
    · exact ⟨b0, hb0, Ne.symm e, .inr ⟨e, rfl⟩⟩
  repeat' (first | (show WS _ _ _ (.seq (.seq (.region 15 _ _) _) _) _ _; refine WS_seqK ?_; intro K hK; refine WS_midK hK (fun τ => τ = ⟨[(18, .int .i64 (b : Int)), (17, .int .i64 (a : Int)), (14, ptr x.1 0), (13, .int .i64 (q : Int)), (5, strV tx), (2, vo)], [], mshI x.1 x.2 m * (X * G)⟩) ?_ ?_) | (refine WS_seqK ?_; intro K hK) | (refine hK _ ?_; clear hK K) | refine stZ ?_ | (refine s2Z ?_ ?_ <;> intro hc <;> (try simp only [cS] at hc) <;> (try (exfalso; first | contradiction | omega))) | refine sbZ ?_ | refine sqZ ?_ | ((refine' LQ ?zh rfl ?_); case zh => intro F'; exact Q_remI rfl rfl (by omega)) | ((first | refine LS_binS rfl rfl iI rfl ?_ ?_ | refine LS_binN rfl rfl iI rfl ?_ ?_ | refine DL_binS rfl rfl iI rfl ?_ ?_) <;> intro hc) | (refine LS_h (H_callX iI rfl p4 ⟨emp_star.symm⟩) rfl ?_; intro u4) | (refine LS_h (H_callX iI rfl p5 ⟨emp_star.symm⟩) rfl ?_; intro u5))
  · have hb1 : ((a : Int) + 1) % (q : Int) = (b : Int) := by
      rcases hbe with ⟨_, h⟩ | ⟨h, _⟩
      · rw [succ_mod, h]
      · omega
    rw [hb1]
    exact ⟨_, rfl, ⟨rfl, rfl, rfl, rfl, rfl, rfl, trivial⟩, rfl, finE⟩
  · have hb1 : (b0 : Int) = (b : Int) := by
      rcases hbe with ⟨h, _⟩ | ⟨_, h⟩ <;> omega
    rw [hb1]
    exact ⟨_, rfl, ⟨rfl, rfl, rfl, rfl, rfl, rfl, trivial⟩, rfl, finE⟩
  rintro τ rfl
  have g := hP.set (tx := tx) hq6 ha hb hab htx
  have hok2 : OpD.Ok ⟨2, (a : Int), (b : Int), 0, false, tx⟩ := ⟨by show -9223372036854775808 ≤ (0 : Int) ∧ (0 : Int) ≤ 9223372036854775807; omega, fun h => by cases h⟩
  have hB2 := hB.step (by omega) hok2
  have hR2 := hP.send g (o := ⟨2, (a : Int), (b : Int), 0, false, tx⟩) rfl rfl rfl rfl
  have hch : ∀ i, i + 1 < q → m.hear i (i + 1) = true := fun j hj => hP.chain j (by omega) hj
  have p3 := mdo_spec w0 x.1 x.2 m ⟨2, (a : Int), (b : Int), 0, false, tx⟩ (q + k) hB.fine (by omega) (by have := hB.now; omega) hok2
  simp only [opA, opC] at p3
  have hB3 : BndI q 100 (m.do_ ⟨2, (a : Int), (b : Int), 0, false, tx⟩) := hB2.le (by omega)
  generalize m.do_ ⟨2, (a : Int), (b : Int), 0, false, tx⟩ = m2 at *
  generalize m.hear = H at *
  repeat' (first | (refine WS_seqK ?_; intro K hK) | (refine hK _ ?_; clear hK K) | refine stZ ?_ | refine sqZ ?_ | (refine LS_h (H_callX iI rfl p3 iI) rfl ?_; intro x3))
  have hl40 : ∀ (i c : Nat) (m : Ms), InRound q a b H tx i 0 c m → i = 40 → c = 1 := fun i c m h e => h.last e
  refine WS_loop (fun kk τ => ∃ (i c : Nat) (m : Ms) (tn : Nat), i + kk = 40 ∧ InRound q a b H tx i 0 c m ∧ BndI q (100 + 60 * i) m ∧ tn ≤ 100 * i ∧ τ = ⟨[(22, .int .i64 (i : Int)), (21, .int .i64 (tn : Int)), (20, .bool false), (19, .int .i64 (c : Int)), (18, .int .i64 (b : Int)), (17, .int .i64 (a : Int)), (14, ptr x.1 0), (13, .int .i64 (q : Int)), (5, strV tx), (2, vo)], [], mshI x.1 x.2 m * (X * G)⟩) ?_ ?_
  · exact ⟨40, _, ⟨0, 0, m2, 0, by omega, hR2, hB3, by omega, rfl⟩, ⟨rfl, rfl, rfl, rfl, rfl, rfl, rfl, rfl, rfl, rfl, trivial⟩, rfl, finE⟩
  clear hB hP hR2 hB2 hB3
  rintro kk τ ⟨i', c, m, tn, hik', hR, hB, htn, rfl⟩
  rcases Nat.lt_or_ge i' 40 with hlt40 | hge40
  · have h3 : (i' : Int) < 40 := by omega
    repeat' (first | (refine WS_seqK ?_; intro K hK) | (refine hK _ ?_; clear hK K) | refine stZ ?_ | (refine s2Z ?_ ?_ <;> intro hc <;> (try simp only [cS] at hc) <;> (try (exfalso; first | contradiction | omega))) | refine sqZ ?_ | ((refine' LQ ?zh rfl ?_); case zh => intro F'; exact Q_bin_t rfl rfl iI (by first | assumption | omega | decide | rfl)))
    refine WS_loop (fun kk2 τ => ∃ (j c : Nat) (m : Ms) (tn : Nat), j + kk2 = 60 ∧ j ≤ 56 ∧ InRound q a b H tx i' j c m ∧ BndI q (100 + 60 * i' + j) m ∧ tn ≤ 100 * i' + j ∧ τ = ⟨[(23, .int .i64 (j : Int)), (22, .int .i64 (i' : Int)), (21, .int .i64 (tn : Int)), (20, .bool false), (19, .int .i64 (c : Int)), (18, .int .i64 (b : Int)), (17, .int .i64 (a : Int)), (14, ptr x.1 0), (13, .int .i64 (q : Int)), (5, strV tx), (2, vo)], [], mshI x.1 x.2 m * (X * G)⟩) ?_ ?_
    · exact ⟨60, _, ⟨0, c, m, tn, by omega, by omega, hR, hB, by omega, rfl⟩, ⟨rfl, rfl, rfl, rfl, rfl, rfl, rfl, rfl, rfl, rfl, rfl, trivial⟩, rfl, finE⟩
    clear hR hB htn
    clear c m tn
    rintro kk2 τ ⟨j, c, m, tn, hjk, hj56, hR, hB, htn, rfl⟩
    have h4 : (j : Int) < 2000 := by omega
    have hfew := hB.fine.air.few
    have p6 := mair_spec w0 x.1 x.2 m hfew
    by_cases hnil : m.air.length = 0
    · have h5 : (m.air.length : Int) = 0 := by omega
      have hL := hR.end_ g hch (List.length_eq_zero_iff.1 hnil)
      have hok3 : OpD.Ok ⟨3, 0, 0, 80, false, []⟩ := ⟨by show -9223372036854775808 ≤ (80 : Int) ∧ (80 : Int) ≤ 9223372036854775807; omega, fun h => by cases h⟩
      have hR3 := hL.tick g (o := ⟨3, 0, 0, 80, false, []⟩) ⟨rfl, rfl⟩
      have hB4 : BndI q (100 + 60 * (i' + 1)) (m.do_ ⟨3, 0, 0, 80, false, []⟩) := (hB.step (by omega) hok3).le (by omega)
      have p7 := mdo_spec w0 x.1 x.2 m ⟨3, 0, 0, 80, false, []⟩ (100 + 60 * i' + j) hB.fine (by omega) (by have := hB.now; omega) hok3
      simp only [opA, opC] at p7
      generalize m.do_ ⟨3, 0, 0, 80, false, []⟩ = m3 at *
      repeat' (first | (refine WS_seqK ?_; intro K hK) | (refine hK _ ?_; clear hK K) | refine stZ ?_ | (refine s2Z ?_ ?_ <;> intro hc <;> (try simp only [cS] at hc) <;> (try (exfalso; first | contradiction | omega))) | refine sqZ ?_ | ((refine' LQ ?zh rfl ?_); case zh => intro F'; exact Q_bin_t rfl rfl iI (by first | assumption | omega | decide | rfl)) | (refine LS_h (H_callX iI rfl p6 iI) rfl ?_; intro v6) | (refine LS_h (H_callX iI rfl p7 iI) rfl ?_; intro x7))
      exact ⟨kk - 1, _, by omega, ⟨i' + 1, c, m3, tn, by omega, hR3, hB4, by omega, rfl⟩, ⟨rfl, rfl, rfl, rfl, rfl, rfl, rfl, rfl, rfl, rfl, trivial⟩, rfl, finE⟩
    have h5 : ¬ (m.air.length : Int) = 0 := by omega
    repeat' (first | (show WS _ _ _ (.seq (.seq (.region 30 _ _) _) _) _ _; refine WS_seqK ?_; intro K hK; refine WS_midK hK (fun τ => ∃ (k tn' : Nat), k < m.air.length ∧ tn' ≤ 100 * i' + j + 1 ∧ τ = ⟨[(25, .int .i64 (k : Int)), (23, .int .i64 (j : Int)), (22, .int .i64 (i' : Int)), (21, .int .i64 (tn' : Int)), (20, .bool false), (19, .int .i64 (c : Int)), (18, .int .i64 (b : Int)), (17, .int .i64 (a : Int)), (14, ptr x.1 0), (13, .int .i64 (q : Int)), (5, strV tx), (2, vo)], [], mshI x.1 x.2 m * (X * G)⟩) ?_ ?_) | (refine WS_seqK ?_; intro K hK) | (refine hK _ ?_; clear hK K) | refine stZ ?_ | (refine s2Z ?_ ?_ <;> intro hc <;> (try simp only [cS] at hc) <;> (try (exfalso; first | contradiction | omega))) | refine sqZ ?_ | ((refine' LQ ?zh rfl ?_); case zh => intro F'; first | exact Q_bin_t rfl rfl iI (by first | assumption | omega | decide | rfl) | exact Q_bin_f rfl rfl iI (by first | assumption | omega | decide | rfl)) | ((first | refine LS_binS rfl rfl iI rfl ?_ ?_ | refine LS_binN rfl rfl iI rfl ?_ ?_ | refine DL_binS rfl rfl iI rfl ?_ ?_) <;> intro hc) | (refine LS_h (H_callX iI rfl p6 iI) rfl ?_; intro v6))
    · have hos0 : 0 < os.length := by omega
      have hml : tn % os.length < os.length := Nat.mod_lt _ hos0
      obtain ⟨z, hz⟩ : ∃ z, os[tn % os.length]? = some z := ⟨_, List.getElem?_eq_getElem hml⟩
      have p8 := keepPick_spec w0 z m.air.length (hos z (List.mem_of_getElem? hz)) (by omega)
      obtain ⟨y, e3, hy⟩ := pick_nat z (m := m.air.length) (by omega)
      rw [e3] at p8
      repeat' (first | (refine hK _ ?_; clear hK K) | refine stZ ?_ | refine sqZ ?_ | (refine' LQ ?zh rfl ?_; (case zh => intro F'; exact Q_remN rfl rfl hos0)) | (refine LS_h (H_callX iI rfl p8 ⟨emp_star.symm⟩) rfl ?_; intro u8))
      exact ⟨_, ⟨y, tn + 1, hy, by omega, rfl⟩, ⟨rfl, rfl, rfl, rfl, rfl, rfl, rfl, rfl, rfl, rfl, rfl, rfl, trivial⟩, rfl, finE⟩
    · exact ⟨_, ⟨0, tn, by omega, by omega, rfl⟩, ⟨rfl, rfl, rfl, rfl, rfl, rfl, rfl, rfl, rfl, rfl, rfl, rfl, trivial⟩, rfl, finE⟩
    clear hK K
    rintro τ ⟨k', tn', hk', htn', rfl⟩
    have hok4 : OpD.Ok ⟨4, (k' : Int), 0, 0, false, []⟩ := ⟨by show -9223372036854775808 ≤ (0 : Int) ∧ (0 : Int) ≤ 9223372036854775807; omega, fun h => by cases h⟩
    obtain ⟨c', hR4, hE4, hcc, hj4⟩ := hR.step g hB.inv hk' (o := ⟨4, (k' : Int), 0, 0, false, []⟩) rfl rfl
    have hle := hR4.le1
    have hB4 : BndI q (100 + 60 * i' + (j + 1)) (m.do_ ⟨4, (k' : Int), 0, 0, false, []⟩) := hB.step (by omega) hok4
    have p9 := mdo_spec w0 x.1 x.2 m ⟨4, (k' : Int), 0, 0, false, []⟩ (100 + 60 * i' + j) hB.fine (by omega) (by have := hB.now; omega) hok4
    simp only [opA, opC] at p9
    generalize m.do_ ⟨4, (k' : Int), 0, 0, false, []⟩ = m4 at *
    repeat' (first | (refine WS_seqK ?_; intro K hK) | (refine hK _ ?_; clear hK K) | refine stZ ?_ | refine sqZ ?_ | (refine LS_h (H_callX iI rfl p9 iI) rfl ?_; intro x9; refine LS_pureI iI ?_; intro hmap))
    obtain ⟨v9, es⟩ := x9
    simp only at hmap
    refine WS_lenC v9 iI fun hes _ => ?_
    have hesb : es.length ≤ 9223372036854775807 := Nat.le_trans hes (by decide)
    have hsum : camSum m4.evs = c' - c := hE4.2
    refine WS_loop (fun kk3 τ => ∃ (r : Nat), r + kk3 = es.length ∧ camSum (m4.evs.take r) ≤ 1 ∧ τ = ⟨[(27, .int .i64 (r : Int)), (26, v9), (23, .int .i64 (j : Int)), (22, .int .i64 (i' : Int)), (21, .int .i64 (tn' : Int)), (20, .bool false), (19, .int .i64 ((c + camSum (m4.evs.take r) : Nat) : Int)), (18, .int .i64 (b : Int)), (17, .int .i64 (a : Int)), (14, ptr x.1 0), (13, .int .i64 (q : Int)), (5, strV tx), (2, vo)], [], mshI x.1 x.2 m4 * (rows 68 7 evC v9 es * (evsO es * (X * G)))⟩) ?_ ?_
    · exact ⟨es.length, _, ⟨0, by omega, Nat.zero_le _, rfl⟩, ⟨rfl, rfl, rfl, rfl, rfl, rfl, rfl, rfl, rfl, rfl, rfl, rfl, rfl, trivial⟩, rfl, finE⟩
    rintro kk3 τ ⟨r, hrk, hcs, rfl⟩
    rcases Nat.lt_or_ge r es.length with hrlt | hrge
    · have hr1 : (r : Int) < (es.length : Int) := by omega
      obtain ⟨e, he⟩ : ∃ e, es[r]? = some e := ⟨_, List.getElem?_eq_getElem hrlt⟩
      have hev : m4.evs[r]? = some e.1 := by rw [← hmap, List.getElem?_map, he]; rfl
      have hcl2 := camSum_snoc hev
      have hcle : camSum (m4.evs.take (r + 1)) ≤ 1 := by
        have := camSum_le m4.evs (r + 1)
        omega
      have hcl3 : c + camSum (m4.evs.take (r + 1)) = c + camSum (m4.evs.take r) + e.1.out.came.length := by omega
      have hall := hE4.1 e.1 (List.mem_of_getElem? hev)
      rw [evsO_at he]
      simp only [evO, outR, svV, star_assoc]
      refine WS_lenC (slV' e.2.2.1) iI fun hcs' hcl' => ?_
      have hcl : e.2.2.1.2.1 = e.1.out.came.length := hcl' _ _ _ rfl
      have hcb : e.1.out.came.length ≤ 9223372036854775807 := Nat.le_trans hcs' (by decide)
      repeat' (first | (refine WS_seqK ?_; intro K hK) | (refine hK _ ?_; clear hK K) | refine stZ ?_ | (refine s2Z ?_ ?_ <;> intro hc <;> (try simp only [cS] at hc) <;> (try (exfalso; first | contradiction | omega))) | refine sqZ ?_ | ((refine' LQ ?zh rfl ?_); case zh => intro F'; exact Q_bin_t rfl rfl iI (by first | assumption | omega | decide | rfl)))
      refine WS_loop (fun kk4 τ => ∃ (t : Nat), t + kk4 = e.1.out.came.length ∧ τ = ⟨[(28, .int .i64 (t : Int)), (27, .int .i64 (r : Int)), (26, v9), (23, .int .i64 (j : Int)), (22, .int .i64 (i' : Int)), (21, .int .i64 (tn' : Int)), (20, .bool false), (19, .int .i64 ((c + camSum (m4.evs.take r) + t : Nat) : Int)), (18, .int .i64 (b : Int)), (17, .int .i64 (a : Int)), (14, ptr x.1 0), (13, .int .i64 (q : Int)), (5, strV tx), (2, vo)], [], mshI x.1 x.2 m4 * (rows 68 7 evC v9 es * (evsO (es.take r) * (rows 48 2 txtC (slV' e.2.1) e.1.out.frames * (rows 70 2 txtC (slV' e.2.2.1) e.1.out.came * (rows 166 1 intC (slV' e.2.2.2) e.1.out.dropped * (evsO (es.drop (r + 1)) * (X * G)))))))⟩) ?_ ?_
      · exact ⟨e.1.out.came.length, _, ⟨0, by omega, rfl⟩, ⟨rfl, rfl, rfl, rfl, rfl, rfl, rfl, rfl, rfl, rfl, rfl, rfl, rfl, rfl, trivial⟩, rfl, finE⟩
      rintro kk4 τ ⟨t, htk, rfl⟩
      rcases Nat.lt_or_ge t e.1.out.came.length with htlt | htge
      · have ht1 : (t : Int) < (e.2.2.1.2.1 : Int) := by omega
        obtain ⟨y, hy⟩ : ∃ y, e.1.out.came[t]? = some y := ⟨_, List.getElem?_eq_getElem htlt⟩
        obtain ⟨hnode, rfl⟩ := hall y (List.mem_of_getElem? hy)
        have hadr : adr a = UInt32.ofNat (10 * a + 10) := rfl
        repeat' (first | (refine WS_seqK ?_; intro K hK) | (refine hK _ ?_; clear hK K) | refine stZ ?_ | (refine s2Z ?_ ?_ <;> intro hc <;> (try simp only [cS] at hc) <;> (try (exfalso; first | contradiction | omega))) | ((refine' LQ ?zh rfl ?_); case zh => intro F'; first | exact Q_move rfl | exact Q_assign rfl | exact Q_bin_t rfl rfl iI (by first | assumption | omega | decide | rfl) | exact Q_pick_t rfl iI rfl | exact Q_len rfl iI | exact Q_index rfl rfl iI iI iI iI (by first | assumption | omega | (simp [be_length] <;> omega)) | exact Q_fieldR rfl iI iI rfl (by first | assumption | omega | (simp [be_length] <;> omega)) | exact Q_loadR rfl iI iI iI (by assumption) rfl | exact Q_mulI rfl rfl (by omega)) | (refine' LQ ?zh rfl ?_; (case zh => intro F'; exact Q_convT32 (10 * a + 10) rfl (by omega) (by omega) iI iI)) | (refine' LQ ?zh rfl ?_; (case zh => intro F'; first | exact Q_incN rfl (by omega) | exact Q_addI rfl rfl (by omega))))
        --LOOK
        exact ⟨kk4 - 1, _, by omega, ⟨t + 1, by omega, rfl⟩, ⟨rfl, rfl, rfl, rfl, rfl, rfl, rfl, rfl, rfl, rfl, rfl, rfl, rfl, rfl, trivial⟩, rfl, finE⟩
      · obtain rfl : t = e.1.out.came.length := by omega
        have ht1 : ¬ (e.1.out.came.length : Int) < (e.2.2.1.2.1 : Int) := by omega
        repeat' (first | (refine WS_seqK ?_; intro K hK) | (refine hK _ ?_; clear hK K) | refine stZ ?_ | (refine s2Z ?_ ?_ <;> intro hc <;> (try simp only [cS] at hc) <;> (try (exfalso; first | contradiction | omega))) | refine sqZ ?_ | ((refine' LQ ?zh rfl ?_); case zh => intro F'; exact Q_bin_f rfl rfl iI (by first | assumption | omega | decide | rfl)))
        refine ⟨kk3 - 1, _, by omega, ⟨r + 1, by omega, hcle, rfl⟩, ⟨rfl, rfl, rfl, rfl, rfl, rfl, (by rw [hcl3]; rfl), rfl, rfl, rfl, rfl, rfl, rfl, trivial⟩, rfl, finE⟩
    · have hr1 : ¬ (r : Int) < (es.length : Int) := by omega
      have hsum2 : c + camSum (m4.evs.take r) = c' := by
        have hlen := congrArg List.length hmap
        rw [List.length_map] at hlen
        rw [camSum_all _ (by omega)]; omega
      repeat' (first | (refine WS_seqK ?_; intro K hK) | (refine hK _ ?_; clear hK K) | refine stZ ?_ | (refine s2Z ?_ ?_ <;> intro hc <;> (try simp only [cS] at hc) <;> (try (exfalso; first | contradiction | omega))) | refine sqZ ?_ | ((refine' LQ ?zh rfl ?_); case zh => intro F'; exact Q_bin_f rfl rfl iI (by first | assumption | omega | decide | rfl)))
      rw [hsum2]
      exact ⟨kk2 - 1, _, by omega, ⟨j + 1, c', m4, tn', by omega, hj4, hR4, hB4, by omega, rfl⟩, ⟨rfl, rfl, rfl, rfl, rfl, rfl, rfl, rfl, rfl, rfl, rfl, trivial⟩, rfl, finE⟩
  · obtain rfl : i' = 40 := by omega
    have h3 : ¬ ((40 : Nat) : Int) < 40 := by omega
    have hc1 := hl40 _ _ _ hR rfl
    subst hc1
    have h4 : ((1 : Nat) : Int) = 1 := rfl
    repeat' (first | (refine WS_seqK ?_; intro K hK) | (refine hK _ ?_; clear hK K) | refine stZ ?_ | (refine s2Z ?_ ?_ <;> intro hc <;> (try simp only [cS] at hc) <;> (try (exfalso; first | contradiction | omega))) | refine sqZ ?_ | ((refine' LQ ?zh rfl ?_); case zh => intro F'; first | exact Q_bin_t rfl rfl iI (by first | assumption | omega | decide | rfl) | exact Q_bin_f rfl rfl iI (by first | assumption | omega | decide | rfl)))
    exact ret_tmp (.inl rfl) rfl rfl ⟨(), rfl, finE⟩
end

end Go.Proofs.YtapoehkdnglahabGreat
namespace Go.Proofs.YtapoehkdnglahabGreat.arrives
open Go.ChangeShapes Go.WideShapes Go.ChangeAt Go.RowKit Go.Proofs.YtapoehkdnglahabGreat

theorem own : ownKnob Tryz.prog.godebug = none := by kernel_rfl
set_option maxRecDepth 100000 in
theorem lifted (os : Os) (started : os.Started) (H : Type) (enc : TypeId × Value → H) :
  ReturnsInHanded {} Tryz.checked os 7 .any (Rows.arrivesSpec.pre6 enc Tryz.prog Tryz.f7 Rows.arrivesRow.domain false) (Rows.arrivesSpec.post enc Tryz.prog Tryz.f7 false true false false) := by
 refine returnsInHanded_of_change (C := Tryz.checked) own started (by kernel_rfl) Tryz.func7
  (ChangeSpec.witness6 (enc := enc) (C := Tryz.checked) false ⟨#[], #[.int .i64 0, .slice none 0 0, .slice none 0 0, .int .i64 0, .int .i64 0, .string ⟨#[]⟩], []⟩ 8 (by kernel_rfl) (by kernel_rfl) (by kernel_rfl) (by kernel_rfl)) ?_
 intro W base args ds gs before hval0 hW hcnd _
 have hval : ∀ (j : Nat) t v, Tryz.f7.params[j]? = some t → args[j]? = some v → Value.okWide Tryz.prog W .any base t v := hval0
 have hW' := hW
 obtain ⟨p, q, hA0, hV, rfl, hfz, hnd⟩ := hW
 have hA : DataW.TrodAll enc Tryz.prog W 0 (fun _ => true) true Tryz.f7.params.toList args.toList ds p := hA0
 rw [Tryz.params7] at hA hval
 clear hA0 hval0
 obtain ⟨v0, r0, d0, e0, p0, q0, hargs, rfl, rfl, h0, hA⟩ := trodAll_cons hA
 obtain ⟨v1, r1, d1, e1, p1, q1, rfl, rfl, rfl, h1, hA⟩ := trodAll_cons hA
 obtain ⟨v2, r2, d2, e2, p2, q2, rfl, rfl, rfl, h2, hA⟩ := trodAll_cons hA
 obtain ⟨v3, r3, d3, e3, p3, q3, rfl, rfl, rfl, h3, hA⟩ := trodAll_cons hA
 obtain ⟨v4, r4, d4, e4, p4, q4, rfl, rfl, rfl, h4, hA⟩ := trodAll_cons hA
 obtain ⟨v5, r5, d5, e5, p5, q5, rfl, rfl, rfl, h5, hA⟩ := trodAll_cons hA
 obtain ⟨rfl, rfl, rfl⟩ := trodAll_nil hA
 obtain rfl : args = #[v0, v1, v2, v3, v4, v5] := by cases args; simp_all
 obtain ⟨rfl, rfl⟩ := trodVars_none hV
 simp only [List.append_nil] at hW'
 have hlt0 : ∀ x ∈ p0, x.block < W.heap.size := fun x hx => by simpa using hW'.lt x (by simp [hx])
 have hb0 : ∀ (W' : World), Below W.heap.size W W' → DataW.Trod enc Tryz.prog W' 0 (fun b => decide (b < W.heap.size)) true 3 v0 d0 p0 := fun W' hn => Below.trod laid (by kernel_rfl) (of_decide_eq_true (by kernel_rfl)) h0 hn hlt0
 have hlt1 : ∀ x ∈ p1, x.block < W.heap.size := fun x hx => by simpa using hW'.lt x (by simp [hx])
 have hb1 : ∀ (W' : World), Below W.heap.size W W' → DataW.Trod enc Tryz.prog W' 0 (fun b => decide (b < W.heap.size)) true 62 v1 d1 p1 := fun W' hn => Below.trod laid (by kernel_rfl) (of_decide_eq_true (by kernel_rfl)) h1 hn hlt1
 have hlt2 : ∀ x ∈ p2, x.block < W.heap.size := fun x hx => by simpa using hW'.lt x (by simp [hx])
 have hb2 : ∀ (W' : World), Below W.heap.size W W' → DataW.Trod enc Tryz.prog W' 0 (fun b => decide (b < W.heap.size)) true 62 v2 d2 p2 := fun W' hn => Below.trod laid (by kernel_rfl) (of_decide_eq_true (by kernel_rfl)) h2 hn hlt2
 have hlt3 : ∀ x ∈ p3, x.block < W.heap.size := fun x hx => by simpa using hW'.lt x (by simp [hx])
 have hb3 : ∀ (W' : World), Below W.heap.size W W' → DataW.Trod enc Tryz.prog W' 0 (fun b => decide (b < W.heap.size)) true 3 v3 d3 p3 := fun W' hn => Below.trod laid (by kernel_rfl) (of_decide_eq_true (by kernel_rfl)) h3 hn hlt3
 have hlt4 : ∀ x ∈ p4, x.block < W.heap.size := fun x hx => by simpa using hW'.lt x (by simp [hx])
 have hb4 : ∀ (W' : World), Below W.heap.size W W' → DataW.Trod enc Tryz.prog W' 0 (fun b => decide (b < W.heap.size)) true 3 v4 d4 p4 := fun W' hn => Below.trod laid (by kernel_rfl) (of_decide_eq_true (by kernel_rfl)) h4 hn hlt4
 have hlt5 : ∀ x ∈ p5, x.block < W.heap.size := fun x hx => by simpa using hW'.lt x (by simp [hx])
 have hb5 : ∀ (W' : World), Below W.heap.size W W' → DataW.Trod enc Tryz.prog W' 0 (fun b => decide (b < W.heap.size)) true 9 v5 d5 p5 := fun W' hn => Below.trod laid (by kernel_rfl) (of_decide_eq_true (by kernel_rfl)) h5 hn hlt5
 have main : Calls Tryz.prog 7 #[v0, v1, v2, v3, v4, v5] W fun e w' => e = .returned (.bool true) ∧ Below W.heap.size W w' := by
  obtain ⟨n, rfl⟩ := okWide_int Tryz.underlying3 (hval 0 3 v0 rfl rfl)
  obtain ⟨x0, hx0, hn0⟩ := dec_arg (dec_i64 Tryz.underlying3) h0
  obtain rfl : n = x0 := by simpa [Value.cells, i64C] using hx0
  obtain ⟨A1, n1, c1, rfl⟩ := okWide_slice Tryz.underlying62 (hval 1 62 v1 rfl rfl)
  obtain ⟨l1, hR1, hl1⟩ := arg_slice (f := intC) (size := 1) (fun _ => rfl) (by decide) Tryz.underlying62 (by kernel_rfl) (dec_i64 Tryz.underlying3) h1
  obtain ⟨A2, n2, c2, rfl⟩ := okWide_slice Tryz.underlying62 (hval 2 62 v2 rfl rfl)
  obtain ⟨l2, hR2, hl2⟩ := arg_slice (f := intC) (size := 1) (fun _ => rfl) (by decide) Tryz.underlying62 (by kernel_rfl) (dec_i64 Tryz.underlying3) h2
  obtain ⟨n3, rfl⟩ := okWide_int Tryz.underlying3 (hval 3 3 v3 rfl rfl)
  obtain ⟨x3, hx3, hn3⟩ := dec_arg (dec_i64 Tryz.underlying3) h3
  obtain rfl : n3 = x3 := by simpa [Value.cells, i64C] using hx3
  obtain ⟨n4, rfl⟩ := okWide_int Tryz.underlying3 (hval 4 3 v4 rfl rfl)
  obtain ⟨x4, hx4, hn4⟩ := dec_arg (dec_i64 Tryz.underlying3) h4
  obtain rfl : n4 = x4 := by simpa [Value.cells, i64C] using hx4
  obtain ⟨str, rfl⟩ := okWide_string Tryz.underlying9 (hval 5 9 v5 rfl rfl)
  obtain ⟨tx, hs, hsl⟩ := dec_arg (dec_str Tryz.underlying9) h5
  have es : Value.string str = strV tx := by simpa [Value.cells, strC] using hs
  rw [es]
  have hR1' := hR1.rdr
  have hR2' := hR2.rdr
  exact (arrives_law W n n3 n4 hn0 hn3 hn4 _ _ l1 l2 hl1 hl2 tx (old W)).law
 refine main.mono fun e W' ⟨he, hb⟩ => ?_
 subst he
 refine ⟨_, rfl, _, _, _, [], p0 ++ (p1 ++ (p2 ++ (p3 ++ (p4 ++ (p5))))), [], hW', ?_, ?_, rfl, hb.frame _, fun h => by cases h⟩
 ·exact trodAll_mk1 (shut_bool Tryz.underlying4 _)
 ·exact trodAll_cons_mk (hb0 _ hb) (trodAll_cons_mk (hb1 _ hb) (trodAll_cons_mk (hb2 _ hb) (trodAll_cons_mk (hb3 _ hb) (trodAll_cons_mk (hb4 _ hb) (trodAll_mk1 (hb5 _ hb))))))

theorem over : Rows.arrivesRow.holds Tryz.pinned (OpenSpec.ofChange Rows.arrivesSpec) :=
 OpenClaim.holds_of_wide 7 Tryz.f7 rfl rfl rfl rfl rfl rfl rfl ⟨rfl, rfl, rfl, rfl, rfl⟩ rfl rfl rfl rfl rfl (by kernel_rfl) Tryz.func7 (by kernel_rfl)
  (of_decide_eq_true (by kernel_rfl)) (by unfold Func.isWrapper; first | (rw [if_pos (by decide +kernel)]; kernel_rfl) | (rw [if_neg (by decide +kernel)]; exact ⟨rfl, rfl⟩))
  (fun os started H enc _ => lifted os started H enc)

theorem proved : Rows.ArrivesSaid := over
end Go.Proofs.YtapoehkdnglahabGreat.arrives

