/- Proved: 'mesh/meshkeep.Turns' returns true, whatever the input, and leaves it alone; there are no conditions. -/
import Derived.Test.YtapoehkdnglahaaArgs2
import Derived.Test.YtapoehkdnglahaaTurX
namespace Go.Proofs.Ytapoehkdnglahaa.turns
open Go.ChangeShapes Go.WideShapes Go.ChangeAt Go.RowKit Go.Proofs.Ytapoehkdnglahaa
set_option linter.unusedVariables false

theorem own : ownKnob Try.prog.godebug = none := by kernel_rfl
set_option maxRecDepth 100000 in
theorem lifted (os : Os) (started : os.Started) (H : Type) (enc : TypeId × Value → H) :
    ReturnsInHanded {} Try.checked os 9 .any (Rows.turnsSpec.pre6 enc Try.prog Try.f9 Rows.turnsRow.domain false) (Rows.turnsSpec.post enc Try.prog Try.f9 false true false false) := by
  refine returnsInHanded_of_change (C := Try.checked) own started (by kernel_rfl) Try.func9
    (ChangeSpec.witness6 (enc := enc) (C := Try.checked) false ⟨#[], #[.agg #[.int .i64 0, .int .i64 0, .int .i64 0, .bool false, .int .u32 0, .int .u32 0, .int .u32 0, .int .u32 0, .int .u32 0, .int .u32 0, .slice none 0 0, .string ⟨#[]⟩], .string ⟨#[]⟩], []⟩ 8 (by kernel_rfl) (by kernel_rfl) (by kernel_rfl) (by kernel_rfl)) ?_
  intro W base args ds gs before hval0 hW hcnd _
  have hval : ∀ (j : Nat) t v, Try.f9.params[j]? = some t → args[j]? = some v → Value.okWide Try.prog W .any base t v := hval0
  have hW' := hW
  obtain ⟨p, q, hA0, hV, rfl, hfz, hnd⟩ := hW
  have hA : DataW.TrodAll enc Try.prog W 0 (fun _ => true) true Try.f9.params.toList args.toList ds p := hA0
  rw [Try.params9] at hA hval
  clear hA0 hval0
  obtain ⟨v0, r0, d0, e0, p0, q0, hargs, rfl, rfl, h0, hA⟩ := trodAll_cons hA
  obtain ⟨v1, r1, d1, e1, p1, q1, rfl, rfl, rfl, h1, hA⟩ := trodAll_cons hA
  obtain ⟨rfl, rfl, rfl⟩ := trodAll_nil hA
  obtain rfl : args = #[v0, v1] := by cases args; simp_all
  obtain ⟨rfl, rfl⟩ := trodVars_none hV
  simp only [List.append_nil] at hW'
  have hlt0 : ∀ x ∈ p0, x.block < W.heap.size := fun x hx => by simpa using hW'.lt x (by simp [hx])
  have hb0 : ∀ (W' : World), Below W.heap.size W W' → DataW.Trod enc Try.prog W' 0 (fun b => decide (b < W.heap.size)) true 38 v0 d0 p0 := fun W' hn => Below.trod laid (by kernel_rfl) (of_decide_eq_true (by kernel_rfl)) h0 hn hlt0
  have hlt1 : ∀ x ∈ p1, x.block < W.heap.size := fun x hx => by simpa using hW'.lt x (by simp [hx])
  have hb1 : ∀ (W' : World), Below W.heap.size W W' → DataW.Trod enc Try.prog W' 0 (fun b => decide (b < W.heap.size)) true 9 v1 d1 p1 := fun W' hn => Below.trod laid (by kernel_rfl) (of_decide_eq_true (by kernel_rfl)) h1 hn hlt1
  have main : Calls Try.prog 9 #[v0, v1] W fun e w' => e = .returned (.bool true) ∧ Below W.heap.size W w' := by
    obtain ⟨cs, rfl, _⟩ := okWide_struct Try.underlying38 (hval 0 38 v0 rfl rfl)
    obtain ⟨⟨p, v⟩, hc, k0, k1, k2, k3, hR⟩ := dec_arg dec_packet h0
    have hc' : cs.toList = p.cells v := hc
    dsimp only at k0 k1 k2 k3 hR
    have hv : v.oneCell' = true := by obtain ⟨A, c, e, _⟩ := hR.form; rw [e]; rfl
    have hR' := hR.rdr
    have e : Value.agg cs = p.val v := by unfold Pk.val; rw [← hc']
    obtain ⟨str, rfl⟩ := okWide_string Try.underlying9 (hval 1 9 v1 rfl rfl)
    obtain ⟨s, hs, hsl⟩ := dec_arg (dec_str Try.underlying9) h1
    have es : Value.string str = strV s := by simpa [Value.cells, strC] using hs
    rw [e, es]
    by_cases hb : 65536 < s.length ∨ 65536 < p.payload.length ∨ 4096 < p.lost.length
    · exact (turns_big W p s hb v hv (old W)).law
    · exact (turns_walk W p ⟨k0, k1, k2, by omega, by omega⟩ s (by omega) (by omega) (by omega) v hv (old W)).law
  refine main.mono fun e W' ⟨he, hb⟩ => ?_
  subst he
  refine ⟨_, rfl, _, _, _, [], p0 ++ (p1), [], hW', ?_, ?_, rfl, hb.frame _, fun h => by cases h⟩
  · exact trodAll_mk1 (shut_bool Try.underlying4 _)
  · exact trodAll_cons_mk (hb0 _ hb) (trodAll_mk1 (hb1 _ hb))

theorem over : Rows.turnsRow.holds Try.pinned (OpenSpec.ofChange Rows.turnsSpec) :=
  OpenClaim.holds_of_wide 9 Try.f9 rfl rfl rfl rfl rfl rfl rfl ⟨rfl, rfl, rfl, rfl, rfl⟩ rfl rfl rfl rfl rfl (by kernel_rfl) Try.func9 (by kernel_rfl)
    (of_decide_eq_true (by kernel_rfl)) (by unfold Func.isWrapper; first | (rw [if_pos (by decide +kernel)]; kernel_rfl) | (rw [if_neg (by decide +kernel)]; exact ⟨rfl, rfl⟩))
    (fun os started H enc _ => lifted os started H enc)

theorem proved : Rows.TurnsSaid := over
end Go.Proofs.Ytapoehkdnglahaa.turns
