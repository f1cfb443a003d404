/- slices.SortFunc at records, by the kit's contract: the laying of its bodies, the comparison's walk, its order. -/
import Derived.Test.YtapoehkdnglahaaCmpP
import Derived.Test.YtapoehkdnglahaaTy
import Derived.Shelf.SlSortCmp.WholeK
namespace Go.Proofs.Ytapoehkdnglahaa
open Go.RowKit Go.Shelf
set_option linter.unusedVariables false
set_option linter.unusedSimpArgs false
set_option maxRecDepth 100000
def sortRen : Go.Shelf.Ren := ⟨fun | 6 => 116 | 14 => 123 | 15 => 124 | 20 => 129 | 21 => 130 | 22 => 131 | 23 => 132 | 24 => 133 | 25 => 134 | 26 => 135 | 27 => 136 | 28 => 137 | 29 => 138 | 46 => 141 | 47 => 142 | 48 => 143 | 49 => 144 | 50 => 145 | 57 => 155 | n => n, fun | 0 => 0 | 3 => 3 | 4 => 4 | 5 => 5 | 9 => 9 | 22 => 25 | 24 => 28 | 25 => 160 | 39 => 143 | 45 => 195 | 46 => 196 | 50 => 64 | 53 => 26 | 55 => 59 | 66 => 205 | 70 => 209 | 76 => 217 | 77 => 218 | n => n, fun | n => n⟩
theorem sortLays : SlLaysF0.n6 Try.prog sortRen := {
  mixed := by kernel_rfl,
  f6 := ⟨Try.f116.name, by decide, Try.func116.trans (congrArg some (by kernel_rfl))⟩,
  f14 := ⟨Try.f123.name, by decide, Try.func123.trans (congrArg some (by kernel_rfl))⟩,
  f15 := Try.func124.trans (congrArg some (by kernel_rfl)),
  f20 := ⟨Try.f129.name, by decide, Try.func129.trans (congrArg some (by kernel_rfl))⟩,
  f21 := ⟨Try.f130.name, by decide, Try.func130.trans (congrArg some (by kernel_rfl))⟩,
  f22 := ⟨Try.f131.name, by decide, Try.func131.trans (congrArg some (by kernel_rfl))⟩,
  f23 := ⟨Try.f132.name, by decide, Try.func132.trans (congrArg some (by kernel_rfl))⟩,
  f24 := ⟨Try.f133.name, by decide, Try.func133.trans (congrArg some (by kernel_rfl))⟩,
  f25 := ⟨Try.f134.name, by decide, Try.func134.trans (congrArg some (by kernel_rfl))⟩,
  f26 := ⟨Try.f135.name, by decide, Try.func135.trans (congrArg some (by kernel_rfl))⟩,
  f27 := ⟨Try.f136.name, by decide, Try.func136.trans (congrArg some (by kernel_rfl))⟩,
  f28 := Try.func137.trans (congrArg some (by kernel_rfl)),
  f29 := Try.func138.trans (congrArg some (by kernel_rfl)),
  f46 := ⟨Try.f141.name, by decide, Try.func141.trans (congrArg some (by kernel_rfl))⟩,
  f47 := Try.func142.trans (congrArg some (by kernel_rfl)),
  f48 := Try.func143.trans (congrArg some (by kernel_rfl)),
  f49 := ⟨Try.f144.name, by decide, Try.func144.trans (congrArg some (by kernel_rfl))⟩,
  f50 := ⟨Try.f145.name, by decide, Try.func145.trans (congrArg some (by kernel_rfl))⟩,
  f57 := ⟨Try.f155.name, by decide, Try.func155.trans (congrArg some (by kernel_rfl))⟩,
  t0 := Try.underlying0,
  a0 := Try.isAgg0,
  z0 := Try.sizeOf0,
  v0 := Try.zeroValue0,
  t3 := Try.underlying3,
  a3 := Try.isAgg3,
  z3 := Try.sizeOf3,
  v3 := Try.zeroValue3,
  t4 := Try.underlying4,
  a4 := Try.isAgg4,
  z4 := Try.sizeOf4,
  v4 := Try.zeroValue4,
  t5 := Try.underlying5,
  a5 := Try.isAgg5,
  z5 := Try.sizeOf5,
  v5 := Try.zeroValue5,
  t9 := Try.underlying9,
  a9 := Try.isAgg9,
  z9 := Try.sizeOf9,
  v9 := Try.zeroValue9,
  t22 := Try.underlying25,
  a22 := Try.isAgg25,
  z22 := Try.sizeOf25,
  v22 := Try.zeroValue25,
  t25 := Try.underlying160,
  a25 := Try.isAgg160,
  z25 := Try.sizeOf160,
  v25 := Try.zeroValue160,
  t39 := Try.underlying143,
  a39 := Try.isAgg143,
  z39 := Try.sizeOf143,
  v39 := Try.zeroValue143,
  t45 := Try.underlying195,
  a45 := Try.isAgg195,
  z45 := Try.sizeOf195,
  v45 := Try.zeroValue195,
  t46 := Try.underlying196,
  a46 := Try.isAgg196,
  z46 := Try.sizeOf196,
  v46 := Try.zeroValue196,
  t50 := Try.underlying64,
  a50 := Try.isAgg64,
  z50 := Try.sizeOf64,
  v50 := Try.zeroValue64,
  t53 := Try.underlying26,
  a53 := Try.isAgg26,
  z53 := Try.sizeOf26,
  v53 := Try.zeroValue26,
  t55 := Try.underlying59,
  a55 := Try.isAgg59,
  z55 := Try.sizeOf59,
  v55 := Try.zeroValue59,
  t66 := Try.underlying205,
  a66 := Try.isAgg205,
  z66 := Try.sizeOf205,
  v66 := Try.zeroValue205,
  t70 := Try.underlying209,
  a70 := Try.isAgg209,
  z70 := Try.sizeOf209,
  v70 := Try.zeroValue209,
  t76 := Try.underlying217,
  a76 := Try.isAgg217,
  z76 := Try.sizeOf217,
  v76 := Try.zeroValue217,
  t77 := Try.underlying218,
  a77 := Try.isAgg218,
  z77 := Try.sizeOf218,
  v77 := Try.zeroValue218 }

/-- What the comparison hands back. -/
def cmpA (a b : UInt32) : Int := if a < b then -1 else if b < a then 1 else 0
def cmpRec (a b : Rec) : Int := if a.own != b.own then (if a.own then -1 else 1) else cmpA a.addr b.addr
theorem cmpRec_lt (a b : Rec) : Go.Proofs.ltOf cmpRec a b = a.lt b := by
  unfold Go.Proofs.ltOf cmpRec Rec.lt cmpA
  cases ha : a.own <;> cases hb : b.own <;> simp
  all_goals
    by_cases h1 : a.addr < b.addr
    · simp [h1]
    · by_cases h2 : b.addr < a.addr <;> simp [h1, h2]
theorem swo_rec : Go.Sort.SWO (Go.Proofs.ltOf cmpRec) where
  irrefl x := by rw [cmpRec_lt]; exact Rec.lt_irrefl x
  trans x y z h1 h2 := by rw [cmpRec_lt] at *; exact Rec.lt_trans h1 h2
  ntrans x y z h1 h2 := by
    rw [cmpRec_lt] at *
    unfold Rec.lt at *
    cases hx : x.own <;> cases hy : y.own <;> cases hz : z.own <;> simp [hx, hy, hz, UInt32.lt_iff_toNat_lt, UInt32.le_iff_toNat_le] at * <;> omega
end Go.Proofs.Ytapoehkdnglahaa
