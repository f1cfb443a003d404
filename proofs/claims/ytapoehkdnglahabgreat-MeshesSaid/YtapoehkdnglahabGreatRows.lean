/-
  No cell of these rows narrows 'for every input' (looked for: loops, veiled, ifaces, maps, wideKeys, modest, calm, conditions, laid).
  DERIVED. THE GIVEN ROWS OF THIS SEAT. 7 by the template 'for every input the law returns true; each argument reads behind the call as it read before'; 0 by the template 'total and deterministic' (their statements: YtapoehkdnglahabGreatTotals.lean).
  GIVEN WITH THE SEED: the statements are not yours to turn. If you find one false, say at which input.
  Laid BY PROGRAM, IN A SANDBOX (cutbox-rows.mjs): the forced cells as the released guide's own fill.sh prints them over the translation 85732c0a80206aaa… (all of the seat's roots in one cut). By AI agents, Wed Nov 11 2026. No macro, syntax, notation, axiom, sorry.
-/
import Derived.Test.YtapoehkdnglahabGreatChecked
import GoSem.Claim
import GoSem.ClaimJoined
import GoSem.ClaimMapViews
import Derived.JoinedTies
import Derived.KernelRfl
namespace Go.Proofs.YtapoehkdnglahabGreat
/- THE CELL 'sum', in the pinned program and in every row, IS THE sha256 OF THE DUMP (.gsa) THAT YtapoehkdnglahabGreatProg.lean LOADS. Nothing in Lean hashes anything: it is a label: what it is worth is what the hold of that sum in a sandbox is worth. -/
noncomputable def Tryz.pinned : Pinned := { name := "ytapoehkdnglahabgreat", sum := "85732c0a80206aaa6a85064906999b825d8b0f57dc5c09a7dbd72c0f44ae80d4", checked := Tryz.checked }
namespace Rows
def none {H : Type} : Left H := { results := [], args := [] }

/-- 'meshkeep.Quietly': WHATEVER THE INPUT: true; the input reads as it did. -/
def quietlySpec : ChangeSpec := { name := "quietly", fn := fun _ => fun
  | [d1, d2, d3] => { results := [.lit (.bool true)], args := [d1, d2, d3] }
  | _ => none }
def quietlyRow : OpenClaim := { program := "ytapoehkdnglahabgreat", sum := "85732c0a80206aaa6a85064906999b825d8b0f57dc5c09a7dbd72c0f44ae80d4", func := "mesh/meshkeep.Quietly", spec := "quietly", inPlace := ["(*internal/sync.Mutex).Lock", "internal/race.Disable", "sync/atomic.CompareAndSwapInt32", "internal/race.Enable", "internal/race.Acquire", "(*internal/sync.Mutex).lockSlow", "internal/sync.runtime_canSpin", "internal/sync.runtime_doSpin", "internal/sync.throw", "internal/sync.runtime_nanotime", "internal/sync.runtime_SemacquireMutex", "sync/atomic.AddInt32", "(*internal/sync.Mutex).Unlock", "internal/race.ReleaseMerge", "(*internal/sync.Mutex).unlockSlow", "internal/sync.fatal", "internal/sync.runtime_Semrelease"], unfollowed := true, recurses := true, plainKeys := false, apart := false }
def QuietlySaid : Prop := quietlyRow.holds Tryz.pinned (OpenSpec.ofChange quietlySpec)

/-- ITS FALSE NEIGHBOUR: 'it returns false'. Refute it at one input. -/
def quietlyWrong : ChangeSpec := { name := "quietly", fn := fun _ => fun
  | [d1, d2, d3] => { results := [.lit (.bool false)], args := [d1, d2, d3] }
  | _ => none }
def QuietlyWrongFalsely : Prop := quietlyRow.holds Tryz.pinned (OpenSpec.ofChange quietlyWrong)

/-- 'meshlaw.Hears': WHATEVER THE INPUT: true; the input reads as it did. -/
def hearsSpec : ChangeSpec := { name := "hears", fn := fun _ => fun
  | [d1, d2, d3, d4] => { results := [.lit (.bool true)], args := [d1, d2, d3, d4] }
  | _ => none }
def hearsRow : OpenClaim := { program := "ytapoehkdnglahabgreat", sum := "85732c0a80206aaa6a85064906999b825d8b0f57dc5c09a7dbd72c0f44ae80d4", func := "mesh/meshlaw.Hears", spec := "hears", inPlace := ["(*internal/sync.Mutex).Lock", "internal/race.Disable", "sync/atomic.CompareAndSwapInt32", "internal/race.Enable", "internal/race.Acquire", "(*internal/sync.Mutex).lockSlow", "internal/sync.runtime_canSpin", "internal/sync.runtime_doSpin", "internal/sync.throw", "internal/sync.runtime_nanotime", "internal/sync.runtime_SemacquireMutex", "sync/atomic.AddInt32", "(*internal/sync.Mutex).Unlock", "internal/race.ReleaseMerge", "(*internal/sync.Mutex).unlockSlow", "internal/sync.fatal", "internal/sync.runtime_Semrelease"], unfollowed := true, recurses := true, plainKeys := false, apart := false }
def HearsSaid : Prop := hearsRow.holds Tryz.pinned (OpenSpec.ofChange hearsSpec)

/-- ITS FALSE NEIGHBOUR: 'it returns false'. Refute it at one input. -/
def hearsWrong : ChangeSpec := { name := "hears", fn := fun _ => fun
  | [d1, d2, d3, d4] => { results := [.lit (.bool false)], args := [d1, d2, d3, d4] }
  | _ => none }
def HearsWrongFalsely : Prop := hearsRow.holds Tryz.pinned (OpenSpec.ofChange hearsWrong)

/-- 'meshlaw.Nodes': WHATEVER THE INPUT: true; the input reads as it did. -/
def nodesSpec : ChangeSpec := { name := "nodes", fn := fun _ => fun
  | [d1, d2, d3, d4] => { results := [.lit (.bool true)], args := [d1, d2, d3, d4] }
  | _ => none }
def nodesRow : OpenClaim := { program := "ytapoehkdnglahabgreat", sum := "85732c0a80206aaa6a85064906999b825d8b0f57dc5c09a7dbd72c0f44ae80d4", func := "mesh/meshlaw.Nodes", spec := "nodes", inPlace := ["(*internal/sync.Mutex).Lock", "internal/race.Disable", "sync/atomic.CompareAndSwapInt32", "internal/race.Enable", "internal/race.Acquire", "(*internal/sync.Mutex).lockSlow", "internal/sync.runtime_canSpin", "internal/sync.runtime_doSpin", "internal/sync.throw", "internal/sync.runtime_nanotime", "internal/sync.runtime_SemacquireMutex", "sync/atomic.AddInt32", "(*internal/sync.Mutex).Unlock", "internal/race.ReleaseMerge", "(*internal/sync.Mutex).unlockSlow", "internal/sync.fatal", "internal/sync.runtime_Semrelease"], unfollowed := true, recurses := true, plainKeys := false, apart := false }
def NodesSaid : Prop := nodesRow.holds Tryz.pinned (OpenSpec.ofChange nodesSpec)

/-- ITS FALSE NEIGHBOUR: 'it returns false'. Refute it at one input. -/
def nodesWrong : ChangeSpec := { name := "nodes", fn := fun _ => fun
  | [d1, d2, d3, d4] => { results := [.lit (.bool false)], args := [d1, d2, d3, d4] }
  | _ => none }
def NodesWrongFalsely : Prop := nodesRow.holds Tryz.pinned (OpenSpec.ofChange nodesWrong)

/-- 'meshkeep.Once': WHATEVER THE INPUT: true; the input reads as it did. -/
def onceSpec : ChangeSpec := { name := "once", fn := fun _ => fun
  | [d1, d2] => { results := [.lit (.bool true)], args := [d1, d2] }
  | _ => none }
def onceRow : OpenClaim := { program := "ytapoehkdnglahabgreat", sum := "85732c0a80206aaa6a85064906999b825d8b0f57dc5c09a7dbd72c0f44ae80d4", func := "mesh/meshkeep.Once", spec := "once", inPlace := ["(*internal/sync.Mutex).Lock", "internal/race.Disable", "sync/atomic.CompareAndSwapInt32", "internal/race.Enable", "internal/race.Acquire", "(*internal/sync.Mutex).lockSlow", "internal/sync.runtime_canSpin", "internal/sync.runtime_doSpin", "internal/sync.throw", "internal/sync.runtime_nanotime", "internal/sync.runtime_SemacquireMutex", "sync/atomic.AddInt32", "(*internal/sync.Mutex).Unlock", "internal/race.ReleaseMerge", "(*internal/sync.Mutex).unlockSlow", "internal/sync.fatal", "internal/sync.runtime_Semrelease"], unfollowed := true, recurses := true, plainKeys := false, apart := false }
def OnceSaid : Prop := onceRow.holds Tryz.pinned (OpenSpec.ofChange onceSpec)

/-- ITS FALSE NEIGHBOUR: 'it returns false'. Refute it at one input. -/
def onceWrong : ChangeSpec := { name := "once", fn := fun _ => fun
  | [d1, d2] => { results := [.lit (.bool false)], args := [d1, d2] }
  | _ => none }
def OnceWrongFalsely : Prop := onceRow.holds Tryz.pinned (OpenSpec.ofChange onceWrong)

/-- 'meshkeep.Arrives': WHATEVER THE INPUT: true; the input reads as it did. -/
def arrivesSpec : ChangeSpec := { name := "arrives", fn := fun _ => fun
  | [d1, d2, d3, d4, d5, d6] => { results := [.lit (.bool true)], args := [d1, d2, d3, d4, d5, d6] }
  | _ => none }
def arrivesRow : OpenClaim := { program := "ytapoehkdnglahabgreat", sum := "85732c0a80206aaa6a85064906999b825d8b0f57dc5c09a7dbd72c0f44ae80d4", func := "mesh/meshkeep.Arrives", spec := "arrives", inPlace := ["(*internal/sync.Mutex).Lock", "internal/race.Disable", "sync/atomic.CompareAndSwapInt32", "internal/race.Enable", "internal/race.Acquire", "(*internal/sync.Mutex).lockSlow", "internal/sync.runtime_canSpin", "internal/sync.runtime_doSpin", "internal/sync.throw", "internal/sync.runtime_nanotime", "internal/sync.runtime_SemacquireMutex", "sync/atomic.AddInt32", "(*internal/sync.Mutex).Unlock", "internal/race.ReleaseMerge", "(*internal/sync.Mutex).unlockSlow", "internal/sync.fatal", "internal/sync.runtime_Semrelease"], unfollowed := true, recurses := true, plainKeys := false, apart := false }
def ArrivesSaid : Prop := arrivesRow.holds Tryz.pinned (OpenSpec.ofChange arrivesSpec)

/-- ITS FALSE NEIGHBOUR: 'it returns false'. Refute it at one input. -/
def arrivesWrong : ChangeSpec := { name := "arrives", fn := fun _ => fun
  | [d1, d2, d3, d4, d5, d6] => { results := [.lit (.bool false)], args := [d1, d2, d3, d4, d5, d6] }
  | _ => none }
def ArrivesWrongFalsely : Prop := arrivesRow.holds Tryz.pinned (OpenSpec.ofChange arrivesWrong)

/-- 'meshkeep.Circles': WHATEVER THE INPUT: true; the input reads as it did. -/
def circlesSpec : ChangeSpec := { name := "circles", fn := fun _ => fun
  | [d1, d2] => { results := [.lit (.bool true)], args := [d1, d2] }
  | _ => none }
def circlesRow : OpenClaim := { program := "ytapoehkdnglahabgreat", sum := "85732c0a80206aaa6a85064906999b825d8b0f57dc5c09a7dbd72c0f44ae80d4", func := "mesh/meshkeep.Circles", spec := "circles", inPlace := ["(*internal/sync.Mutex).Lock", "internal/race.Disable", "sync/atomic.CompareAndSwapInt32", "internal/race.Enable", "internal/race.Acquire", "(*internal/sync.Mutex).lockSlow", "internal/sync.runtime_canSpin", "internal/sync.runtime_doSpin", "internal/sync.throw", "internal/sync.runtime_nanotime", "internal/sync.runtime_SemacquireMutex", "sync/atomic.AddInt32", "(*internal/sync.Mutex).Unlock", "internal/race.ReleaseMerge", "(*internal/sync.Mutex).unlockSlow", "internal/sync.fatal", "internal/sync.runtime_Semrelease"], unfollowed := true, recurses := true, plainKeys := false, apart := false }
def CirclesSaid : Prop := circlesRow.holds Tryz.pinned (OpenSpec.ofChange circlesSpec)

/-- ITS FALSE NEIGHBOUR: 'it returns false'. Refute it at one input. -/
def circlesWrong : ChangeSpec := { name := "circles", fn := fun _ => fun
  | [d1, d2] => { results := [.lit (.bool false)], args := [d1, d2] }
  | _ => none }
def CirclesWrongFalsely : Prop := circlesRow.holds Tryz.pinned (OpenSpec.ofChange circlesWrong)

/-- 'meshlaw.Meshes': WHATEVER THE INPUT: true; the input reads as it did. -/
def meshesSpec : ChangeSpec := { name := "meshes", fn := fun _ => fun
  | [d1, d2] => { results := [.lit (.bool true)], args := [d1, d2] }
  | _ => none }
def meshesRow : OpenClaim := { program := "ytapoehkdnglahabgreat", sum := "85732c0a80206aaa6a85064906999b825d8b0f57dc5c09a7dbd72c0f44ae80d4", func := "mesh/meshlaw.Meshes", spec := "meshes", inPlace := ["(*internal/sync.Mutex).Lock", "internal/race.Disable", "sync/atomic.CompareAndSwapInt32", "internal/race.Enable", "internal/race.Acquire", "(*internal/sync.Mutex).lockSlow", "internal/sync.runtime_canSpin", "internal/sync.runtime_doSpin", "internal/sync.throw", "internal/sync.runtime_nanotime", "internal/sync.runtime_SemacquireMutex", "sync/atomic.AddInt32", "(*internal/sync.Mutex).Unlock", "internal/race.ReleaseMerge", "(*internal/sync.Mutex).unlockSlow", "internal/sync.fatal", "internal/sync.runtime_Semrelease"], unfollowed := true, recurses := true, plainKeys := false, apart := false }
def MeshesSaid : Prop := meshesRow.holds Tryz.pinned (OpenSpec.ofChange meshesSpec)

/-- ITS FALSE NEIGHBOUR: 'it returns false'. Refute it at one input. -/
def meshesWrong : ChangeSpec := { name := "meshes", fn := fun _ => fun
  | [d1, d2] => { results := [.lit (.bool false)], args := [d1, d2] }
  | _ => none }
def MeshesWrongFalsely : Prop := meshesRow.holds Tryz.pinned (OpenSpec.ofChange meshesWrong)

/- THE SECOND FORM. 'bulk': how many values and letters a reading holds, each counted each time it is reached (what is shared counts as often as it is met; a slice's spare places count too). A statement '..UptoSaid' is the law's where the arguments, and the package variables that the reading takes, are together of bulk at most 1048576: NARROWER than '..Said'. Prove '..Said' where nothing that the law and all that it calls make is longer than what came in: it says more and counts as full. Else prove '..UptoSaid'. A law counts once. -/
mutual
def uptoBulk {H : Type} : DataW H → Nat
  | .lit (.string bytes) => bytes.length + 1
  | .lit _ => 1
  | .nil => 1
  | .ptr d => uptoBulk d + 1
  | .slice elems spare => uptoBulkAll elems + uptoBulkAll spare + 1
  | .agg parts => uptoBulkAll parts + 1
  | .iface _ d => uptoBulk d + 1
  | .map entries => uptoBulkEntries entries + 1
  | .held _ => 1
def uptoBulkAll {H : Type} : List (DataW H) → Nat
  | [] => 0
  | d :: r => uptoBulk d + uptoBulkAll r
def uptoBulkEntries {H : Type} : List (Lit × DataW H) → Nat
  | [] => 0
  | x :: r => uptoBulkEntry x + uptoBulkEntries r
def uptoBulkEntry {H : Type} : Lit × DataW H → Nat
  | (.string bytes, d) => bytes.length + uptoBulk d + 1
  | (_, d) => uptoBulk d + 1
 end
def uptoSmall : (H : Type) → List (DataW H) → Bool := fun _ ds => decide (uptoBulkAll ds ≤ 1048576)
def OpenSpec.upto (s : _root_.Go.ChangeSpec) : _root_.Go.OpenSpec := { _root_.Go.OpenSpec.ofChange s with cond := some uptoSmall }

/-- 'meshkeep.Quietly', WHERE WHAT IT READS IS OF BULK AT MOST 1048576: true; the input reads as it did. -/
def quietlyUptoRow : OpenClaim := { program := "ytapoehkdnglahabgreat", sum := "85732c0a80206aaa6a85064906999b825d8b0f57dc5c09a7dbd72c0f44ae80d4", func := "mesh/meshkeep.Quietly", spec := "quietly", inPlace := ["(*internal/sync.Mutex).Lock", "internal/race.Disable", "sync/atomic.CompareAndSwapInt32", "internal/race.Enable", "internal/race.Acquire", "(*internal/sync.Mutex).lockSlow", "internal/sync.runtime_canSpin", "internal/sync.runtime_doSpin", "internal/sync.throw", "internal/sync.runtime_nanotime", "internal/sync.runtime_SemacquireMutex", "sync/atomic.AddInt32", "(*internal/sync.Mutex).Unlock", "internal/race.ReleaseMerge", "(*internal/sync.Mutex).unlockSlow", "internal/sync.fatal", "internal/sync.runtime_Semrelease"], unfollowed := true, recurses := true, plainKeys := false, apart := false, narrowed := true }
def QuietlyUptoSaid : Prop := quietlyUptoRow.holds Tryz.pinned (OpenSpec.upto quietlySpec)

/-- 'meshlaw.Hears', WHERE WHAT IT READS IS OF BULK AT MOST 1048576: true; the input reads as it did. -/
def hearsUptoRow : OpenClaim := { program := "ytapoehkdnglahabgreat", sum := "85732c0a80206aaa6a85064906999b825d8b0f57dc5c09a7dbd72c0f44ae80d4", func := "mesh/meshlaw.Hears", spec := "hears", inPlace := ["(*internal/sync.Mutex).Lock", "internal/race.Disable", "sync/atomic.CompareAndSwapInt32", "internal/race.Enable", "internal/race.Acquire", "(*internal/sync.Mutex).lockSlow", "internal/sync.runtime_canSpin", "internal/sync.runtime_doSpin", "internal/sync.throw", "internal/sync.runtime_nanotime", "internal/sync.runtime_SemacquireMutex", "sync/atomic.AddInt32", "(*internal/sync.Mutex).Unlock", "internal/race.ReleaseMerge", "(*internal/sync.Mutex).unlockSlow", "internal/sync.fatal", "internal/sync.runtime_Semrelease"], unfollowed := true, recurses := true, plainKeys := false, apart := false, narrowed := true }
def HearsUptoSaid : Prop := hearsUptoRow.holds Tryz.pinned (OpenSpec.upto hearsSpec)

/-- 'meshlaw.Nodes', WHERE WHAT IT READS IS OF BULK AT MOST 1048576: true; the input reads as it did. -/
def nodesUptoRow : OpenClaim := { program := "ytapoehkdnglahabgreat", sum := "85732c0a80206aaa6a85064906999b825d8b0f57dc5c09a7dbd72c0f44ae80d4", func := "mesh/meshlaw.Nodes", spec := "nodes", inPlace := ["(*internal/sync.Mutex).Lock", "internal/race.Disable", "sync/atomic.CompareAndSwapInt32", "internal/race.Enable", "internal/race.Acquire", "(*internal/sync.Mutex).lockSlow", "internal/sync.runtime_canSpin", "internal/sync.runtime_doSpin", "internal/sync.throw", "internal/sync.runtime_nanotime", "internal/sync.runtime_SemacquireMutex", "sync/atomic.AddInt32", "(*internal/sync.Mutex).Unlock", "internal/race.ReleaseMerge", "(*internal/sync.Mutex).unlockSlow", "internal/sync.fatal", "internal/sync.runtime_Semrelease"], unfollowed := true, recurses := true, plainKeys := false, apart := false, narrowed := true }
def NodesUptoSaid : Prop := nodesUptoRow.holds Tryz.pinned (OpenSpec.upto nodesSpec)

/-- 'meshkeep.Once', WHERE WHAT IT READS IS OF BULK AT MOST 1048576: true; the input reads as it did. -/
def onceUptoRow : OpenClaim := { program := "ytapoehkdnglahabgreat", sum := "85732c0a80206aaa6a85064906999b825d8b0f57dc5c09a7dbd72c0f44ae80d4", func := "mesh/meshkeep.Once", spec := "once", inPlace := ["(*internal/sync.Mutex).Lock", "internal/race.Disable", "sync/atomic.CompareAndSwapInt32", "internal/race.Enable", "internal/race.Acquire", "(*internal/sync.Mutex).lockSlow", "internal/sync.runtime_canSpin", "internal/sync.runtime_doSpin", "internal/sync.throw", "internal/sync.runtime_nanotime", "internal/sync.runtime_SemacquireMutex", "sync/atomic.AddInt32", "(*internal/sync.Mutex).Unlock", "internal/race.ReleaseMerge", "(*internal/sync.Mutex).unlockSlow", "internal/sync.fatal", "internal/sync.runtime_Semrelease"], unfollowed := true, recurses := true, plainKeys := false, apart := false, narrowed := true }
def OnceUptoSaid : Prop := onceUptoRow.holds Tryz.pinned (OpenSpec.upto onceSpec)

/-- 'meshkeep.Arrives', WHERE WHAT IT READS IS OF BULK AT MOST 1048576: true; the input reads as it did. -/
def arrivesUptoRow : OpenClaim := { program := "ytapoehkdnglahabgreat", sum := "85732c0a80206aaa6a85064906999b825d8b0f57dc5c09a7dbd72c0f44ae80d4", func := "mesh/meshkeep.Arrives", spec := "arrives", inPlace := ["(*internal/sync.Mutex).Lock", "internal/race.Disable", "sync/atomic.CompareAndSwapInt32", "internal/race.Enable", "internal/race.Acquire", "(*internal/sync.Mutex).lockSlow", "internal/sync.runtime_canSpin", "internal/sync.runtime_doSpin", "internal/sync.throw", "internal/sync.runtime_nanotime", "internal/sync.runtime_SemacquireMutex", "sync/atomic.AddInt32", "(*internal/sync.Mutex).Unlock", "internal/race.ReleaseMerge", "(*internal/sync.Mutex).unlockSlow", "internal/sync.fatal", "internal/sync.runtime_Semrelease"], unfollowed := true, recurses := true, plainKeys := false, apart := false, narrowed := true }
def ArrivesUptoSaid : Prop := arrivesUptoRow.holds Tryz.pinned (OpenSpec.upto arrivesSpec)

/-- 'meshkeep.Circles', WHERE WHAT IT READS IS OF BULK AT MOST 1048576: true; the input reads as it did. -/
def circlesUptoRow : OpenClaim := { program := "ytapoehkdnglahabgreat", sum := "85732c0a80206aaa6a85064906999b825d8b0f57dc5c09a7dbd72c0f44ae80d4", func := "mesh/meshkeep.Circles", spec := "circles", inPlace := ["(*internal/sync.Mutex).Lock", "internal/race.Disable", "sync/atomic.CompareAndSwapInt32", "internal/race.Enable", "internal/race.Acquire", "(*internal/sync.Mutex).lockSlow", "internal/sync.runtime_canSpin", "internal/sync.runtime_doSpin", "internal/sync.throw", "internal/sync.runtime_nanotime", "internal/sync.runtime_SemacquireMutex", "sync/atomic.AddInt32", "(*internal/sync.Mutex).Unlock", "internal/race.ReleaseMerge", "(*internal/sync.Mutex).unlockSlow", "internal/sync.fatal", "internal/sync.runtime_Semrelease"], unfollowed := true, recurses := true, plainKeys := false, apart := false, narrowed := true }
def CirclesUptoSaid : Prop := circlesUptoRow.holds Tryz.pinned (OpenSpec.upto circlesSpec)

/-- 'meshlaw.Meshes', WHERE WHAT IT READS IS OF BULK AT MOST 1048576: true; the input reads as it did. -/
def meshesUptoRow : OpenClaim := { program := "ytapoehkdnglahabgreat", sum := "85732c0a80206aaa6a85064906999b825d8b0f57dc5c09a7dbd72c0f44ae80d4", func := "mesh/meshlaw.Meshes", spec := "meshes", inPlace := ["(*internal/sync.Mutex).Lock", "internal/race.Disable", "sync/atomic.CompareAndSwapInt32", "internal/race.Enable", "internal/race.Acquire", "(*internal/sync.Mutex).lockSlow", "internal/sync.runtime_canSpin", "internal/sync.runtime_doSpin", "internal/sync.throw", "internal/sync.runtime_nanotime", "internal/sync.runtime_SemacquireMutex", "sync/atomic.AddInt32", "(*internal/sync.Mutex).Unlock", "internal/race.ReleaseMerge", "(*internal/sync.Mutex).unlockSlow", "internal/sync.fatal", "internal/sync.runtime_Semrelease"], unfollowed := true, recurses := true, plainKeys := false, apart := false, narrowed := true }
def MeshesUptoSaid : Prop := meshesUptoRow.holds Tryz.pinned (OpenSpec.upto meshesSpec)

end Rows
end Go.Proofs.YtapoehkdnglahabGreat
