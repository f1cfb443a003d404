/- Packets, and when one is a frame, in plain Lean. -/
import Derived.Test.YtapoehkdnglahaaApp
namespace Go.Proofs.Ytapoehkdnglahaa
/-- A packet. -/
structure Pk where
  ttl : Int
  kind : Int
  hops : Int
  unknown : Bool
  id : UInt32
  dest : UInt32
  destSeq : UInt32
  from_ : UInt32
  fromSeq : UInt32
  life : UInt32
  lost : List (UInt32 × UInt32)
  payload : List UInt8
/-- Its cells; v: the slice of what is lost. -/
def Pk.cells (p : Pk) (v : Value) : List Value :=
  [.int .i64 p.ttl, .int .i64 p.kind, .int .i64 p.hops, .bool p.unknown, u32 p.id, u32 p.dest, u32 p.destSeq, u32 p.from_, u32 p.fromSeq, u32 p.life, v, strV p.payload]
def Pk.val (p : Pk) (v : Value) : Value := .agg (p.cells v).toArray
def i64R (n : Int) : Prop := -9223372036854775808 ≤ n ∧ n ≤ 9223372036854775807
structure Pk.Ok (p : Pk) : Prop where
  ttl : i64R p.ttl
  kind : i64R p.kind
  hops : i64R p.hops
  lost : p.lost.length ≤ 100000
  payload : p.payload.length ≤ 100000
/-- It can be a frame: the numbers in their bounds, and nothing that its kind has not. -/
def Pk.Fits (p : Pk) : Prop :=
  (1 ≤ p.ttl ∧ p.ttl ≤ 255 ∧ 0 ≤ p.hops ∧ p.hops ≤ 255 ∧ p.payload.length ≤ 16 ∧ p.lost.length ≤ 8) ∧
  ((p.kind = 1 ∧ p.life = 0 ∧ p.lost.length = 0 ∧ p.payload = [] ∧ (p.unknown = false ∨ p.destSeq = 0)) ∨
   (p.kind = 2 ∧ p.unknown = false ∧ p.fromSeq = 0 ∧ p.id = 0 ∧ p.lost.length = 0 ∧ p.payload = []) ∨
   (p.kind = 3 ∧ p.unknown = false ∧ p.fromSeq = 0 ∧ p.hops = 0 ∧ p.destSeq = 0 ∧ p.id = 0 ∧ p.life = 0 ∧ 0 < p.lost.length ∧ p.dest = 0 ∧ p.from_ = 0 ∧ p.payload = []) ∨
   (p.kind = 9 ∧ p.unknown = false ∧ p.fromSeq = 0 ∧ p.hops = 0 ∧ p.destSeq = 0 ∧ p.life = 0 ∧ p.lost.length = 0))
instance (p : Pk) : Decidable p.Fits := by unfold Pk.Fits; infer_instance
/-- An element of what is lost. -/
def lostC (x : UInt32 × UInt32) : List Value := [u32 x.1, u32 x.2]
instance : FixLen lostC 2 := ⟨fun _ => rfl⟩
theorem lostC_one : ∀ z, ∀ c ∈ lostC z, c.oneCell' = true := by intro z c hc; simp [lostC] at hc; rcases hc with rfl | rfl <;> rfl
def nums32 (l : List UInt32) : List UInt8 := l.flatMap be
def lostB (l : List (UInt32 × UInt32)) : List UInt8 := l.flatMap fun x => be x.1 ++ be x.2
theorem lostB_length (l : List (UInt32 × UInt32)) : (lostB l).length = 8 * l.length := by
  induction l with
  | nil => rfl
  | cons a l ih => simp [lostB, be_length] at ih ⊢; omega
theorem lostB_take_succ (l : List (UInt32 × UInt32)) (k : Nat) (x : UInt32 × UInt32) (h : l[k]? = some x) : lostB (l.take (k + 1)) = lostB (l.take k) ++ be x.1 ++ be x.2 := by
  rw [List.take_add_one, h]; simp [lostB]
/-- The frame of a packet that can be one. -/
def Pk.bytes (p : Pk) : List UInt8 :=
  if p.kind = 1 then [b8 p.ttl, 1, if p.unknown then 8 else 0, 0, b8 p.hops] ++ be p.id ++ be p.dest ++ be p.destSeq ++ be p.from_ ++ be p.fromSeq
  else if p.kind = 2 then [b8 p.ttl, 2, 0, 0, b8 p.hops] ++ be p.dest ++ be p.destSeq ++ be p.from_ ++ be p.life
  else if p.kind = 3 then [b8 p.ttl, 3, 0, 0, b8 p.lost.length] ++ lostB p.lost
  else [b8 p.ttl, 9, 0, 0, b8 p.payload.length] ++ be p.id ++ be p.dest ++ be p.from_ ++ p.payload
end Go.Proofs.Ytapoehkdnglahaa
