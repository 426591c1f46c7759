/- Contracts of rdata.words, Soa and Unsoa, and of the document's. -/
import Derived.Test.YtndcjleadggibaaDataA
import Derived.BigRegion
import Derived.RegionTactic
import Derived.Lib.QuietBelow
import Derived.BigQuiet
import Derived.Deep.RegionHeld3
import Derived.Test.YtndcjleadggibaaOpen
namespace Go.Proofs.Ytndcjleadggibaa.Rd
open Go.RowKit Go.PlainAid Go.Proofs.Ytndcjleadggibaa.Base Go.Proofs.Ytndcjleadggibaa.Oct Go.Proofs.Ytndcjleadggibaa.Sl Go.Proofs.Ytndcjleadggibaa.Nm
set_option linter.unusedVariables false

/-- A place of a block. -/
def plc (a : Nat) (k : Nat) : Value := .pointer (some ⟨a, k, none⟩)
set_option maxHeartbeats 1000000 in
theorem words (b : Nat) (w : World) : Calls Try.prog 62 #[plc b 0] w fun e w' => e = .returned (.agg #[plc b 2, plc b 3, plc b 4, plc b 5, plc b 6]) ∧ Below w.heap.size w w' := by
  unfold plc
  go_enter Try.func62, Try.ntmps62
  go_wp2
  go_region
  go_wp2
  exact bodyPost_ret (v := .agg #[plc b 2, plc b 3, plc b 4, plc b 5, plc b 6]) (by simp [results, Try.results62, go_sem, plc]) rfl ⟨rfl, below_drew (below_alloc (Below.refl _ _) _)⟩

/-- An SOA's parts. -/
structure Soa where
  host : ByteArray
  mail : ByteArray
  s0 : Int
  s1 : Int
  s2 : Int
  s3 : Int
  s4 : Int
def Soa.val (x : Soa) : Value := .agg #[.string x.host, .string x.mail, .int .i64 x.s0, .int .i64 x.s1, .int .i64 x.s2, .int .i64 x.s3, .int .i64 x.s4]
def Soa.ok (x : Soa) : Bool := nameB x.host && (nameB x.mail && (wideB x.s0 && (wideB x.s1 && (wideB x.s2 && (wideB x.s3 && wideB x.s4)))))
def Soa.out (x : Soa) : ByteArray := x.host ++ x.mail ++ p32 x.s0 ++ p32 x.s1 ++ p32 x.s2 ++ p32 x.s3 ++ p32 x.s4
def Soa.S (x : Soa) : ByteArray := if x.ok then x.out else emp
def Soa.E (x : Soa) : Int := if x.ok then 0 else 400
end Go.Proofs.Ytndcjleadggibaa.Rd
