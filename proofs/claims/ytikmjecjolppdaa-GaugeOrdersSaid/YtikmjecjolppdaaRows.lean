/-
  No cell of these rows narrows 'for every input' (looked for: loops, veiled, ifaces, maps, wideKeys, modest, calm, conditions, laid).
  DERIVED. THE GIVEN ROWS OF THIS SEAT. 6 by the template 'for every input the law returns true; each argument reads behind the call as it read before'; 0 by the template 'total and deterministic' (their statements: YtikmjecjolppdaaTotals.lean).
  GIVEN WITH THE SEED: the statements are not yours to turn. If you find one false, say at which input.
  Laid BY PROGRAM, IN A SANDBOX (cutbox-rows.mjs): the forced cells as the released guide's own fill.sh prints them over the translation 509ceb817c2129c6… (all of the seat's roots in one cut). By AI agents, Wed Nov 11 2026. No macro, syntax, notation, axiom, sorry.
-/
import Derived.Test.YtikmjecjolppdaaChecked
import GoSem.Claim
import GoSem.ClaimJoined
import GoSem.ClaimMapViews
import Derived.JoinedTies
import Derived.KernelRfl
namespace Go.Proofs.Ytikmjecjolppdaa
/- THE CELL 'sum', in the pinned program and in every row, IS THE sha256 OF THE DUMP (.gsa) THAT YtikmjecjolppdaaProg.lean LOADS. Nothing in Lean hashes anything: it is a label: what it is worth is what the hold of that sum in a sandbox is worth. -/
noncomputable def Try.pinned : Pinned := { name := "ytikmjecjolppdaa", sum := "509ceb817c2129c6a74f992d7464a2713e3ba5216fe6fa90dcd0c474dc1a365c", checked := Try.checked }
namespace Rows
def none {H : Type} : Left H := { results := [], args := [] }

/-- 'ashlarlaw24.GaugeShares': WHATEVER THE INPUT: true; the input reads as it did. -/
def gaugeSharesSpec : ChangeSpec := { name := "gaugeShares", fn := fun _ => fun
  | [d1, d2] => { results := [.lit (.bool true)], args := [d1, d2] }
  | _ => none }
def gaugeSharesRow : OpenClaim := { program := "ytikmjecjolppdaa", sum := "509ceb817c2129c6a74f992d7464a2713e3ba5216fe6fa90dcd0c474dc1a365c", func := "ashlar/ashlarlaw24.GaugeShares", spec := "gaugeShares", inPlace := ["math.Float64bits", "math.Float64frombits", "math.archFloor", "math.archTrunc"], apart := false }
def GaugeSharesSaid : Prop := gaugeSharesRow.holds Try.pinned (OpenSpec.ofChange gaugeSharesSpec)

/-- ITS FALSE NEIGHBOUR: 'it returns false'. Refute it at one input. -/
def gaugeSharesWrong : ChangeSpec := { name := "gaugeShares", fn := fun _ => fun
  | [d1, d2] => { results := [.lit (.bool false)], args := [d1, d2] }
  | _ => none }
def GaugeSharesWrongFalsely : Prop := gaugeSharesRow.holds Try.pinned (OpenSpec.ofChange gaugeSharesWrong)

/-- 'ashlarlaw24.GaugeOrders': WHATEVER THE INPUT: true; the input reads as it did. -/
def gaugeOrdersSpec : ChangeSpec := { name := "gaugeOrders", fn := fun _ => fun
  | [d1, d2, d3] => { results := [.lit (.bool true)], args := [d1, d2, d3] }
  | _ => none }
def gaugeOrdersRow : OpenClaim := { program := "ytikmjecjolppdaa", sum := "509ceb817c2129c6a74f992d7464a2713e3ba5216fe6fa90dcd0c474dc1a365c", func := "ashlar/ashlarlaw24.GaugeOrders", spec := "gaugeOrders", inPlace := ["math.Float64frombits", "math.Float64bits", "math.archFloor", "math.archTrunc"], apart := false }
def GaugeOrdersSaid : Prop := gaugeOrdersRow.holds Try.pinned (OpenSpec.ofChange gaugeOrdersSpec)

/-- ITS FALSE NEIGHBOUR: 'it returns false'. Refute it at one input. -/
def gaugeOrdersWrong : ChangeSpec := { name := "gaugeOrders", fn := fun _ => fun
  | [d1, d2, d3] => { results := [.lit (.bool false)], args := [d1, d2, d3] }
  | _ => none }
def GaugeOrdersWrongFalsely : Prop := gaugeOrdersRow.holds Try.pinned (OpenSpec.ofChange gaugeOrdersWrong)

/-- 'ashlarlaw24.GaugeOrder': WHATEVER THE INPUT: true; the input reads as it did. -/
def gaugeOrderSpec : ChangeSpec := { name := "gaugeOrder", fn := fun _ => fun
  | [d1, d2, d3] => { results := [.lit (.bool true)], args := [d1, d2, d3] }
  | _ => none }
def gaugeOrderRow : OpenClaim := { program := "ytikmjecjolppdaa", sum := "509ceb817c2129c6a74f992d7464a2713e3ba5216fe6fa90dcd0c474dc1a365c", func := "ashlar/ashlarlaw24.GaugeOrder", spec := "gaugeOrder", inPlace := ["math.Float64bits", "math.Float64frombits", "math.archFloor", "math.archTrunc"], apart := false }
def GaugeOrderSaid : Prop := gaugeOrderRow.holds Try.pinned (OpenSpec.ofChange gaugeOrderSpec)

/-- ITS FALSE NEIGHBOUR: 'it returns false'. Refute it at one input. -/
def gaugeOrderWrong : ChangeSpec := { name := "gaugeOrder", fn := fun _ => fun
  | [d1, d2, d3] => { results := [.lit (.bool false)], args := [d1, d2, d3] }
  | _ => none }
def GaugeOrderWrongFalsely : Prop := gaugeOrderRow.holds Try.pinned (OpenSpec.ofChange gaugeOrderWrong)

/-- 'ashlarlaw24.GaugeMeans': WHATEVER THE INPUT: true; the input reads as it did. -/
def gaugeMeansSpec : ChangeSpec := { name := "gaugeMeans", fn := fun _ => fun
  | [d1, d2, d3, d4] => { results := [.lit (.bool true)], args := [d1, d2, d3, d4] }
  | _ => none }
def gaugeMeansRow : OpenClaim := { program := "ytikmjecjolppdaa", sum := "509ceb817c2129c6a74f992d7464a2713e3ba5216fe6fa90dcd0c474dc1a365c", func := "ashlar/ashlarlaw24.GaugeMeans", spec := "gaugeMeans", inPlace := ["math.Float64frombits", "math.Float64bits", "math.archFloor", "math.archTrunc"], apart := false }
def GaugeMeansSaid : Prop := gaugeMeansRow.holds Try.pinned (OpenSpec.ofChange gaugeMeansSpec)

/-- ITS FALSE NEIGHBOUR: 'it returns false'. Refute it at one input. -/
def gaugeMeansWrong : ChangeSpec := { name := "gaugeMeans", fn := fun _ => fun
  | [d1, d2, d3, d4] => { results := [.lit (.bool false)], args := [d1, d2, d3, d4] }
  | _ => none }
def GaugeMeansWrongFalsely : Prop := gaugeMeansRow.holds Try.pinned (OpenSpec.ofChange gaugeMeansWrong)

/-- 'ashlarlaw24.GaugeMilles': WHATEVER THE INPUT: true; the input reads as it did. -/
def gaugeMillesSpec : ChangeSpec := { name := "gaugeMilles", fn := fun _ => fun
  | [d] => { results := [.lit (.bool true)], args := [d] }
  | _ => none }
def gaugeMillesRow : OpenClaim := { program := "ytikmjecjolppdaa", sum := "509ceb817c2129c6a74f992d7464a2713e3ba5216fe6fa90dcd0c474dc1a365c", func := "ashlar/ashlarlaw24.GaugeMilles", spec := "gaugeMilles", inPlace := ["math.archFloor", "math.Float64bits", "math.Float64frombits", "math.archTrunc"], apart := false }
def GaugeMillesSaid : Prop := gaugeMillesRow.holds Try.pinned (OpenSpec.ofChange gaugeMillesSpec)

/-- ITS FALSE NEIGHBOUR: 'it returns false'. Refute it at one input. -/
def gaugeMillesWrong : ChangeSpec := { name := "gaugeMilles", fn := fun _ => fun
  | [d] => { results := [.lit (.bool false)], args := [d] }
  | _ => none }
def GaugeMillesWrongFalsely : Prop := gaugeMillesRow.holds Try.pinned (OpenSpec.ofChange gaugeMillesWrong)

/-- 'ashlarlaw24.GaugeStays': WHATEVER THE INPUT: true; the input reads as it did. -/
def gaugeStaysSpec : ChangeSpec := { name := "gaugeStays", fn := fun _ => fun
  | [d1, d2] => { results := [.lit (.bool true)], args := [d1, d2] }
  | _ => none }
def gaugeStaysRow : OpenClaim := { program := "ytikmjecjolppdaa", sum := "509ceb817c2129c6a74f992d7464a2713e3ba5216fe6fa90dcd0c474dc1a365c", func := "ashlar/ashlarlaw24.GaugeStays", spec := "gaugeStays", inPlace := ["math.Float64bits", "math.Float64frombits", "math.archFloor", "math.archTrunc"], apart := false }
def GaugeStaysSaid : Prop := gaugeStaysRow.holds Try.pinned (OpenSpec.ofChange gaugeStaysSpec)

/-- ITS FALSE NEIGHBOUR: 'it returns false'. Refute it at one input. -/
def gaugeStaysWrong : ChangeSpec := { name := "gaugeStays", fn := fun _ => fun
  | [d1, d2] => { results := [.lit (.bool false)], args := [d1, d2] }
  | _ => none }
def GaugeStaysWrongFalsely : Prop := gaugeStaysRow.holds Try.pinned (OpenSpec.ofChange gaugeStaysWrong)

/- THE SECOND FORM. 'bulk': how many values and letters a reading holds, each counted each time it is reached (what is shared counts as often as it is met; a slice's spare places count too). A statement '..UptoSaid' is the law's where the arguments, and the package variables that the reading takes, are together of bulk at most 1048576: NARROWER than '..Said'. Prove '..Said' where nothing that the law and all that it calls make is longer than what came in: it says more and counts as full. Else prove '..UptoSaid'. A law counts once. -/
mutual
def uptoBulk {H : Type} : DataW H → Nat
  | .lit (.string bytes) => bytes.length + 1
  | .lit _ => 1
  | .nil => 1
  | .ptr d => uptoBulk d + 1
  | .slice elems spare => uptoBulkAll elems + uptoBulkAll spare + 1
  | .agg parts => uptoBulkAll parts + 1
  | .iface _ d => uptoBulk d + 1
  | .map entries => uptoBulkEntries entries + 1
  | .held _ => 1
def uptoBulkAll {H : Type} : List (DataW H) → Nat
  | [] => 0
  | d :: r => uptoBulk d + uptoBulkAll r
def uptoBulkEntries {H : Type} : List (Lit × DataW H) → Nat
  | [] => 0
  | x :: r => uptoBulkEntry x + uptoBulkEntries r
def uptoBulkEntry {H : Type} : Lit × DataW H → Nat
  | (.string bytes, d) => bytes.length + uptoBulk d + 1
  | (_, d) => uptoBulk d + 1
 end
def uptoSmall : (H : Type) → List (DataW H) → Bool := fun _ ds => decide (uptoBulkAll ds ≤ 1048576)
def OpenSpec.upto (s : _root_.Go.ChangeSpec) : _root_.Go.OpenSpec := { _root_.Go.OpenSpec.ofChange s with cond := some uptoSmall }

/-- 'ashlarlaw24.GaugeShares', WHERE WHAT IT READS IS OF BULK AT MOST 1048576: true; the input reads as it did. -/
def gaugeSharesUptoRow : OpenClaim := { program := "ytikmjecjolppdaa", sum := "509ceb817c2129c6a74f992d7464a2713e3ba5216fe6fa90dcd0c474dc1a365c", func := "ashlar/ashlarlaw24.GaugeShares", spec := "gaugeShares", inPlace := ["math.Float64bits", "math.Float64frombits", "math.archFloor", "math.archTrunc"], apart := false, narrowed := true }
def GaugeSharesUptoSaid : Prop := gaugeSharesUptoRow.holds Try.pinned (OpenSpec.upto gaugeSharesSpec)

/-- 'ashlarlaw24.GaugeOrders', WHERE WHAT IT READS IS OF BULK AT MOST 1048576: true; the input reads as it did. -/
def gaugeOrdersUptoRow : OpenClaim := { program := "ytikmjecjolppdaa", sum := "509ceb817c2129c6a74f992d7464a2713e3ba5216fe6fa90dcd0c474dc1a365c", func := "ashlar/ashlarlaw24.GaugeOrders", spec := "gaugeOrders", inPlace := ["math.Float64frombits", "math.Float64bits", "math.archFloor", "math.archTrunc"], apart := false, narrowed := true }
def GaugeOrdersUptoSaid : Prop := gaugeOrdersUptoRow.holds Try.pinned (OpenSpec.upto gaugeOrdersSpec)

/-- 'ashlarlaw24.GaugeOrder', WHERE WHAT IT READS IS OF BULK AT MOST 1048576: true; the input reads as it did. -/
def gaugeOrderUptoRow : OpenClaim := { program := "ytikmjecjolppdaa", sum := "509ceb817c2129c6a74f992d7464a2713e3ba5216fe6fa90dcd0c474dc1a365c", func := "ashlar/ashlarlaw24.GaugeOrder", spec := "gaugeOrder", inPlace := ["math.Float64bits", "math.Float64frombits", "math.archFloor", "math.archTrunc"], apart := false, narrowed := true }
def GaugeOrderUptoSaid : Prop := gaugeOrderUptoRow.holds Try.pinned (OpenSpec.upto gaugeOrderSpec)

/-- 'ashlarlaw24.GaugeMeans', WHERE WHAT IT READS IS OF BULK AT MOST 1048576: true; the input reads as it did. -/
def gaugeMeansUptoRow : OpenClaim := { program := "ytikmjecjolppdaa", sum := "509ceb817c2129c6a74f992d7464a2713e3ba5216fe6fa90dcd0c474dc1a365c", func := "ashlar/ashlarlaw24.GaugeMeans", spec := "gaugeMeans", inPlace := ["math.Float64frombits", "math.Float64bits", "math.archFloor", "math.archTrunc"], apart := false, narrowed := true }
def GaugeMeansUptoSaid : Prop := gaugeMeansUptoRow.holds Try.pinned (OpenSpec.upto gaugeMeansSpec)

/-- 'ashlarlaw24.GaugeMilles', WHERE WHAT IT READS IS OF BULK AT MOST 1048576: true; the input reads as it did. -/
def gaugeMillesUptoRow : OpenClaim := { program := "ytikmjecjolppdaa", sum := "509ceb817c2129c6a74f992d7464a2713e3ba5216fe6fa90dcd0c474dc1a365c", func := "ashlar/ashlarlaw24.GaugeMilles", spec := "gaugeMilles", inPlace := ["math.archFloor", "math.Float64bits", "math.Float64frombits", "math.archTrunc"], apart := false, narrowed := true }
def GaugeMillesUptoSaid : Prop := gaugeMillesUptoRow.holds Try.pinned (OpenSpec.upto gaugeMillesSpec)

/-- 'ashlarlaw24.GaugeStays', WHERE WHAT IT READS IS OF BULK AT MOST 1048576: true; the input reads as it did. -/
def gaugeStaysUptoRow : OpenClaim := { program := "ytikmjecjolppdaa", sum := "509ceb817c2129c6a74f992d7464a2713e3ba5216fe6fa90dcd0c474dc1a365c", func := "ashlar/ashlarlaw24.GaugeStays", spec := "gaugeStays", inPlace := ["math.Float64bits", "math.Float64frombits", "math.archFloor", "math.archTrunc"], apart := false, narrowed := true }
def GaugeStaysUptoSaid : Prop := gaugeStaysUptoRow.holds Try.pinned (OpenSpec.upto gaugeStaysSpec)

end Rows
end Go.Proofs.Ytikmjecjolppdaa
