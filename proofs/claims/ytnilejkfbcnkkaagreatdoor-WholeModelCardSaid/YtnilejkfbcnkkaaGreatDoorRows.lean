/-
  NARROWER THAN 'FOR EVERY INPUT', by the rows' own cells (each row's printed sentence says how): WholeBeyond: laid · WholeModel: laid.
  DERIVED. THE GIVEN ROWS OF THIS SEAT. 2 by the template 'for every input the law returns true; each argument reads behind the call as it read before'; 0 by the template 'total and deterministic' (their statements: YtnilejkfbcnkkaaGreatDoorTotals.lean).
  GIVEN WITH THE SEED: the statements are not yours to turn. If you find one false, say at which input.
  Laid BY PROGRAM, IN A SANDBOX (cutbox-rows.mjs): the forced cells as the released guide's own fill.sh prints them over the translation 5dc1a65066385d68… (all of the seat's roots in one cut). By AI agents, Wed Nov 11 2026. No macro, syntax, notation, axiom, sorry.
-/
import Derived.Test.YtnilejkfbcnkkaaGreatDoorChecked
import GoSem.Claim
import GoSem.ClaimJoined
import GoSem.ClaimMapViews
import Derived.JoinedTies
import Derived.KernelRfl
namespace Go.Proofs.YtnilejkfbcnkkaaGreatDoor
/- THE CELL 'sum', in the pinned program and in every row, IS THE sha256 OF THE DUMP (.gsa) THAT YtnilejkfbcnkkaaGreatDoorProg.lean LOADS. Nothing in Lean hashes anything: it is a label: what it is worth is what the hold of that sum in a sandbox is worth. -/
noncomputable def Tryz.pinned : Pinned := { name := "ytnilejkfbcnkkaagreatdoor", sum := "5dc1a65066385d68ed603cd65985d52f3bf104568c75b3f61e5fdbd43da2e329", checked := Tryz.checked }
namespace Rows
def none {H : Type} : Left H := { results := [], args := [] }

/- WHAT THE LISTED PACKAGE-LEVEL VARIABLES READ AS WHEN THE CALL BEGINS. Each datum BY PROGRAM (the guide's laid-datum.mjs) off the statement by which the dump's own 'gosem.cut.vars' lays the variable. In a bare row this is a premise. The card (YtnilejkfbcnkkaaGreatDoorCards.lean) ties it to the program's text. -/
def laid_ashlar_mark_sizes {H : Type} : DataW H := .agg [.lit (.int .i64 8), .lit (.int .i64 2), .lit (.int .i64 8), .lit (.int .i64 8)]

/-- 'ashlartop.WholeBeyond': WHATEVER THE INPUT: true; the input reads as it did. -/
def wholeBeyondSpec : ChangeSpec := { name := "wholeBeyond", fn := fun _ => fun
  | [d1, d2, d3] => { results := [.lit (.bool true)], args := [d1, d2, d3] }
  | _ => none }
def wholeBeyondRow : OpenClaim := { program := "ytnilejkfbcnkkaagreatdoor", sum := "5dc1a65066385d68ed603cd65985d52f3bf104568c75b3f61e5fdbd43da2e329", func := "ashlar/ashlartop.WholeBeyond", spec := "wholeBeyond", unfollowed := true, recurses := true, named := ["ashlar/mark.sizes"], apart := false, laid := [("ashlar/mark.sizes", laid_ashlar_mark_sizes)] }
def WholeBeyondSaid : Prop := wholeBeyondRow.holds Tryz.pinned (OpenSpec.ofChange wholeBeyondSpec)

/-- ITS FALSE NEIGHBOUR: 'it returns false'. Refute it at one input. -/
def wholeBeyondWrong : ChangeSpec := { name := "wholeBeyond", fn := fun _ => fun
  | [d1, d2, d3] => { results := [.lit (.bool false)], args := [d1, d2, d3] }
  | _ => none }
def WholeBeyondWrongFalsely : Prop := wholeBeyondRow.holds Tryz.pinned (OpenSpec.ofChange wholeBeyondWrong)

/-- 'ashlartop.WholeModel': WHATEVER THE INPUT: true; the input reads as it did. -/
def wholeModelSpec : ChangeSpec := { name := "wholeModel", fn := fun _ => fun
  | [d1, d2, d3, d4] => { results := [.lit (.bool true)], args := [d1, d2, d3, d4] }
  | _ => none }
def wholeModelRow : OpenClaim := { program := "ytnilejkfbcnkkaagreatdoor", sum := "5dc1a65066385d68ed603cd65985d52f3bf104568c75b3f61e5fdbd43da2e329", func := "ashlar/ashlartop.WholeModel", spec := "wholeModel", unfollowed := true, recurses := true, named := ["ashlar/mark.sizes"], apart := false, laid := [("ashlar/mark.sizes", laid_ashlar_mark_sizes)] }
def WholeModelSaid : Prop := wholeModelRow.holds Tryz.pinned (OpenSpec.ofChange wholeModelSpec)

/-- ITS FALSE NEIGHBOUR: 'it returns false'. Refute it at one input. -/
def wholeModelWrong : ChangeSpec := { name := "wholeModel", fn := fun _ => fun
  | [d1, d2, d3, d4] => { results := [.lit (.bool false)], args := [d1, d2, d3, d4] }
  | _ => none }
def WholeModelWrongFalsely : Prop := wholeModelRow.holds Tryz.pinned (OpenSpec.ofChange wholeModelWrong)

/- THE SECOND FORM. 'bulk': how many values and letters a reading holds, each counted each time it is reached (what is shared counts as often as it is met; a slice's spare places count too). A statement '..UptoSaid' is the law's where the arguments, and the package variables that the reading takes, are together of bulk at most 1048576: NARROWER than '..Said'. Prove '..Said' where nothing that the law and all that it calls make is longer than what came in: it says more and counts as full. Else prove '..UptoSaid'. A law counts once. -/
mutual
def uptoBulk {H : Type} : DataW H → Nat
  | .lit (.string bytes) => bytes.length + 1
  | .lit _ => 1
  | .nil => 1
  | .ptr d => uptoBulk d + 1
  | .slice elems spare => uptoBulkAll elems + uptoBulkAll spare + 1
  | .agg parts => uptoBulkAll parts + 1
  | .iface _ d => uptoBulk d + 1
  | .map entries => uptoBulkEntries entries + 1
  | .held _ => 1
def uptoBulkAll {H : Type} : List (DataW H) → Nat
  | [] => 0
  | d :: r => uptoBulk d + uptoBulkAll r
def uptoBulkEntries {H : Type} : List (Lit × DataW H) → Nat
  | [] => 0
  | x :: r => uptoBulkEntry x + uptoBulkEntries r
def uptoBulkEntry {H : Type} : Lit × DataW H → Nat
  | (.string bytes, d) => bytes.length + uptoBulk d + 1
  | (_, d) => uptoBulk d + 1
 end
def uptoSmall : (H : Type) → List (DataW H) → Bool := fun _ ds => decide (uptoBulkAll ds ≤ 1048576)
def OpenSpec.upto (s : _root_.Go.ChangeSpec) : _root_.Go.OpenSpec := { _root_.Go.OpenSpec.ofChange s with cond := some uptoSmall }

/-- 'ashlartop.WholeBeyond', WHERE WHAT IT READS IS OF BULK AT MOST 1048576: true; the input reads as it did. -/
def wholeBeyondUptoRow : OpenClaim := { program := "ytnilejkfbcnkkaagreatdoor", sum := "5dc1a65066385d68ed603cd65985d52f3bf104568c75b3f61e5fdbd43da2e329", func := "ashlar/ashlartop.WholeBeyond", spec := "wholeBeyond", unfollowed := true, recurses := true, named := ["ashlar/mark.sizes"], apart := false, laid := [("ashlar/mark.sizes", laid_ashlar_mark_sizes)], narrowed := true }
def WholeBeyondUptoSaid : Prop := wholeBeyondUptoRow.holds Tryz.pinned (OpenSpec.upto wholeBeyondSpec)

/-- 'ashlartop.WholeModel', WHERE WHAT IT READS IS OF BULK AT MOST 1048576: true; the input reads as it did. -/
def wholeModelUptoRow : OpenClaim := { program := "ytnilejkfbcnkkaagreatdoor", sum := "5dc1a65066385d68ed603cd65985d52f3bf104568c75b3f61e5fdbd43da2e329", func := "ashlar/ashlartop.WholeModel", spec := "wholeModel", unfollowed := true, recurses := true, named := ["ashlar/mark.sizes"], apart := false, laid := [("ashlar/mark.sizes", laid_ashlar_mark_sizes)], narrowed := true }
def WholeModelUptoSaid : Prop := wholeModelUptoRow.holds Tryz.pinned (OpenSpec.upto wholeModelSpec)

end Rows
end Go.Proofs.YtnilejkfbcnkkaaGreatDoor
