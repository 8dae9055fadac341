/-
  No cell of these rows narrows 'for every input' (looked for: loops, veiled, ifaces, maps, wideKeys, modest, calm, conditions, laid).
  DERIVED. THE GIVEN ROWS OF THIS SEAT. 5 by the template 'for every input the law returns true; each argument reads behind the call as it read before'; 0 by the template 'total and deterministic' (their statements: YtdekckpoolkgnaaTotals.lean).
  GIVEN WITH THE SEED: the statements are not yours to turn. If you find one false, say at which input.
  Laid BY PROGRAM, IN A SANDBOX (cutbox-rows.mjs): the forced cells as the released guide's own fill.sh prints them over the translation 7c899da18d4f9f7b… (all of the seat's roots in one cut). By AI agents, Wed Nov 11 2026. No macro, syntax, notation, axiom, sorry.
-/
import Derived.Test.YtdekckpoolkgnaaChecked
import GoSem.Claim
import GoSem.ClaimJoined
import GoSem.ClaimMapViews
import Derived.JoinedTies
import Derived.KernelRfl
namespace Go.Proofs.Ytdekckpoolkgnaa
/- THE CELL 'sum', in the pinned program and in every row, IS THE sha256 OF THE DUMP (.gsa) THAT YtdekckpoolkgnaaProg.lean LOADS. Nothing in Lean hashes anything: it is a label: what it is worth is what the hold of that sum in a sandbox is worth. -/
noncomputable def Try.pinned : Pinned := { name := "ytdekckpoolkgnaa", sum := "7c899da18d4f9f7bbd7d840cd2edacbcb65888300307517b5ec41fbaf12b7f85", checked := Try.checked }
namespace Rows
def none {H : Type} : Left H := { results := [], args := [] }

/-- 'ashlarlaw16.PlanOf': WHATEVER THE INPUT: true; the input reads as it did. -/
def planOfSpec : ChangeSpec := { name := "planOf", fn := fun _ => fun
  | [d1, d2, d3, d4] => { results := [.lit (.bool true)], args := [d1, d2, d3, d4] }
  | _ => none }
def planOfRow : OpenClaim := { program := "ytdekckpoolkgnaa", sum := "7c899da18d4f9f7bbd7d840cd2edacbcb65888300307517b5ec41fbaf12b7f85", func := "ashlar/ashlarlaw16.PlanOf", spec := "planOf", apart := false }
def PlanOfSaid : Prop := planOfRow.holds Try.pinned (OpenSpec.ofChange planOfSpec)

/-- ITS FALSE NEIGHBOUR: 'it returns false'. Refute it at one input. -/
def planOfWrong : ChangeSpec := { name := "planOf", fn := fun _ => fun
  | [d1, d2, d3, d4] => { results := [.lit (.bool false)], args := [d1, d2, d3, d4] }
  | _ => none }
def PlanOfWrongFalsely : Prop := planOfRow.holds Try.pinned (OpenSpec.ofChange planOfWrong)

/-- 'ashlarlaw16.PlanReads': WHATEVER THE INPUT: true; the input reads as it did. -/
def planReadsSpec : ChangeSpec := { name := "planReads", fn := fun _ => fun
  | [d1, d2, d3, d4] => { results := [.lit (.bool true)], args := [d1, d2, d3, d4] }
  | _ => none }
def planReadsRow : OpenClaim := { program := "ytdekckpoolkgnaa", sum := "7c899da18d4f9f7bbd7d840cd2edacbcb65888300307517b5ec41fbaf12b7f85", func := "ashlar/ashlarlaw16.PlanReads", spec := "planReads", apart := false }
def PlanReadsSaid : Prop := planReadsRow.holds Try.pinned (OpenSpec.ofChange planReadsSpec)

/-- ITS FALSE NEIGHBOUR: 'it returns false'. Refute it at one input. -/
def planReadsWrong : ChangeSpec := { name := "planReads", fn := fun _ => fun
  | [d1, d2, d3, d4] => { results := [.lit (.bool false)], args := [d1, d2, d3, d4] }
  | _ => none }
def PlanReadsWrongFalsely : Prop := planReadsRow.holds Try.pinned (OpenSpec.ofChange planReadsWrong)

/-- 'ashlarlaw16.PlanFresh': WHATEVER THE INPUT: true; the input reads as it did. -/
def planFreshSpec : ChangeSpec := { name := "planFresh", fn := fun _ => fun
  | [d1, d2, d3] => { results := [.lit (.bool true)], args := [d1, d2, d3] }
  | _ => none }
def planFreshRow : OpenClaim := { program := "ytdekckpoolkgnaa", sum := "7c899da18d4f9f7bbd7d840cd2edacbcb65888300307517b5ec41fbaf12b7f85", func := "ashlar/ashlarlaw16.PlanFresh", spec := "planFresh", apart := false }
def PlanFreshSaid : Prop := planFreshRow.holds Try.pinned (OpenSpec.ofChange planFreshSpec)

/-- ITS FALSE NEIGHBOUR: 'it returns false'. Refute it at one input. -/
def planFreshWrong : ChangeSpec := { name := "planFresh", fn := fun _ => fun
  | [d1, d2, d3] => { results := [.lit (.bool false)], args := [d1, d2, d3] }
  | _ => none }
def PlanFreshWrongFalsely : Prop := planFreshRow.holds Try.pinned (OpenSpec.ofChange planFreshWrong)

/-- 'ashlarlaw16.PlanParity': WHATEVER THE INPUT: true; the input reads as it did. -/
def planParitySpec : ChangeSpec := { name := "planParity", fn := fun _ => fun
  | [d1, d2, d3, d4, d5] => { results := [.lit (.bool true)], args := [d1, d2, d3, d4, d5] }
  | _ => none }
def planParityRow : OpenClaim := { program := "ytdekckpoolkgnaa", sum := "7c899da18d4f9f7bbd7d840cd2edacbcb65888300307517b5ec41fbaf12b7f85", func := "ashlar/ashlarlaw16.PlanParity", spec := "planParity", apart := false }
def PlanParitySaid : Prop := planParityRow.holds Try.pinned (OpenSpec.ofChange planParitySpec)

/-- ITS FALSE NEIGHBOUR: 'it returns false'. Refute it at one input. -/
def planParityWrong : ChangeSpec := { name := "planParity", fn := fun _ => fun
  | [d1, d2, d3, d4, d5] => { results := [.lit (.bool false)], args := [d1, d2, d3, d4, d5] }
  | _ => none }
def PlanParityWrongFalsely : Prop := planParityRow.holds Try.pinned (OpenSpec.ofChange planParityWrong)

/-- 'ashlarlaw16.PlanSame': WHATEVER THE INPUT: true; the input reads as it did. -/
def planSameSpec : ChangeSpec := { name := "planSame", fn := fun _ => fun
  | [d1, d2, d3] => { results := [.lit (.bool true)], args := [d1, d2, d3] }
  | _ => none }
def planSameRow : OpenClaim := { program := "ytdekckpoolkgnaa", sum := "7c899da18d4f9f7bbd7d840cd2edacbcb65888300307517b5ec41fbaf12b7f85", func := "ashlar/ashlarlaw16.PlanSame", spec := "planSame", apart := false }
def PlanSameSaid : Prop := planSameRow.holds Try.pinned (OpenSpec.ofChange planSameSpec)

/-- ITS FALSE NEIGHBOUR: 'it returns false'. Refute it at one input. -/
def planSameWrong : ChangeSpec := { name := "planSame", fn := fun _ => fun
  | [d1, d2, d3] => { results := [.lit (.bool false)], args := [d1, d2, d3] }
  | _ => none }
def PlanSameWrongFalsely : Prop := planSameRow.holds Try.pinned (OpenSpec.ofChange planSameWrong)

/- THE SECOND FORM. 'bulk': how many values and letters a reading holds, each counted each time it is reached (what is shared counts as often as it is met; a slice's spare places count too). A statement '..UptoSaid' is the law's where the arguments, and the package variables that the reading takes, are together of bulk at most 1048576: NARROWER than '..Said'. Prove '..Said' where nothing that the law and all that it calls make is longer than what came in: it says more and counts as full. Else prove '..UptoSaid'. A law counts once. -/
mutual
def uptoBulk {H : Type} : DataW H → Nat
  | .lit (.string bytes) => bytes.length + 1
  | .lit _ => 1
  | .nil => 1
  | .ptr d => uptoBulk d + 1
  | .slice elems spare => uptoBulkAll elems + uptoBulkAll spare + 1
  | .agg parts => uptoBulkAll parts + 1
  | .iface _ d => uptoBulk d + 1
  | .map entries => uptoBulkEntries entries + 1
  | .held _ => 1
def uptoBulkAll {H : Type} : List (DataW H) → Nat
  | [] => 0
  | d :: r => uptoBulk d + uptoBulkAll r
def uptoBulkEntries {H : Type} : List (Lit × DataW H) → Nat
  | [] => 0
  | x :: r => uptoBulkEntry x + uptoBulkEntries r
def uptoBulkEntry {H : Type} : Lit × DataW H → Nat
  | (.string bytes, d) => bytes.length + uptoBulk d + 1
  | (_, d) => uptoBulk d + 1
 end
def uptoSmall : (H : Type) → List (DataW H) → Bool := fun _ ds => decide (uptoBulkAll ds ≤ 1048576)
def OpenSpec.upto (s : _root_.Go.ChangeSpec) : _root_.Go.OpenSpec := { _root_.Go.OpenSpec.ofChange s with cond := some uptoSmall }

/-- 'ashlarlaw16.PlanOf', WHERE WHAT IT READS IS OF BULK AT MOST 1048576: true; the input reads as it did. -/
def planOfUptoRow : OpenClaim := { program := "ytdekckpoolkgnaa", sum := "7c899da18d4f9f7bbd7d840cd2edacbcb65888300307517b5ec41fbaf12b7f85", func := "ashlar/ashlarlaw16.PlanOf", spec := "planOf", apart := false, narrowed := true }
def PlanOfUptoSaid : Prop := planOfUptoRow.holds Try.pinned (OpenSpec.upto planOfSpec)

/-- 'ashlarlaw16.PlanReads', WHERE WHAT IT READS IS OF BULK AT MOST 1048576: true; the input reads as it did. -/
def planReadsUptoRow : OpenClaim := { program := "ytdekckpoolkgnaa", sum := "7c899da18d4f9f7bbd7d840cd2edacbcb65888300307517b5ec41fbaf12b7f85", func := "ashlar/ashlarlaw16.PlanReads", spec := "planReads", apart := false, narrowed := true }
def PlanReadsUptoSaid : Prop := planReadsUptoRow.holds Try.pinned (OpenSpec.upto planReadsSpec)

/-- 'ashlarlaw16.PlanFresh', WHERE WHAT IT READS IS OF BULK AT MOST 1048576: true; the input reads as it did. -/
def planFreshUptoRow : OpenClaim := { program := "ytdekckpoolkgnaa", sum := "7c899da18d4f9f7bbd7d840cd2edacbcb65888300307517b5ec41fbaf12b7f85", func := "ashlar/ashlarlaw16.PlanFresh", spec := "planFresh", apart := false, narrowed := true }
def PlanFreshUptoSaid : Prop := planFreshUptoRow.holds Try.pinned (OpenSpec.upto planFreshSpec)

/-- 'ashlarlaw16.PlanParity', WHERE WHAT IT READS IS OF BULK AT MOST 1048576: true; the input reads as it did. -/
def planParityUptoRow : OpenClaim := { program := "ytdekckpoolkgnaa", sum := "7c899da18d4f9f7bbd7d840cd2edacbcb65888300307517b5ec41fbaf12b7f85", func := "ashlar/ashlarlaw16.PlanParity", spec := "planParity", apart := false, narrowed := true }
def PlanParityUptoSaid : Prop := planParityUptoRow.holds Try.pinned (OpenSpec.upto planParitySpec)

/-- 'ashlarlaw16.PlanSame', WHERE WHAT IT READS IS OF BULK AT MOST 1048576: true; the input reads as it did. -/
def planSameUptoRow : OpenClaim := { program := "ytdekckpoolkgnaa", sum := "7c899da18d4f9f7bbd7d840cd2edacbcb65888300307517b5ec41fbaf12b7f85", func := "ashlar/ashlarlaw16.PlanSame", spec := "planSame", apart := false, narrowed := true }
def PlanSameUptoSaid : Prop := planSameUptoRow.holds Try.pinned (OpenSpec.upto planSameSpec)

end Rows
end Go.Proofs.Ytdekckpoolkgnaa
