/-
  No cell of these rows narrows 'for every input' (looked for: loops, veiled, ifaces, maps, wideKeys, modest, calm, conditions, laid).
  DERIVED. THE GIVEN ROWS OF THIS SEAT. 5 by the template 'for every input the law returns true; each argument reads behind the call as it read before'; 0 by the template 'total and deterministic' (their statements: YtaekfjidnbcajaaTotals.lean).
  GIVEN WITH THE SEED: the statements are not yours to turn. If you find one false, say at which input.
  Laid BY PROGRAM, IN A SANDBOX (cutbox-rows.mjs): the forced cells as the released guide's own fill.sh prints them over the translation 441dc78c485d8c4b… (all of the seat's roots in one cut). By AI agents, Wed Nov 11 2026. No macro, syntax, notation, axiom, sorry.
-/
import Derived.Test.YtaekfjidnbcajaaChecked
import GoSem.Claim
import GoSem.ClaimJoined
import GoSem.ClaimMapViews
import Derived.JoinedTies
import Derived.KernelRfl
namespace Go.Proofs.Ytaekfjidnbcajaa
/- THE CELL 'sum', in the pinned program and in every row, IS THE sha256 OF THE DUMP (.gsa) THAT YtaekfjidnbcajaaProg.lean LOADS. Nothing in Lean hashes anything: it is a label: what it is worth is what the hold of that sum in a sandbox is worth. -/
noncomputable def Try.pinned : Pinned := { name := "ytaekfjidnbcajaa", sum := "441dc78c485d8c4b1479de1f1171fc9fb8521e9a94d20965b0569dc1511668aa", checked := Try.checked }
namespace Rows
def none {H : Type} : Left H := { results := [], args := [] }

/-- 'ashlarlaw03.WallMissing': WHATEVER THE INPUT: true; the input reads as it did. -/
def wallMissingSpec : ChangeSpec := { name := "wallMissing", fn := fun _ => fun
  | [d] => { results := [.lit (.bool true)], args := [d] }
  | _ => none }
def wallMissingRow : OpenClaim := { program := "ytaekfjidnbcajaa", sum := "441dc78c485d8c4b1479de1f1171fc9fb8521e9a94d20965b0569dc1511668aa", func := "ashlar/ashlarlaw03.WallMissing", spec := "wallMissing", apart := false }
def WallMissingSaid : Prop := wallMissingRow.holds Try.pinned (OpenSpec.ofChange wallMissingSpec)

/-- ITS FALSE NEIGHBOUR: 'it returns false'. Refute it at one input. -/
def wallMissingWrong : ChangeSpec := { name := "wallMissing", fn := fun _ => fun
  | [d] => { results := [.lit (.bool false)], args := [d] }
  | _ => none }
def WallMissingWrongFalsely : Prop := wallMissingRow.holds Try.pinned (OpenSpec.ofChange wallMissingWrong)

/-- 'ashlarlaw03.WallOrder': WHATEVER THE INPUT: true; the input reads as it did. -/
def wallOrderSpec : ChangeSpec := { name := "wallOrder", fn := fun _ => fun
  | [d1, d2] => { results := [.lit (.bool true)], args := [d1, d2] }
  | _ => none }
def wallOrderRow : OpenClaim := { program := "ytaekfjidnbcajaa", sum := "441dc78c485d8c4b1479de1f1171fc9fb8521e9a94d20965b0569dc1511668aa", func := "ashlar/ashlarlaw03.WallOrder", spec := "wallOrder", apart := false }
def WallOrderSaid : Prop := wallOrderRow.holds Try.pinned (OpenSpec.ofChange wallOrderSpec)

/-- ITS FALSE NEIGHBOUR: 'it returns false'. Refute it at one input. -/
def wallOrderWrong : ChangeSpec := { name := "wallOrder", fn := fun _ => fun
  | [d1, d2] => { results := [.lit (.bool false)], args := [d1, d2] }
  | _ => none }
def WallOrderWrongFalsely : Prop := wallOrderRow.holds Try.pinned (OpenSpec.ofChange wallOrderWrong)

/-- 'ashlarlaw03.WallTorn': WHATEVER THE INPUT: true; the input reads as it did. -/
def wallTornSpec : ChangeSpec := { name := "wallTorn", fn := fun _ => fun
  | [d1, d2, d3] => { results := [.lit (.bool true)], args := [d1, d2, d3] }
  | _ => none }
def wallTornRow : OpenClaim := { program := "ytaekfjidnbcajaa", sum := "441dc78c485d8c4b1479de1f1171fc9fb8521e9a94d20965b0569dc1511668aa", func := "ashlar/ashlarlaw03.WallTorn", spec := "wallTorn", apart := false }
def WallTornSaid : Prop := wallTornRow.holds Try.pinned (OpenSpec.ofChange wallTornSpec)

/-- ITS FALSE NEIGHBOUR: 'it returns false'. Refute it at one input. -/
def wallTornWrong : ChangeSpec := { name := "wallTorn", fn := fun _ => fun
  | [d1, d2, d3] => { results := [.lit (.bool false)], args := [d1, d2, d3] }
  | _ => none }
def WallTornWrongFalsely : Prop := wallTornRow.holds Try.pinned (OpenSpec.ofChange wallTornWrong)

/-- 'ashlarlaw03.WallTells': WHATEVER THE INPUT: true; the input reads as it did. -/
def wallTellsSpec : ChangeSpec := { name := "wallTells", fn := fun _ => fun
  | [d1, d2, d3, d4, d5] => { results := [.lit (.bool true)], args := [d1, d2, d3, d4, d5] }
  | _ => none }
def wallTellsRow : OpenClaim := { program := "ytaekfjidnbcajaa", sum := "441dc78c485d8c4b1479de1f1171fc9fb8521e9a94d20965b0569dc1511668aa", func := "ashlar/ashlarlaw03.WallTells", spec := "wallTells", apart := false }
def WallTellsSaid : Prop := wallTellsRow.holds Try.pinned (OpenSpec.ofChange wallTellsSpec)

/-- ITS FALSE NEIGHBOUR: 'it returns false'. Refute it at one input. -/
def wallTellsWrong : ChangeSpec := { name := "wallTells", fn := fun _ => fun
  | [d1, d2, d3, d4, d5] => { results := [.lit (.bool false)], args := [d1, d2, d3, d4, d5] }
  | _ => none }
def WallTellsWrongFalsely : Prop := wallTellsRow.holds Try.pinned (OpenSpec.ofChange wallTellsWrong)

/-- 'ashlarlaw03.WallDelta': WHATEVER THE INPUT: true; the input reads as it did. -/
def wallDeltaSpec : ChangeSpec := { name := "wallDelta", fn := fun _ => fun
  | [d1, d2, d3] => { results := [.lit (.bool true)], args := [d1, d2, d3] }
  | _ => none }
def wallDeltaRow : OpenClaim := { program := "ytaekfjidnbcajaa", sum := "441dc78c485d8c4b1479de1f1171fc9fb8521e9a94d20965b0569dc1511668aa", func := "ashlar/ashlarlaw03.WallDelta", spec := "wallDelta", apart := false }
def WallDeltaSaid : Prop := wallDeltaRow.holds Try.pinned (OpenSpec.ofChange wallDeltaSpec)

/-- ITS FALSE NEIGHBOUR: 'it returns false'. Refute it at one input. -/
def wallDeltaWrong : ChangeSpec := { name := "wallDelta", fn := fun _ => fun
  | [d1, d2, d3] => { results := [.lit (.bool false)], args := [d1, d2, d3] }
  | _ => none }
def WallDeltaWrongFalsely : Prop := wallDeltaRow.holds Try.pinned (OpenSpec.ofChange wallDeltaWrong)

/- THE SECOND FORM. 'bulk': how many values and letters a reading holds, each counted each time it is reached (what is shared counts as often as it is met; a slice's spare places count too). A statement '..UptoSaid' is the law's where the arguments, and the package variables that the reading takes, are together of bulk at most 1048576: NARROWER than '..Said'. Prove '..Said' where nothing that the law and all that it calls make is longer than what came in: it says more and counts as full. Else prove '..UptoSaid'. A law counts once. -/
mutual
def uptoBulk {H : Type} : DataW H → Nat
  | .lit (.string bytes) => bytes.length + 1
  | .lit _ => 1
  | .nil => 1
  | .ptr d => uptoBulk d + 1
  | .slice elems spare => uptoBulkAll elems + uptoBulkAll spare + 1
  | .agg parts => uptoBulkAll parts + 1
  | .iface _ d => uptoBulk d + 1
  | .map entries => uptoBulkEntries entries + 1
  | .held _ => 1
def uptoBulkAll {H : Type} : List (DataW H) → Nat
  | [] => 0
  | d :: r => uptoBulk d + uptoBulkAll r
def uptoBulkEntries {H : Type} : List (Lit × DataW H) → Nat
  | [] => 0
  | x :: r => uptoBulkEntry x + uptoBulkEntries r
def uptoBulkEntry {H : Type} : Lit × DataW H → Nat
  | (.string bytes, d) => bytes.length + uptoBulk d + 1
  | (_, d) => uptoBulk d + 1
 end
def uptoSmall : (H : Type) → List (DataW H) → Bool := fun _ ds => decide (uptoBulkAll ds ≤ 1048576)
def OpenSpec.upto (s : _root_.Go.ChangeSpec) : _root_.Go.OpenSpec := { _root_.Go.OpenSpec.ofChange s with cond := some uptoSmall }

/-- 'ashlarlaw03.WallMissing', WHERE WHAT IT READS IS OF BULK AT MOST 1048576: true; the input reads as it did. -/
def wallMissingUptoRow : OpenClaim := { program := "ytaekfjidnbcajaa", sum := "441dc78c485d8c4b1479de1f1171fc9fb8521e9a94d20965b0569dc1511668aa", func := "ashlar/ashlarlaw03.WallMissing", spec := "wallMissing", apart := false, narrowed := true }
def WallMissingUptoSaid : Prop := wallMissingUptoRow.holds Try.pinned (OpenSpec.upto wallMissingSpec)

/-- 'ashlarlaw03.WallOrder', WHERE WHAT IT READS IS OF BULK AT MOST 1048576: true; the input reads as it did. -/
def wallOrderUptoRow : OpenClaim := { program := "ytaekfjidnbcajaa", sum := "441dc78c485d8c4b1479de1f1171fc9fb8521e9a94d20965b0569dc1511668aa", func := "ashlar/ashlarlaw03.WallOrder", spec := "wallOrder", apart := false, narrowed := true }
def WallOrderUptoSaid : Prop := wallOrderUptoRow.holds Try.pinned (OpenSpec.upto wallOrderSpec)

/-- 'ashlarlaw03.WallTorn', WHERE WHAT IT READS IS OF BULK AT MOST 1048576: true; the input reads as it did. -/
def wallTornUptoRow : OpenClaim := { program := "ytaekfjidnbcajaa", sum := "441dc78c485d8c4b1479de1f1171fc9fb8521e9a94d20965b0569dc1511668aa", func := "ashlar/ashlarlaw03.WallTorn", spec := "wallTorn", apart := false, narrowed := true }
def WallTornUptoSaid : Prop := wallTornUptoRow.holds Try.pinned (OpenSpec.upto wallTornSpec)

/-- 'ashlarlaw03.WallTells', WHERE WHAT IT READS IS OF BULK AT MOST 1048576: true; the input reads as it did. -/
def wallTellsUptoRow : OpenClaim := { program := "ytaekfjidnbcajaa", sum := "441dc78c485d8c4b1479de1f1171fc9fb8521e9a94d20965b0569dc1511668aa", func := "ashlar/ashlarlaw03.WallTells", spec := "wallTells", apart := false, narrowed := true }
def WallTellsUptoSaid : Prop := wallTellsUptoRow.holds Try.pinned (OpenSpec.upto wallTellsSpec)

/-- 'ashlarlaw03.WallDelta', WHERE WHAT IT READS IS OF BULK AT MOST 1048576: true; the input reads as it did. -/
def wallDeltaUptoRow : OpenClaim := { program := "ytaekfjidnbcajaa", sum := "441dc78c485d8c4b1479de1f1171fc9fb8521e9a94d20965b0569dc1511668aa", func := "ashlar/ashlarlaw03.WallDelta", spec := "wallDelta", apart := false, narrowed := true }
def WallDeltaUptoSaid : Prop := wallDeltaUptoRow.holds Try.pinned (OpenSpec.upto wallDeltaSpec)

end Rows
end Go.Proofs.Ytaekfjidnbcajaa
