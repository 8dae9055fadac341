/-
  No cell of these rows narrows 'for every input' (looked for: loops, veiled, ifaces, maps, wideKeys, modest, calm, conditions, laid).
  DERIVED. THE GIVEN ROWS OF THIS SEAT. 5 by the template 'for every input the law returns true; each argument reads behind the call as it read before'; 0 by the template 'total and deterministic' (their statements: YtpbpenlceigddaaTotals.lean).
  GIVEN WITH THE SEED: the statements are not yours to turn. If you find one false, say at which input.
  Laid BY PROGRAM, IN A SANDBOX (cutbox-rows.mjs): the forced cells as the released guide's own fill.sh prints them over the translation d0285f7aabc5169c… (all of the seat's roots in one cut). By AI agents, Wed Nov 11 2026. No macro, syntax, notation, axiom, sorry.
-/
import Derived.Test.YtpbpenlceigddaaChecked
import GoSem.Claim
import GoSem.ClaimJoined
import GoSem.ClaimMapViews
import Derived.JoinedTies
import Derived.KernelRfl
namespace Go.Proofs.Ytpbpenlceigddaa
/- THE CELL 'sum', in the pinned program and in every row, IS THE sha256 OF THE DUMP (.gsa) THAT YtpbpenlceigddaaProg.lean LOADS. Nothing in Lean hashes anything: it is a label: what it is worth is what the hold of that sum in a sandbox is worth. -/
noncomputable def Try.pinned : Pinned := { name := "ytpbpenlceigddaa", sum := "d0285f7aabc5169c0c0b1b3c02def97859199bdab9ee4bc91783562bef21f7e3", checked := Try.checked }
namespace Rows
def none {H : Type} : Left H := { results := [], args := [] }

/-- 'ashlarlaw15.LruLast': WHATEVER THE INPUT: true; the input reads as it did. -/
def lruLastSpec : ChangeSpec := { name := "lruLast", fn := fun _ => fun
  | [d1, d2] => { results := [.lit (.bool true)], args := [d1, d2] }
  | _ => none }
def lruLastRow : OpenClaim := { program := "ytpbpenlceigddaa", sum := "d0285f7aabc5169c0c0b1b3c02def97859199bdab9ee4bc91783562bef21f7e3", func := "ashlar/ashlarlaw15.LruLast", spec := "lruLast", apart := false }
def LruLastSaid : Prop := lruLastRow.holds Try.pinned (OpenSpec.ofChange lruLastSpec)

/-- ITS FALSE NEIGHBOUR: 'it returns false'. Refute it at one input. -/
def lruLastWrong : ChangeSpec := { name := "lruLast", fn := fun _ => fun
  | [d1, d2] => { results := [.lit (.bool false)], args := [d1, d2] }
  | _ => none }
def LruLastWrongFalsely : Prop := lruLastRow.holds Try.pinned (OpenSpec.ofChange lruLastWrong)

/-- 'ashlarlaw15.LruOnce': WHATEVER THE INPUT: true; the input reads as it did. -/
def lruOnceSpec : ChangeSpec := { name := "lruOnce", fn := fun _ => fun
  | [d1, d2] => { results := [.lit (.bool true)], args := [d1, d2] }
  | _ => none }
def lruOnceRow : OpenClaim := { program := "ytpbpenlceigddaa", sum := "d0285f7aabc5169c0c0b1b3c02def97859199bdab9ee4bc91783562bef21f7e3", func := "ashlar/ashlarlaw15.LruOnce", spec := "lruOnce", apart := false }
def LruOnceSaid : Prop := lruOnceRow.holds Try.pinned (OpenSpec.ofChange lruOnceSpec)

/-- ITS FALSE NEIGHBOUR: 'it returns false'. Refute it at one input. -/
def lruOnceWrong : ChangeSpec := { name := "lruOnce", fn := fun _ => fun
  | [d1, d2] => { results := [.lit (.bool false)], args := [d1, d2] }
  | _ => none }
def LruOnceWrongFalsely : Prop := lruOnceRow.holds Try.pinned (OpenSpec.ofChange lruOnceWrong)

/-- 'ashlarlaw15.LruPinned': WHATEVER THE INPUT: true; the input reads as it did. -/
def lruPinnedSpec : ChangeSpec := { name := "lruPinned", fn := fun _ => fun
  | [d1, d2] => { results := [.lit (.bool true)], args := [d1, d2] }
  | _ => none }
def lruPinnedRow : OpenClaim := { program := "ytpbpenlceigddaa", sum := "d0285f7aabc5169c0c0b1b3c02def97859199bdab9ee4bc91783562bef21f7e3", func := "ashlar/ashlarlaw15.LruPinned", spec := "lruPinned", apart := false }
def LruPinnedSaid : Prop := lruPinnedRow.holds Try.pinned (OpenSpec.ofChange lruPinnedSpec)

/-- ITS FALSE NEIGHBOUR: 'it returns false'. Refute it at one input. -/
def lruPinnedWrong : ChangeSpec := { name := "lruPinned", fn := fun _ => fun
  | [d1, d2] => { results := [.lit (.bool false)], args := [d1, d2] }
  | _ => none }
def LruPinnedWrongFalsely : Prop := lruPinnedRow.holds Try.pinned (OpenSpec.ofChange lruPinnedWrong)

/-- 'ashlarlaw15.LruPlays': WHATEVER THE INPUT: true; the input reads as it did. -/
def lruPlaysSpec : ChangeSpec := { name := "lruPlays", fn := fun _ => fun
  | [d1, d2] => { results := [.lit (.bool true)], args := [d1, d2] }
  | _ => none }
def lruPlaysRow : OpenClaim := { program := "ytpbpenlceigddaa", sum := "d0285f7aabc5169c0c0b1b3c02def97859199bdab9ee4bc91783562bef21f7e3", func := "ashlar/ashlarlaw15.LruPlays", spec := "lruPlays", apart := false }
def LruPlaysSaid : Prop := lruPlaysRow.holds Try.pinned (OpenSpec.ofChange lruPlaysSpec)

/-- ITS FALSE NEIGHBOUR: 'it returns false'. Refute it at one input. -/
def lruPlaysWrong : ChangeSpec := { name := "lruPlays", fn := fun _ => fun
  | [d1, d2] => { results := [.lit (.bool false)], args := [d1, d2] }
  | _ => none }
def LruPlaysWrongFalsely : Prop := lruPlaysRow.holds Try.pinned (OpenSpec.ofChange lruPlaysWrong)

/-- 'ashlarlaw15.LruNil': WHATEVER THE INPUT: true; the input reads as it did. -/
def lruNilSpec : ChangeSpec := { name := "lruNil", fn := fun _ => fun
  | [d1, d2, d3] => { results := [.lit (.bool true)], args := [d1, d2, d3] }
  | _ => none }
def lruNilRow : OpenClaim := { program := "ytpbpenlceigddaa", sum := "d0285f7aabc5169c0c0b1b3c02def97859199bdab9ee4bc91783562bef21f7e3", func := "ashlar/ashlarlaw15.LruNil", spec := "lruNil", apart := false }
def LruNilSaid : Prop := lruNilRow.holds Try.pinned (OpenSpec.ofChange lruNilSpec)

/-- ITS FALSE NEIGHBOUR: 'it returns false'. Refute it at one input. -/
def lruNilWrong : ChangeSpec := { name := "lruNil", fn := fun _ => fun
  | [d1, d2, d3] => { results := [.lit (.bool false)], args := [d1, d2, d3] }
  | _ => none }
def LruNilWrongFalsely : Prop := lruNilRow.holds Try.pinned (OpenSpec.ofChange lruNilWrong)

/- THE SECOND FORM. 'bulk': how many values and letters a reading holds, each counted each time it is reached (what is shared counts as often as it is met; a slice's spare places count too). A statement '..UptoSaid' is the law's where the arguments, and the package variables that the reading takes, are together of bulk at most 1048576: NARROWER than '..Said'. Prove '..Said' where nothing that the law and all that it calls make is longer than what came in: it says more and counts as full. Else prove '..UptoSaid'. A law counts once. -/
mutual
def uptoBulk {H : Type} : DataW H → Nat
  | .lit (.string bytes) => bytes.length + 1
  | .lit _ => 1
  | .nil => 1
  | .ptr d => uptoBulk d + 1
  | .slice elems spare => uptoBulkAll elems + uptoBulkAll spare + 1
  | .agg parts => uptoBulkAll parts + 1
  | .iface _ d => uptoBulk d + 1
  | .map entries => uptoBulkEntries entries + 1
  | .held _ => 1
def uptoBulkAll {H : Type} : List (DataW H) → Nat
  | [] => 0
  | d :: r => uptoBulk d + uptoBulkAll r
def uptoBulkEntries {H : Type} : List (Lit × DataW H) → Nat
  | [] => 0
  | x :: r => uptoBulkEntry x + uptoBulkEntries r
def uptoBulkEntry {H : Type} : Lit × DataW H → Nat
  | (.string bytes, d) => bytes.length + uptoBulk d + 1
  | (_, d) => uptoBulk d + 1
 end
def uptoSmall : (H : Type) → List (DataW H) → Bool := fun _ ds => decide (uptoBulkAll ds ≤ 1048576)
def OpenSpec.upto (s : _root_.Go.ChangeSpec) : _root_.Go.OpenSpec := { _root_.Go.OpenSpec.ofChange s with cond := some uptoSmall }

/-- 'ashlarlaw15.LruLast', WHERE WHAT IT READS IS OF BULK AT MOST 1048576: true; the input reads as it did. -/
def lruLastUptoRow : OpenClaim := { program := "ytpbpenlceigddaa", sum := "d0285f7aabc5169c0c0b1b3c02def97859199bdab9ee4bc91783562bef21f7e3", func := "ashlar/ashlarlaw15.LruLast", spec := "lruLast", apart := false, narrowed := true }
def LruLastUptoSaid : Prop := lruLastUptoRow.holds Try.pinned (OpenSpec.upto lruLastSpec)

/-- 'ashlarlaw15.LruOnce', WHERE WHAT IT READS IS OF BULK AT MOST 1048576: true; the input reads as it did. -/
def lruOnceUptoRow : OpenClaim := { program := "ytpbpenlceigddaa", sum := "d0285f7aabc5169c0c0b1b3c02def97859199bdab9ee4bc91783562bef21f7e3", func := "ashlar/ashlarlaw15.LruOnce", spec := "lruOnce", apart := false, narrowed := true }
def LruOnceUptoSaid : Prop := lruOnceUptoRow.holds Try.pinned (OpenSpec.upto lruOnceSpec)

/-- 'ashlarlaw15.LruPinned', WHERE WHAT IT READS IS OF BULK AT MOST 1048576: true; the input reads as it did. -/
def lruPinnedUptoRow : OpenClaim := { program := "ytpbpenlceigddaa", sum := "d0285f7aabc5169c0c0b1b3c02def97859199bdab9ee4bc91783562bef21f7e3", func := "ashlar/ashlarlaw15.LruPinned", spec := "lruPinned", apart := false, narrowed := true }
def LruPinnedUptoSaid : Prop := lruPinnedUptoRow.holds Try.pinned (OpenSpec.upto lruPinnedSpec)

/-- 'ashlarlaw15.LruPlays', WHERE WHAT IT READS IS OF BULK AT MOST 1048576: true; the input reads as it did. -/
def lruPlaysUptoRow : OpenClaim := { program := "ytpbpenlceigddaa", sum := "d0285f7aabc5169c0c0b1b3c02def97859199bdab9ee4bc91783562bef21f7e3", func := "ashlar/ashlarlaw15.LruPlays", spec := "lruPlays", apart := false, narrowed := true }
def LruPlaysUptoSaid : Prop := lruPlaysUptoRow.holds Try.pinned (OpenSpec.upto lruPlaysSpec)

/-- 'ashlarlaw15.LruNil', WHERE WHAT IT READS IS OF BULK AT MOST 1048576: true; the input reads as it did. -/
def lruNilUptoRow : OpenClaim := { program := "ytpbpenlceigddaa", sum := "d0285f7aabc5169c0c0b1b3c02def97859199bdab9ee4bc91783562bef21f7e3", func := "ashlar/ashlarlaw15.LruNil", spec := "lruNil", apart := false, narrowed := true }
def LruNilUptoSaid : Prop := lruNilUptoRow.holds Try.pinned (OpenSpec.upto lruNilSpec)

end Rows
end Go.Proofs.Ytpbpenlceigddaa
