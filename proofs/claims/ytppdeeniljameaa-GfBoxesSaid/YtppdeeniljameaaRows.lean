/-
  No cell of these rows narrows 'for every input' (looked for: loops, veiled, ifaces, maps, wideKeys, modest, calm, conditions, laid).
  DERIVED. THE GIVEN ROWS OF THIS SEAT. 5 by the template 'for every input the law returns true; each argument reads behind the call as it read before'; 0 by the template 'total and deterministic' (their statements: YtppdeeniljameaaTotals.lean).
  GIVEN WITH THE SEED: the statements are not yours to turn. If you find one false, say at which input.
  Laid BY PROGRAM, IN A SANDBOX (cutbox-rows.mjs): the forced cells as the released guide's own fill.sh prints them over the translation f2c497371c043ded… (all of the seat's roots in one cut). By AI agents, Wed Nov 11 2026. No macro, syntax, notation, axiom, sorry.
-/
import Derived.Test.YtppdeeniljameaaChecked
import GoSem.Claim
import GoSem.ClaimJoined
import GoSem.ClaimMapViews
import Derived.JoinedTies
import Derived.KernelRfl
namespace Go.Proofs.Ytppdeeniljameaa
/- THE CELL 'sum', in the pinned program and in every row, IS THE sha256 OF THE DUMP (.gsa) THAT YtppdeeniljameaaProg.lean LOADS. Nothing in Lean hashes anything: it is a label: what it is worth is what the hold of that sum in a sandbox is worth. -/
noncomputable def Try.pinned : Pinned := { name := "ytppdeeniljameaa", sum := "f2c497371c043dede9e7f539eec5677f469ca7a7869eb4528a859166b9b76c32", checked := Try.checked }
namespace Rows
def none {H : Type} : Left H := { results := [], args := [] }

/-- 'casematelaw04.GfProducts': WHATEVER THE INPUT: true; the input reads as it did. -/
def gfProductsSpec : ChangeSpec := { name := "gfProducts", fn := fun _ => fun
  | [d1, d2, d3] => { results := [.lit (.bool true)], args := [d1, d2, d3] }
  | _ => none }
def gfProductsRow : OpenClaim := { program := "ytppdeeniljameaa", sum := "f2c497371c043dede9e7f539eec5677f469ca7a7869eb4528a859166b9b76c32", func := "casemate/casematelaw04.GfProducts", spec := "gfProducts", apart := false }
def GfProductsSaid : Prop := gfProductsRow.holds Try.pinned (OpenSpec.ofChange gfProductsSpec)

/-- ITS FALSE NEIGHBOUR: 'it returns false'. Refute it at one input. -/
def gfProductsWrong : ChangeSpec := { name := "gfProducts", fn := fun _ => fun
  | [d1, d2, d3] => { results := [.lit (.bool false)], args := [d1, d2, d3] }
  | _ => none }
def GfProductsWrongFalsely : Prop := gfProductsRow.holds Try.pinned (OpenSpec.ofChange gfProductsWrong)

/-- 'casematelaw04.GfRing': WHATEVER THE INPUT: true; the input reads as it did. -/
def gfRingSpec : ChangeSpec := { name := "gfRing", fn := fun _ => fun
  | [d1, d2, d3] => { results := [.lit (.bool true)], args := [d1, d2, d3] }
  | _ => none }
def gfRingRow : OpenClaim := { program := "ytppdeeniljameaa", sum := "f2c497371c043dede9e7f539eec5677f469ca7a7869eb4528a859166b9b76c32", func := "casemate/casematelaw04.GfRing", spec := "gfRing", apart := false }
def GfRingSaid : Prop := gfRingRow.holds Try.pinned (OpenSpec.ofChange gfRingSpec)

/-- ITS FALSE NEIGHBOUR: 'it returns false'. Refute it at one input. -/
def gfRingWrong : ChangeSpec := { name := "gfRing", fn := fun _ => fun
  | [d1, d2, d3] => { results := [.lit (.bool false)], args := [d1, d2, d3] }
  | _ => none }
def GfRingWrongFalsely : Prop := gfRingRow.holds Try.pinned (OpenSpec.ofChange gfRingWrong)

/-- 'casematelaw04.GfBack': WHATEVER THE INPUT: true; the input reads as it did. -/
def gfBackSpec : ChangeSpec := { name := "gfBack", fn := fun _ => fun
  | [d1, d2] => { results := [.lit (.bool true)], args := [d1, d2] }
  | _ => none }
def gfBackRow : OpenClaim := { program := "ytppdeeniljameaa", sum := "f2c497371c043dede9e7f539eec5677f469ca7a7869eb4528a859166b9b76c32", func := "casemate/casematelaw04.GfBack", spec := "gfBack", apart := false }
def GfBackSaid : Prop := gfBackRow.holds Try.pinned (OpenSpec.ofChange gfBackSpec)

/-- ITS FALSE NEIGHBOUR: 'it returns false'. Refute it at one input. -/
def gfBackWrong : ChangeSpec := { name := "gfBack", fn := fun _ => fun
  | [d1, d2] => { results := [.lit (.bool false)], args := [d1, d2] }
  | _ => none }
def GfBackWrongFalsely : Prop := gfBackRow.holds Try.pinned (OpenSpec.ofChange gfBackWrong)

/-- 'casematelaw04.GfBoxes': WHATEVER THE INPUT: true; the input reads as it did. -/
def gfBoxesSpec : ChangeSpec := { name := "gfBoxes", fn := fun _ => fun
  | [d] => { results := [.lit (.bool true)], args := [d] }
  | _ => none }
def gfBoxesRow : OpenClaim := { program := "ytppdeeniljameaa", sum := "f2c497371c043dede9e7f539eec5677f469ca7a7869eb4528a859166b9b76c32", func := "casemate/casematelaw04.GfBoxes", spec := "gfBoxes", apart := false }
def GfBoxesSaid : Prop := gfBoxesRow.holds Try.pinned (OpenSpec.ofChange gfBoxesSpec)

/-- ITS FALSE NEIGHBOUR: 'it returns false'. Refute it at one input. -/
def gfBoxesWrong : ChangeSpec := { name := "gfBoxes", fn := fun _ => fun
  | [d] => { results := [.lit (.bool false)], args := [d] }
  | _ => none }
def GfBoxesWrongFalsely : Prop := gfBoxesRow.holds Try.pinned (OpenSpec.ofChange gfBoxesWrong)

/-- 'casematelaw04.GfOnto': WHATEVER THE INPUT: true; the input reads as it did. -/
def gfOntoSpec : ChangeSpec := { name := "gfOnto", fn := fun _ => fun
  | [d1, d2] => { results := [.lit (.bool true)], args := [d1, d2] }
  | _ => none }
def gfOntoRow : OpenClaim := { program := "ytppdeeniljameaa", sum := "f2c497371c043dede9e7f539eec5677f469ca7a7869eb4528a859166b9b76c32", func := "casemate/casematelaw04.GfOnto", spec := "gfOnto", apart := false }
def GfOntoSaid : Prop := gfOntoRow.holds Try.pinned (OpenSpec.ofChange gfOntoSpec)

/-- ITS FALSE NEIGHBOUR: 'it returns false'. Refute it at one input. -/
def gfOntoWrong : ChangeSpec := { name := "gfOnto", fn := fun _ => fun
  | [d1, d2] => { results := [.lit (.bool false)], args := [d1, d2] }
  | _ => none }
def GfOntoWrongFalsely : Prop := gfOntoRow.holds Try.pinned (OpenSpec.ofChange gfOntoWrong)

/- THE SECOND FORM. 'bulk': how many values and letters a reading holds, each counted each time it is reached (what is shared counts as often as it is met; a slice's spare places count too). A statement '..UptoSaid' is the law's where the arguments, and the package variables that the reading takes, are together of bulk at most 1048576: NARROWER than '..Said'. Prove '..Said' where nothing that the law and all that it calls make is longer than what came in: it says more and counts as full. Else prove '..UptoSaid'. A law counts once. -/
mutual
def uptoBulk {H : Type} : DataW H → Nat
  | .lit (.string bytes) => bytes.length + 1
  | .lit _ => 1
  | .nil => 1
  | .ptr d => uptoBulk d + 1
  | .slice elems spare => uptoBulkAll elems + uptoBulkAll spare + 1
  | .agg parts => uptoBulkAll parts + 1
  | .iface _ d => uptoBulk d + 1
  | .map entries => uptoBulkEntries entries + 1
  | .held _ => 1
def uptoBulkAll {H : Type} : List (DataW H) → Nat
  | [] => 0
  | d :: r => uptoBulk d + uptoBulkAll r
def uptoBulkEntries {H : Type} : List (Lit × DataW H) → Nat
  | [] => 0
  | x :: r => uptoBulkEntry x + uptoBulkEntries r
def uptoBulkEntry {H : Type} : Lit × DataW H → Nat
  | (.string bytes, d) => bytes.length + uptoBulk d + 1
  | (_, d) => uptoBulk d + 1
 end
def uptoSmall : (H : Type) → List (DataW H) → Bool := fun _ ds => decide (uptoBulkAll ds ≤ 1048576)
def OpenSpec.upto (s : _root_.Go.ChangeSpec) : _root_.Go.OpenSpec := { _root_.Go.OpenSpec.ofChange s with cond := some uptoSmall }

/-- 'casematelaw04.GfProducts', WHERE WHAT IT READS IS OF BULK AT MOST 1048576: true; the input reads as it did. -/
def gfProductsUptoRow : OpenClaim := { program := "ytppdeeniljameaa", sum := "f2c497371c043dede9e7f539eec5677f469ca7a7869eb4528a859166b9b76c32", func := "casemate/casematelaw04.GfProducts", spec := "gfProducts", apart := false, narrowed := true }
def GfProductsUptoSaid : Prop := gfProductsUptoRow.holds Try.pinned (OpenSpec.upto gfProductsSpec)

/-- 'casematelaw04.GfRing', WHERE WHAT IT READS IS OF BULK AT MOST 1048576: true; the input reads as it did. -/
def gfRingUptoRow : OpenClaim := { program := "ytppdeeniljameaa", sum := "f2c497371c043dede9e7f539eec5677f469ca7a7869eb4528a859166b9b76c32", func := "casemate/casematelaw04.GfRing", spec := "gfRing", apart := false, narrowed := true }
def GfRingUptoSaid : Prop := gfRingUptoRow.holds Try.pinned (OpenSpec.upto gfRingSpec)

/-- 'casematelaw04.GfBack', WHERE WHAT IT READS IS OF BULK AT MOST 1048576: true; the input reads as it did. -/
def gfBackUptoRow : OpenClaim := { program := "ytppdeeniljameaa", sum := "f2c497371c043dede9e7f539eec5677f469ca7a7869eb4528a859166b9b76c32", func := "casemate/casematelaw04.GfBack", spec := "gfBack", apart := false, narrowed := true }
def GfBackUptoSaid : Prop := gfBackUptoRow.holds Try.pinned (OpenSpec.upto gfBackSpec)

/-- 'casematelaw04.GfBoxes', WHERE WHAT IT READS IS OF BULK AT MOST 1048576: true; the input reads as it did. -/
def gfBoxesUptoRow : OpenClaim := { program := "ytppdeeniljameaa", sum := "f2c497371c043dede9e7f539eec5677f469ca7a7869eb4528a859166b9b76c32", func := "casemate/casematelaw04.GfBoxes", spec := "gfBoxes", apart := false, narrowed := true }
def GfBoxesUptoSaid : Prop := gfBoxesUptoRow.holds Try.pinned (OpenSpec.upto gfBoxesSpec)

/-- 'casematelaw04.GfOnto', WHERE WHAT IT READS IS OF BULK AT MOST 1048576: true; the input reads as it did. -/
def gfOntoUptoRow : OpenClaim := { program := "ytppdeeniljameaa", sum := "f2c497371c043dede9e7f539eec5677f469ca7a7869eb4528a859166b9b76c32", func := "casemate/casematelaw04.GfOnto", spec := "gfOnto", apart := false, narrowed := true }
def GfOntoUptoSaid : Prop := gfOntoUptoRow.holds Try.pinned (OpenSpec.upto gfOntoSpec)

end Rows
end Go.Proofs.Ytppdeeniljameaa
