/-
  NARROWER THAN 'FOR EVERY INPUT', by the rows' own cells (each row's printed sentence says how): MtreeLives: laid · MtreeClones: laid · MtreeGone: laid · MtreeOpens: laid · MtreeNobody: laid · WalkOrder: laid · WalkWhole: laid · ForestLives: laid · ForestClones: laid · ForestOpens: laid · ForestNobody: laid · WalkLives: laid · WalkNobody: laid.
  DERIVED. THE GIVEN ROWS OF THIS SEAT. 13 by the template 'for every input the law returns true; each argument reads behind the call as it read before'; 0 by the template 'total and deterministic' (their statements: YtcnpkmdooekmgaaGreatDoorTotals.lean).
  GIVEN WITH THE SEED: the statements are not yours to turn. If you find one false, say at which input.
  Laid BY PROGRAM, IN A SANDBOX (cutbox-rows.mjs): the forced cells as the released guide's own fill.sh prints them over the translation 103f582a53e266dd… (all of the seat's roots in one cut). By AI agents, Wed Nov 11 2026. No macro, syntax, notation, axiom, sorry.
-/
import Derived.Test.YtcnpkmdooekmgaaGreatDoorChecked
import GoSem.Claim
import GoSem.ClaimJoined
import GoSem.ClaimMapViews
import Derived.JoinedTies
import Derived.KernelRfl
namespace Go.Proofs.YtcnpkmdooekmgaaGreatDoor
/- THE CELL 'sum', in the pinned program and in every row, IS THE sha256 OF THE DUMP (.gsa) THAT YtcnpkmdooekmgaaGreatDoorProg.lean LOADS. Nothing in Lean hashes anything: it is a label: what it is worth is what the hold of that sum in a sandbox is worth. -/
noncomputable def Tryz.pinned : Pinned := { name := "ytcnpkmdooekmgaagreatdoor", sum := "103f582a53e266dd6bbd8925a90622cbbdb0fc7a98eb662d3636f030a1818559", checked := Tryz.checked }
namespace Rows
def none {H : Type} : Left H := { results := [], args := [] }

/- WHAT THE LISTED PACKAGE-LEVEL VARIABLES READ AS WHEN THE CALL BEGINS. Each datum BY PROGRAM (the guide's laid-datum.mjs) off the statement by which the dump's own 'gosem.cut.vars' lays the variable. In a bare row this is a premise. The card (YtcnpkmdooekmgaaGreatDoorCards.lean) ties it to the program's text. -/
def laid_math_bits_deBruijn64tab {H : Type} : DataW H := .agg [.lit (.int .u8 0), .lit (.int .u8 1), .lit (.int .u8 56), .lit (.int .u8 2), .lit (.int .u8 57), .lit (.int .u8 49), .lit (.int .u8 28), .lit (.int .u8 3), .lit (.int .u8 61), .lit (.int .u8 58), .lit (.int .u8 42), .lit (.int .u8 50), .lit (.int .u8 38), .lit (.int .u8 29), .lit (.int .u8 17), .lit (.int .u8 4), .lit (.int .u8 62), .lit (.int .u8 47), .lit (.int .u8 59), .lit (.int .u8 36), .lit (.int .u8 45), .lit (.int .u8 43), .lit (.int .u8 51), .lit (.int .u8 22), .lit (.int .u8 53), .lit (.int .u8 39), .lit (.int .u8 33), .lit (.int .u8 30), .lit (.int .u8 24), .lit (.int .u8 18), .lit (.int .u8 12), .lit (.int .u8 5), .lit (.int .u8 63), .lit (.int .u8 55), .lit (.int .u8 48), .lit (.int .u8 27), .lit (.int .u8 60), .lit (.int .u8 41), .lit (.int .u8 37), .lit (.int .u8 16), .lit (.int .u8 46), .lit (.int .u8 35), .lit (.int .u8 44), .lit (.int .u8 21), .lit (.int .u8 52), .lit (.int .u8 32), .lit (.int .u8 23), .lit (.int .u8 11), .lit (.int .u8 54), .lit (.int .u8 26), .lit (.int .u8 40), .lit (.int .u8 15), .lit (.int .u8 34), .lit (.int .u8 20), .lit (.int .u8 31), .lit (.int .u8 10), .lit (.int .u8 25), .lit (.int .u8 14), .lit (.int .u8 19), .lit (.int .u8 9), .lit (.int .u8 13), .lit (.int .u8 8), .lit (.int .u8 7), .lit (.int .u8 6)]

/-- 'casematelaw15.MtreeLives': WHATEVER THE INPUT: true; the input reads as it did. -/
def mtreeLivesSpec : ChangeSpec := { name := "mtreeLives", fn := fun _ => fun
  | [d] => { results := [.lit (.bool true)], args := [d] }
  | _ => none }
def mtreeLivesRow : OpenClaim := { program := "ytcnpkmdooekmgaagreatdoor", sum := "103f582a53e266dd6bbd8925a90622cbbdb0fc7a98eb662d3636f030a1818559", func := "casemate/casematelaw15.MtreeLives", spec := "mtreeLives", inPlace := ["slices.overlaps[uint64]", "slices.overlaps[[44]byte]"], unfollowed := true, recurses := true, named := ["math/bits.deBruijn64tab"], plainKeys := false, apart := false, laid := [("math/bits.deBruijn64tab", laid_math_bits_deBruijn64tab)] }
def MtreeLivesSaid : Prop := mtreeLivesRow.holds Tryz.pinned (OpenSpec.ofChange mtreeLivesSpec)

/-- ITS FALSE NEIGHBOUR: 'it returns false'. Refute it at one input. -/
def mtreeLivesWrong : ChangeSpec := { name := "mtreeLives", fn := fun _ => fun
  | [d] => { results := [.lit (.bool false)], args := [d] }
  | _ => none }
def MtreeLivesWrongFalsely : Prop := mtreeLivesRow.holds Tryz.pinned (OpenSpec.ofChange mtreeLivesWrong)

/-- 'casematelaw15.MtreeClones': WHATEVER THE INPUT: true; the input reads as it did. -/
def mtreeClonesSpec : ChangeSpec := { name := "mtreeClones", fn := fun _ => fun
  | [d1, d2, d3] => { results := [.lit (.bool true)], args := [d1, d2, d3] }
  | _ => none }
def mtreeClonesRow : OpenClaim := { program := "ytcnpkmdooekmgaagreatdoor", sum := "103f582a53e266dd6bbd8925a90622cbbdb0fc7a98eb662d3636f030a1818559", func := "casemate/casematelaw15.MtreeClones", spec := "mtreeClones", inPlace := ["slices.overlaps[uint64]", "slices.overlaps[[44]byte]"], unfollowed := true, recurses := true, named := ["math/bits.deBruijn64tab"], plainKeys := false, apart := false, laid := [("math/bits.deBruijn64tab", laid_math_bits_deBruijn64tab)] }
def MtreeClonesSaid : Prop := mtreeClonesRow.holds Tryz.pinned (OpenSpec.ofChange mtreeClonesSpec)

/-- ITS FALSE NEIGHBOUR: 'it returns false'. Refute it at one input. -/
def mtreeClonesWrong : ChangeSpec := { name := "mtreeClones", fn := fun _ => fun
  | [d1, d2, d3] => { results := [.lit (.bool false)], args := [d1, d2, d3] }
  | _ => none }
def MtreeClonesWrongFalsely : Prop := mtreeClonesRow.holds Tryz.pinned (OpenSpec.ofChange mtreeClonesWrong)

/-- 'casematelaw15.MtreeGone': WHATEVER THE INPUT: true; the input reads as it did. -/
def mtreeGoneSpec : ChangeSpec := { name := "mtreeGone", fn := fun _ => fun
  | [d1, d2, d3] => { results := [.lit (.bool true)], args := [d1, d2, d3] }
  | _ => none }
def mtreeGoneRow : OpenClaim := { program := "ytcnpkmdooekmgaagreatdoor", sum := "103f582a53e266dd6bbd8925a90622cbbdb0fc7a98eb662d3636f030a1818559", func := "casemate/casematelaw15.MtreeGone", spec := "mtreeGone", inPlace := ["slices.overlaps[uint64]", "slices.overlaps[[44]byte]"], unfollowed := true, recurses := true, named := ["math/bits.deBruijn64tab"], plainKeys := false, apart := false, laid := [("math/bits.deBruijn64tab", laid_math_bits_deBruijn64tab)] }
def MtreeGoneSaid : Prop := mtreeGoneRow.holds Tryz.pinned (OpenSpec.ofChange mtreeGoneSpec)

/-- ITS FALSE NEIGHBOUR: 'it returns false'. Refute it at one input. -/
def mtreeGoneWrong : ChangeSpec := { name := "mtreeGone", fn := fun _ => fun
  | [d1, d2, d3] => { results := [.lit (.bool false)], args := [d1, d2, d3] }
  | _ => none }
def MtreeGoneWrongFalsely : Prop := mtreeGoneRow.holds Tryz.pinned (OpenSpec.ofChange mtreeGoneWrong)

/-- 'casematelaw15.MtreeOpens': WHATEVER THE INPUT: true; the input reads as it did. -/
def mtreeOpensSpec : ChangeSpec := { name := "mtreeOpens", fn := fun _ => fun
  | [d1, d2] => { results := [.lit (.bool true)], args := [d1, d2] }
  | _ => none }
def mtreeOpensRow : OpenClaim := { program := "ytcnpkmdooekmgaagreatdoor", sum := "103f582a53e266dd6bbd8925a90622cbbdb0fc7a98eb662d3636f030a1818559", func := "casemate/casematelaw15.MtreeOpens", spec := "mtreeOpens", inPlace := ["slices.overlaps[uint64]", "slices.overlaps[[44]byte]"], unfollowed := true, recurses := true, named := ["math/bits.deBruijn64tab"], plainKeys := false, apart := false, laid := [("math/bits.deBruijn64tab", laid_math_bits_deBruijn64tab)] }
def MtreeOpensSaid : Prop := mtreeOpensRow.holds Tryz.pinned (OpenSpec.ofChange mtreeOpensSpec)

/-- ITS FALSE NEIGHBOUR: 'it returns false'. Refute it at one input. -/
def mtreeOpensWrong : ChangeSpec := { name := "mtreeOpens", fn := fun _ => fun
  | [d1, d2] => { results := [.lit (.bool false)], args := [d1, d2] }
  | _ => none }
def MtreeOpensWrongFalsely : Prop := mtreeOpensRow.holds Tryz.pinned (OpenSpec.ofChange mtreeOpensWrong)

/-- 'casematelaw15.MtreeNobody': WHATEVER THE INPUT: true; the input reads as it did. -/
def mtreeNobodySpec : ChangeSpec := { name := "mtreeNobody", fn := fun _ => fun
  | [d1, d2, d3] => { results := [.lit (.bool true)], args := [d1, d2, d3] }
  | _ => none }
def mtreeNobodyRow : OpenClaim := { program := "ytcnpkmdooekmgaagreatdoor", sum := "103f582a53e266dd6bbd8925a90622cbbdb0fc7a98eb662d3636f030a1818559", func := "casemate/casematelaw15.MtreeNobody", spec := "mtreeNobody", inPlace := ["slices.overlaps[uint64]", "slices.overlaps[[44]byte]"], unfollowed := true, recurses := true, named := ["math/bits.deBruijn64tab"], plainKeys := false, apart := false, laid := [("math/bits.deBruijn64tab", laid_math_bits_deBruijn64tab)] }
def MtreeNobodySaid : Prop := mtreeNobodyRow.holds Tryz.pinned (OpenSpec.ofChange mtreeNobodySpec)

/-- ITS FALSE NEIGHBOUR: 'it returns false'. Refute it at one input. -/
def mtreeNobodyWrong : ChangeSpec := { name := "mtreeNobody", fn := fun _ => fun
  | [d1, d2, d3] => { results := [.lit (.bool false)], args := [d1, d2, d3] }
  | _ => none }
def MtreeNobodyWrongFalsely : Prop := mtreeNobodyRow.holds Tryz.pinned (OpenSpec.ofChange mtreeNobodyWrong)

/-- 'casematelaw16.WalkOrder': WHATEVER THE INPUT: true; the input reads as it did. -/
def walkOrderSpec : ChangeSpec := { name := "walkOrder", fn := fun _ => fun
  | [d1, d2] => { results := [.lit (.bool true)], args := [d1, d2] }
  | _ => none }
def walkOrderRow : OpenClaim := { program := "ytcnpkmdooekmgaagreatdoor", sum := "103f582a53e266dd6bbd8925a90622cbbdb0fc7a98eb662d3636f030a1818559", func := "casemate/casematelaw16.WalkOrder", spec := "walkOrder", inPlace := ["slices.overlaps[uint64]", "slices.overlaps[[44]byte]"], unfollowed := true, recurses := true, named := ["math/bits.deBruijn64tab"], plainKeys := false, apart := false, laid := [("math/bits.deBruijn64tab", laid_math_bits_deBruijn64tab)] }
def WalkOrderSaid : Prop := walkOrderRow.holds Tryz.pinned (OpenSpec.ofChange walkOrderSpec)

/-- ITS FALSE NEIGHBOUR: 'it returns false'. Refute it at one input. -/
def walkOrderWrong : ChangeSpec := { name := "walkOrder", fn := fun _ => fun
  | [d1, d2] => { results := [.lit (.bool false)], args := [d1, d2] }
  | _ => none }
def WalkOrderWrongFalsely : Prop := walkOrderRow.holds Tryz.pinned (OpenSpec.ofChange walkOrderWrong)

/-- 'casematelaw16.WalkWhole': WHATEVER THE INPUT: true; the input reads as it did. -/
def walkWholeSpec : ChangeSpec := { name := "walkWhole", fn := fun _ => fun
  | [d1, d2, d3, d4] => { results := [.lit (.bool true)], args := [d1, d2, d3, d4] }
  | _ => none }
def walkWholeRow : OpenClaim := { program := "ytcnpkmdooekmgaagreatdoor", sum := "103f582a53e266dd6bbd8925a90622cbbdb0fc7a98eb662d3636f030a1818559", func := "casemate/casematelaw16.WalkWhole", spec := "walkWhole", inPlace := ["slices.overlaps[uint64]", "slices.overlaps[[44]byte]"], unfollowed := true, recurses := true, named := ["math/bits.deBruijn64tab"], plainKeys := false, apart := false, laid := [("math/bits.deBruijn64tab", laid_math_bits_deBruijn64tab)] }
def WalkWholeSaid : Prop := walkWholeRow.holds Tryz.pinned (OpenSpec.ofChange walkWholeSpec)

/-- ITS FALSE NEIGHBOUR: 'it returns false'. Refute it at one input. -/
def walkWholeWrong : ChangeSpec := { name := "walkWhole", fn := fun _ => fun
  | [d1, d2, d3, d4] => { results := [.lit (.bool false)], args := [d1, d2, d3, d4] }
  | _ => none }
def WalkWholeWrongFalsely : Prop := walkWholeRow.holds Tryz.pinned (OpenSpec.ofChange walkWholeWrong)

/-- 'casematelaw26.ForestLives': WHATEVER THE INPUT: true; the input reads as it did. -/
def forestLivesSpec : ChangeSpec := { name := "forestLives", fn := fun _ => fun
  | [d] => { results := [.lit (.bool true)], args := [d] }
  | _ => none }
def forestLivesRow : OpenClaim := { program := "ytcnpkmdooekmgaagreatdoor", sum := "103f582a53e266dd6bbd8925a90622cbbdb0fc7a98eb662d3636f030a1818559", func := "casemate/casematelaw26.ForestLives", spec := "forestLives", inPlace := ["slices.overlaps[uint64]", "slices.overlaps[[44]byte]"], unfollowed := true, recurses := true, named := ["math/bits.deBruijn64tab"], plainKeys := false, apart := false, laid := [("math/bits.deBruijn64tab", laid_math_bits_deBruijn64tab)] }
def ForestLivesSaid : Prop := forestLivesRow.holds Tryz.pinned (OpenSpec.ofChange forestLivesSpec)

/-- ITS FALSE NEIGHBOUR: 'it returns false'. Refute it at one input. -/
def forestLivesWrong : ChangeSpec := { name := "forestLives", fn := fun _ => fun
  | [d] => { results := [.lit (.bool false)], args := [d] }
  | _ => none }
def ForestLivesWrongFalsely : Prop := forestLivesRow.holds Tryz.pinned (OpenSpec.ofChange forestLivesWrong)

/-- 'casematelaw26.ForestClones': WHATEVER THE INPUT: true; the input reads as it did. -/
def forestClonesSpec : ChangeSpec := { name := "forestClones", fn := fun _ => fun
  | [d1, d2] => { results := [.lit (.bool true)], args := [d1, d2] }
  | _ => none }
def forestClonesRow : OpenClaim := { program := "ytcnpkmdooekmgaagreatdoor", sum := "103f582a53e266dd6bbd8925a90622cbbdb0fc7a98eb662d3636f030a1818559", func := "casemate/casematelaw26.ForestClones", spec := "forestClones", inPlace := ["slices.overlaps[uint64]", "slices.overlaps[[44]byte]"], unfollowed := true, recurses := true, named := ["math/bits.deBruijn64tab"], plainKeys := false, apart := false, laid := [("math/bits.deBruijn64tab", laid_math_bits_deBruijn64tab)] }
def ForestClonesSaid : Prop := forestClonesRow.holds Tryz.pinned (OpenSpec.ofChange forestClonesSpec)

/-- ITS FALSE NEIGHBOUR: 'it returns false'. Refute it at one input. -/
def forestClonesWrong : ChangeSpec := { name := "forestClones", fn := fun _ => fun
  | [d1, d2] => { results := [.lit (.bool false)], args := [d1, d2] }
  | _ => none }
def ForestClonesWrongFalsely : Prop := forestClonesRow.holds Tryz.pinned (OpenSpec.ofChange forestClonesWrong)

/-- 'casematelaw26.ForestOpens': WHATEVER THE INPUT: true; the input reads as it did. -/
def forestOpensSpec : ChangeSpec := { name := "forestOpens", fn := fun _ => fun
  | [d1, d2] => { results := [.lit (.bool true)], args := [d1, d2] }
  | _ => none }
def forestOpensRow : OpenClaim := { program := "ytcnpkmdooekmgaagreatdoor", sum := "103f582a53e266dd6bbd8925a90622cbbdb0fc7a98eb662d3636f030a1818559", func := "casemate/casematelaw26.ForestOpens", spec := "forestOpens", inPlace := ["slices.overlaps[uint64]", "slices.overlaps[[44]byte]"], unfollowed := true, recurses := true, named := ["math/bits.deBruijn64tab"], plainKeys := false, apart := false, laid := [("math/bits.deBruijn64tab", laid_math_bits_deBruijn64tab)] }
def ForestOpensSaid : Prop := forestOpensRow.holds Tryz.pinned (OpenSpec.ofChange forestOpensSpec)

/-- ITS FALSE NEIGHBOUR: 'it returns false'. Refute it at one input. -/
def forestOpensWrong : ChangeSpec := { name := "forestOpens", fn := fun _ => fun
  | [d1, d2] => { results := [.lit (.bool false)], args := [d1, d2] }
  | _ => none }
def ForestOpensWrongFalsely : Prop := forestOpensRow.holds Tryz.pinned (OpenSpec.ofChange forestOpensWrong)

/-- 'casematelaw26.ForestNobody': WHATEVER THE INPUT: true; the input reads as it did. -/
def forestNobodySpec : ChangeSpec := { name := "forestNobody", fn := fun _ => fun
  | [d] => { results := [.lit (.bool true)], args := [d] }
  | _ => none }
def forestNobodyRow : OpenClaim := { program := "ytcnpkmdooekmgaagreatdoor", sum := "103f582a53e266dd6bbd8925a90622cbbdb0fc7a98eb662d3636f030a1818559", func := "casemate/casematelaw26.ForestNobody", spec := "forestNobody", inPlace := ["slices.overlaps[uint64]", "slices.overlaps[[44]byte]"], unfollowed := true, recurses := true, named := ["math/bits.deBruijn64tab"], plainKeys := false, apart := false, laid := [("math/bits.deBruijn64tab", laid_math_bits_deBruijn64tab)] }
def ForestNobodySaid : Prop := forestNobodyRow.holds Tryz.pinned (OpenSpec.ofChange forestNobodySpec)

/-- ITS FALSE NEIGHBOUR: 'it returns false'. Refute it at one input. -/
def forestNobodyWrong : ChangeSpec := { name := "forestNobody", fn := fun _ => fun
  | [d] => { results := [.lit (.bool false)], args := [d] }
  | _ => none }
def ForestNobodyWrongFalsely : Prop := forestNobodyRow.holds Tryz.pinned (OpenSpec.ofChange forestNobodyWrong)

/-- 'casematelaw16.WalkLives': WHATEVER THE INPUT: true; the input reads as it did. -/
def walkLivesSpec : ChangeSpec := { name := "walkLives", fn := fun _ => fun
  | [d1, d2, d3] => { results := [.lit (.bool true)], args := [d1, d2, d3] }
  | _ => none }
def walkLivesRow : OpenClaim := { program := "ytcnpkmdooekmgaagreatdoor", sum := "103f582a53e266dd6bbd8925a90622cbbdb0fc7a98eb662d3636f030a1818559", func := "casemate/casematelaw16.WalkLives", spec := "walkLives", inPlace := ["slices.overlaps[uint64]", "slices.overlaps[[44]byte]"], unfollowed := true, recurses := true, named := ["math/bits.deBruijn64tab"], plainKeys := false, apart := false, laid := [("math/bits.deBruijn64tab", laid_math_bits_deBruijn64tab)] }
def WalkLivesSaid : Prop := walkLivesRow.holds Tryz.pinned (OpenSpec.ofChange walkLivesSpec)

/-- ITS FALSE NEIGHBOUR: 'it returns false'. Refute it at one input. -/
def walkLivesWrong : ChangeSpec := { name := "walkLives", fn := fun _ => fun
  | [d1, d2, d3] => { results := [.lit (.bool false)], args := [d1, d2, d3] }
  | _ => none }
def WalkLivesWrongFalsely : Prop := walkLivesRow.holds Tryz.pinned (OpenSpec.ofChange walkLivesWrong)

/-- 'casematelaw16.WalkNobody': WHATEVER THE INPUT: true; the input reads as it did. -/
def walkNobodySpec : ChangeSpec := { name := "walkNobody", fn := fun _ => fun
  | [d1, d2, d3] => { results := [.lit (.bool true)], args := [d1, d2, d3] }
  | _ => none }
def walkNobodyRow : OpenClaim := { program := "ytcnpkmdooekmgaagreatdoor", sum := "103f582a53e266dd6bbd8925a90622cbbdb0fc7a98eb662d3636f030a1818559", func := "casemate/casematelaw16.WalkNobody", spec := "walkNobody", inPlace := ["slices.overlaps[uint64]", "slices.overlaps[[44]byte]"], unfollowed := true, recurses := true, named := ["math/bits.deBruijn64tab"], plainKeys := false, apart := false, laid := [("math/bits.deBruijn64tab", laid_math_bits_deBruijn64tab)] }
def WalkNobodySaid : Prop := walkNobodyRow.holds Tryz.pinned (OpenSpec.ofChange walkNobodySpec)

/-- ITS FALSE NEIGHBOUR: 'it returns false'. Refute it at one input. -/
def walkNobodyWrong : ChangeSpec := { name := "walkNobody", fn := fun _ => fun
  | [d1, d2, d3] => { results := [.lit (.bool false)], args := [d1, d2, d3] }
  | _ => none }
def WalkNobodyWrongFalsely : Prop := walkNobodyRow.holds Tryz.pinned (OpenSpec.ofChange walkNobodyWrong)

/- THE SECOND FORM. 'bulk': how many values and letters a reading holds, each counted each time it is reached (what is shared counts as often as it is met; a slice's spare places count too). A statement '..UptoSaid' is the law's where the arguments, and the package variables that the reading takes, are together of bulk at most 1048576: NARROWER than '..Said'. Prove '..Said' where nothing that the law and all that it calls make is longer than what came in: it says more and counts as full. Else prove '..UptoSaid'. A law counts once. -/
mutual
def uptoBulk {H : Type} : DataW H → Nat
  | .lit (.string bytes) => bytes.length + 1
  | .lit _ => 1
  | .nil => 1
  | .ptr d => uptoBulk d + 1
  | .slice elems spare => uptoBulkAll elems + uptoBulkAll spare + 1
  | .agg parts => uptoBulkAll parts + 1
  | .iface _ d => uptoBulk d + 1
  | .map entries => uptoBulkEntries entries + 1
  | .held _ => 1
def uptoBulkAll {H : Type} : List (DataW H) → Nat
  | [] => 0
  | d :: r => uptoBulk d + uptoBulkAll r
def uptoBulkEntries {H : Type} : List (Lit × DataW H) → Nat
  | [] => 0
  | x :: r => uptoBulkEntry x + uptoBulkEntries r
def uptoBulkEntry {H : Type} : Lit × DataW H → Nat
  | (.string bytes, d) => bytes.length + uptoBulk d + 1
  | (_, d) => uptoBulk d + 1
 end
def uptoSmall : (H : Type) → List (DataW H) → Bool := fun _ ds => decide (uptoBulkAll ds ≤ 1048576)
def OpenSpec.upto (s : _root_.Go.ChangeSpec) : _root_.Go.OpenSpec := { _root_.Go.OpenSpec.ofChange s with cond := some uptoSmall }

/-- 'casematelaw15.MtreeLives', WHERE WHAT IT READS IS OF BULK AT MOST 1048576: true; the input reads as it did. -/
def mtreeLivesUptoRow : OpenClaim := { program := "ytcnpkmdooekmgaagreatdoor", sum := "103f582a53e266dd6bbd8925a90622cbbdb0fc7a98eb662d3636f030a1818559", func := "casemate/casematelaw15.MtreeLives", spec := "mtreeLives", inPlace := ["slices.overlaps[uint64]", "slices.overlaps[[44]byte]"], unfollowed := true, recurses := true, named := ["math/bits.deBruijn64tab"], plainKeys := false, apart := false, laid := [("math/bits.deBruijn64tab", laid_math_bits_deBruijn64tab)], narrowed := true }
def MtreeLivesUptoSaid : Prop := mtreeLivesUptoRow.holds Tryz.pinned (OpenSpec.upto mtreeLivesSpec)

/-- 'casematelaw15.MtreeClones', WHERE WHAT IT READS IS OF BULK AT MOST 1048576: true; the input reads as it did. -/
def mtreeClonesUptoRow : OpenClaim := { program := "ytcnpkmdooekmgaagreatdoor", sum := "103f582a53e266dd6bbd8925a90622cbbdb0fc7a98eb662d3636f030a1818559", func := "casemate/casematelaw15.MtreeClones", spec := "mtreeClones", inPlace := ["slices.overlaps[uint64]", "slices.overlaps[[44]byte]"], unfollowed := true, recurses := true, named := ["math/bits.deBruijn64tab"], plainKeys := false, apart := false, laid := [("math/bits.deBruijn64tab", laid_math_bits_deBruijn64tab)], narrowed := true }
def MtreeClonesUptoSaid : Prop := mtreeClonesUptoRow.holds Tryz.pinned (OpenSpec.upto mtreeClonesSpec)

/-- 'casematelaw15.MtreeGone', WHERE WHAT IT READS IS OF BULK AT MOST 1048576: true; the input reads as it did. -/
def mtreeGoneUptoRow : OpenClaim := { program := "ytcnpkmdooekmgaagreatdoor", sum := "103f582a53e266dd6bbd8925a90622cbbdb0fc7a98eb662d3636f030a1818559", func := "casemate/casematelaw15.MtreeGone", spec := "mtreeGone", inPlace := ["slices.overlaps[uint64]", "slices.overlaps[[44]byte]"], unfollowed := true, recurses := true, named := ["math/bits.deBruijn64tab"], plainKeys := false, apart := false, laid := [("math/bits.deBruijn64tab", laid_math_bits_deBruijn64tab)], narrowed := true }
def MtreeGoneUptoSaid : Prop := mtreeGoneUptoRow.holds Tryz.pinned (OpenSpec.upto mtreeGoneSpec)

/-- 'casematelaw15.MtreeOpens', WHERE WHAT IT READS IS OF BULK AT MOST 1048576: true; the input reads as it did. -/
def mtreeOpensUptoRow : OpenClaim := { program := "ytcnpkmdooekmgaagreatdoor", sum := "103f582a53e266dd6bbd8925a90622cbbdb0fc7a98eb662d3636f030a1818559", func := "casemate/casematelaw15.MtreeOpens", spec := "mtreeOpens", inPlace := ["slices.overlaps[uint64]", "slices.overlaps[[44]byte]"], unfollowed := true, recurses := true, named := ["math/bits.deBruijn64tab"], plainKeys := false, apart := false, laid := [("math/bits.deBruijn64tab", laid_math_bits_deBruijn64tab)], narrowed := true }
def MtreeOpensUptoSaid : Prop := mtreeOpensUptoRow.holds Tryz.pinned (OpenSpec.upto mtreeOpensSpec)

/-- 'casematelaw15.MtreeNobody', WHERE WHAT IT READS IS OF BULK AT MOST 1048576: true; the input reads as it did. -/
def mtreeNobodyUptoRow : OpenClaim := { program := "ytcnpkmdooekmgaagreatdoor", sum := "103f582a53e266dd6bbd8925a90622cbbdb0fc7a98eb662d3636f030a1818559", func := "casemate/casematelaw15.MtreeNobody", spec := "mtreeNobody", inPlace := ["slices.overlaps[uint64]", "slices.overlaps[[44]byte]"], unfollowed := true, recurses := true, named := ["math/bits.deBruijn64tab"], plainKeys := false, apart := false, laid := [("math/bits.deBruijn64tab", laid_math_bits_deBruijn64tab)], narrowed := true }
def MtreeNobodyUptoSaid : Prop := mtreeNobodyUptoRow.holds Tryz.pinned (OpenSpec.upto mtreeNobodySpec)

/-- 'casematelaw16.WalkOrder', WHERE WHAT IT READS IS OF BULK AT MOST 1048576: true; the input reads as it did. -/
def walkOrderUptoRow : OpenClaim := { program := "ytcnpkmdooekmgaagreatdoor", sum := "103f582a53e266dd6bbd8925a90622cbbdb0fc7a98eb662d3636f030a1818559", func := "casemate/casematelaw16.WalkOrder", spec := "walkOrder", inPlace := ["slices.overlaps[uint64]", "slices.overlaps[[44]byte]"], unfollowed := true, recurses := true, named := ["math/bits.deBruijn64tab"], plainKeys := false, apart := false, laid := [("math/bits.deBruijn64tab", laid_math_bits_deBruijn64tab)], narrowed := true }
def WalkOrderUptoSaid : Prop := walkOrderUptoRow.holds Tryz.pinned (OpenSpec.upto walkOrderSpec)

/-- 'casematelaw16.WalkWhole', WHERE WHAT IT READS IS OF BULK AT MOST 1048576: true; the input reads as it did. -/
def walkWholeUptoRow : OpenClaim := { program := "ytcnpkmdooekmgaagreatdoor", sum := "103f582a53e266dd6bbd8925a90622cbbdb0fc7a98eb662d3636f030a1818559", func := "casemate/casematelaw16.WalkWhole", spec := "walkWhole", inPlace := ["slices.overlaps[uint64]", "slices.overlaps[[44]byte]"], unfollowed := true, recurses := true, named := ["math/bits.deBruijn64tab"], plainKeys := false, apart := false, laid := [("math/bits.deBruijn64tab", laid_math_bits_deBruijn64tab)], narrowed := true }
def WalkWholeUptoSaid : Prop := walkWholeUptoRow.holds Tryz.pinned (OpenSpec.upto walkWholeSpec)

/-- 'casematelaw26.ForestLives', WHERE WHAT IT READS IS OF BULK AT MOST 1048576: true; the input reads as it did. -/
def forestLivesUptoRow : OpenClaim := { program := "ytcnpkmdooekmgaagreatdoor", sum := "103f582a53e266dd6bbd8925a90622cbbdb0fc7a98eb662d3636f030a1818559", func := "casemate/casematelaw26.ForestLives", spec := "forestLives", inPlace := ["slices.overlaps[uint64]", "slices.overlaps[[44]byte]"], unfollowed := true, recurses := true, named := ["math/bits.deBruijn64tab"], plainKeys := false, apart := false, laid := [("math/bits.deBruijn64tab", laid_math_bits_deBruijn64tab)], narrowed := true }
def ForestLivesUptoSaid : Prop := forestLivesUptoRow.holds Tryz.pinned (OpenSpec.upto forestLivesSpec)

/-- 'casematelaw26.ForestClones', WHERE WHAT IT READS IS OF BULK AT MOST 1048576: true; the input reads as it did. -/
def forestClonesUptoRow : OpenClaim := { program := "ytcnpkmdooekmgaagreatdoor", sum := "103f582a53e266dd6bbd8925a90622cbbdb0fc7a98eb662d3636f030a1818559", func := "casemate/casematelaw26.ForestClones", spec := "forestClones", inPlace := ["slices.overlaps[uint64]", "slices.overlaps[[44]byte]"], unfollowed := true, recurses := true, named := ["math/bits.deBruijn64tab"], plainKeys := false, apart := false, laid := [("math/bits.deBruijn64tab", laid_math_bits_deBruijn64tab)], narrowed := true }
def ForestClonesUptoSaid : Prop := forestClonesUptoRow.holds Tryz.pinned (OpenSpec.upto forestClonesSpec)

/-- 'casematelaw26.ForestOpens', WHERE WHAT IT READS IS OF BULK AT MOST 1048576: true; the input reads as it did. -/
def forestOpensUptoRow : OpenClaim := { program := "ytcnpkmdooekmgaagreatdoor", sum := "103f582a53e266dd6bbd8925a90622cbbdb0fc7a98eb662d3636f030a1818559", func := "casemate/casematelaw26.ForestOpens", spec := "forestOpens", inPlace := ["slices.overlaps[uint64]", "slices.overlaps[[44]byte]"], unfollowed := true, recurses := true, named := ["math/bits.deBruijn64tab"], plainKeys := false, apart := false, laid := [("math/bits.deBruijn64tab", laid_math_bits_deBruijn64tab)], narrowed := true }
def ForestOpensUptoSaid : Prop := forestOpensUptoRow.holds Tryz.pinned (OpenSpec.upto forestOpensSpec)

/-- 'casematelaw26.ForestNobody', WHERE WHAT IT READS IS OF BULK AT MOST 1048576: true; the input reads as it did. -/
def forestNobodyUptoRow : OpenClaim := { program := "ytcnpkmdooekmgaagreatdoor", sum := "103f582a53e266dd6bbd8925a90622cbbdb0fc7a98eb662d3636f030a1818559", func := "casemate/casematelaw26.ForestNobody", spec := "forestNobody", inPlace := ["slices.overlaps[uint64]", "slices.overlaps[[44]byte]"], unfollowed := true, recurses := true, named := ["math/bits.deBruijn64tab"], plainKeys := false, apart := false, laid := [("math/bits.deBruijn64tab", laid_math_bits_deBruijn64tab)], narrowed := true }
def ForestNobodyUptoSaid : Prop := forestNobodyUptoRow.holds Tryz.pinned (OpenSpec.upto forestNobodySpec)

/-- 'casematelaw16.WalkLives', WHERE WHAT IT READS IS OF BULK AT MOST 1048576: true; the input reads as it did. -/
def walkLivesUptoRow : OpenClaim := { program := "ytcnpkmdooekmgaagreatdoor", sum := "103f582a53e266dd6bbd8925a90622cbbdb0fc7a98eb662d3636f030a1818559", func := "casemate/casematelaw16.WalkLives", spec := "walkLives", inPlace := ["slices.overlaps[uint64]", "slices.overlaps[[44]byte]"], unfollowed := true, recurses := true, named := ["math/bits.deBruijn64tab"], plainKeys := false, apart := false, laid := [("math/bits.deBruijn64tab", laid_math_bits_deBruijn64tab)], narrowed := true }
def WalkLivesUptoSaid : Prop := walkLivesUptoRow.holds Tryz.pinned (OpenSpec.upto walkLivesSpec)

/-- 'casematelaw16.WalkNobody', WHERE WHAT IT READS IS OF BULK AT MOST 1048576: true; the input reads as it did. -/
def walkNobodyUptoRow : OpenClaim := { program := "ytcnpkmdooekmgaagreatdoor", sum := "103f582a53e266dd6bbd8925a90622cbbdb0fc7a98eb662d3636f030a1818559", func := "casemate/casematelaw16.WalkNobody", spec := "walkNobody", inPlace := ["slices.overlaps[uint64]", "slices.overlaps[[44]byte]"], unfollowed := true, recurses := true, named := ["math/bits.deBruijn64tab"], plainKeys := false, apart := false, laid := [("math/bits.deBruijn64tab", laid_math_bits_deBruijn64tab)], narrowed := true }
def WalkNobodyUptoSaid : Prop := walkNobodyUptoRow.holds Tryz.pinned (OpenSpec.upto walkNobodySpec)

end Rows
end Go.Proofs.YtcnpkmdooekmgaaGreatDoor
