/-
  No cell of these rows narrows 'for every input' (looked for: loops, veiled, ifaces, maps, wideKeys, modest, calm, conditions, laid).
  DERIVED. THE GIVEN ROWS OF THIS SEAT. 14 by the template 'for every input the law returns true; each argument reads behind the call as it read before'; 0 by the template 'total and deterministic' (their statements: YtlbonbkaddeeeaaTotals.lean).
  GIVEN WITH THE SEED: the statements are not yours to turn. If you find one false, say at which input.
  Laid BY PROGRAM, IN A SANDBOX (cutbox-rows.mjs): the forced cells as the released guide's own fill.sh prints them over the translation eb53e2241ae1f416… (all of the seat's roots in one cut). By AI agents, Wed Nov 11 2026. No macro, syntax, notation, axiom, sorry.
-/
import Derived.Test.YtlbonbkaddeeeaaChecked
import GoSem.Claim
import GoSem.ClaimJoined
import GoSem.ClaimMapViews
import Derived.JoinedTies
import Derived.KernelRfl
namespace Go.Proofs.Ytlbonbkaddeeeaa
/- THE CELL 'sum', in the pinned program and in every row, IS THE sha256 OF THE DUMP (.gsa) THAT YtlbonbkaddeeeaaProg.lean LOADS. Nothing in Lean hashes anything: it is a label: what it is worth is what the hold of that sum in a sandbox is worth. -/
noncomputable def Try.pinned : Pinned := { name := "ytlbonbkaddeeeaa", sum := "eb53e2241ae1f416882d868b3edce177556576a5f2cd513e66b631b4dbb0e844", checked := Try.checked }
namespace Rows
def none {H : Type} : Left H := { results := [], args := [] }

/-- 'conchlaw3.SetBytes': WHATEVER THE INPUT: true; the input reads as it did. -/
def setBytesSpec : ChangeSpec := { name := "setBytes", fn := fun _ => fun
  | [d] => { results := [.lit (.bool true)], args := [d] }
  | _ => none }
def setBytesRow : OpenClaim := { program := "ytlbonbkaddeeeaa", sum := "eb53e2241ae1f416882d868b3edce177556576a5f2cd513e66b631b4dbb0e844", func := "conch/conchlaw3.SetBytes", spec := "setBytes", apart := false }
def SetBytesSaid : Prop := setBytesRow.holds Try.pinned (OpenSpec.ofChange setBytesSpec)

/-- ITS FALSE NEIGHBOUR: 'it returns false'. Refute it at one input. -/
def setBytesWrong : ChangeSpec := { name := "setBytes", fn := fun _ => fun
  | [d] => { results := [.lit (.bool false)], args := [d] }
  | _ => none }
def SetBytesWrongFalsely : Prop := setBytesRow.holds Try.pinned (OpenSpec.ofChange setBytesWrong)

/-- 'conchlaw3.SetRanges': WHATEVER THE INPUT: true; the input reads as it did. -/
def setRangesSpec : ChangeSpec := { name := "setRanges", fn := fun _ => fun
  | [d1, d2, d3] => { results := [.lit (.bool true)], args := [d1, d2, d3] }
  | _ => none }
def setRangesRow : OpenClaim := { program := "ytlbonbkaddeeeaa", sum := "eb53e2241ae1f416882d868b3edce177556576a5f2cd513e66b631b4dbb0e844", func := "conch/conchlaw3.SetRanges", spec := "setRanges", apart := false }
def SetRangesSaid : Prop := setRangesRow.holds Try.pinned (OpenSpec.ofChange setRangesSpec)

/-- ITS FALSE NEIGHBOUR: 'it returns false'. Refute it at one input. -/
def setRangesWrong : ChangeSpec := { name := "setRanges", fn := fun _ => fun
  | [d1, d2, d3] => { results := [.lit (.bool false)], args := [d1, d2, d3] }
  | _ => none }
def SetRangesWrongFalsely : Prop := setRangesRow.holds Try.pinned (OpenSpec.ofChange setRangesWrong)

/-- 'conchlaw3.SetTells': WHATEVER THE INPUT: true; the input reads as it did. -/
def setTellsSpec : ChangeSpec := { name := "setTells", fn := fun _ => fun
  | [d1, d2, d3, d4, d5] => { results := [.lit (.bool true)], args := [d1, d2, d3, d4, d5] }
  | _ => none }
def setTellsRow : OpenClaim := { program := "ytlbonbkaddeeeaa", sum := "eb53e2241ae1f416882d868b3edce177556576a5f2cd513e66b631b4dbb0e844", func := "conch/conchlaw3.SetTells", spec := "setTells", apart := false }
def SetTellsSaid : Prop := setTellsRow.holds Try.pinned (OpenSpec.ofChange setTellsSpec)

/-- ITS FALSE NEIGHBOUR: 'it returns false'. Refute it at one input. -/
def setTellsWrong : ChangeSpec := { name := "setTells", fn := fun _ => fun
  | [d1, d2, d3, d4, d5] => { results := [.lit (.bool false)], args := [d1, d2, d3, d4, d5] }
  | _ => none }
def SetTellsWrongFalsely : Prop := setTellsRow.holds Try.pinned (OpenSpec.ofChange setTellsWrong)

/-- 'conchlaw3.SetLaws': WHATEVER THE INPUT: true; the input reads as it did. -/
def setLawsSpec : ChangeSpec := { name := "setLaws", fn := fun _ => fun
  | [d1, d2, d3] => { results := [.lit (.bool true)], args := [d1, d2, d3] }
  | _ => none }
def setLawsRow : OpenClaim := { program := "ytlbonbkaddeeeaa", sum := "eb53e2241ae1f416882d868b3edce177556576a5f2cd513e66b631b4dbb0e844", func := "conch/conchlaw3.SetLaws", spec := "setLaws", apart := false }
def SetLawsSaid : Prop := setLawsRow.holds Try.pinned (OpenSpec.ofChange setLawsSpec)

/-- ITS FALSE NEIGHBOUR: 'it returns false'. Refute it at one input. -/
def setLawsWrong : ChangeSpec := { name := "setLaws", fn := fun _ => fun
  | [d1, d2, d3] => { results := [.lit (.bool false)], args := [d1, d2, d3] }
  | _ => none }
def SetLawsWrongFalsely : Prop := setLawsRow.holds Try.pinned (OpenSpec.ofChange setLawsWrong)

/-- 'conchlaw4.ShapeNone': WHATEVER THE INPUT: true; the input reads as it did. -/
def shapeNoneSpec : ChangeSpec := { name := "shapeNone", fn := fun _ => fun
  | [d1, d2, d3] => { results := [.lit (.bool true)], args := [d1, d2, d3] }
  | _ => none }
def shapeNoneRow : OpenClaim := { program := "ytlbonbkaddeeeaa", sum := "eb53e2241ae1f416882d868b3edce177556576a5f2cd513e66b631b4dbb0e844", func := "conch/conchlaw4.ShapeNone", spec := "shapeNone", inPlace := ["internal/bytealg.IndexByteString"], apart := false }
def ShapeNoneSaid : Prop := shapeNoneRow.holds Try.pinned (OpenSpec.ofChange shapeNoneSpec)

/-- ITS FALSE NEIGHBOUR: 'it returns false'. Refute it at one input. -/
def shapeNoneWrong : ChangeSpec := { name := "shapeNone", fn := fun _ => fun
  | [d1, d2, d3] => { results := [.lit (.bool false)], args := [d1, d2, d3] }
  | _ => none }
def ShapeNoneWrongFalsely : Prop := shapeNoneRow.holds Try.pinned (OpenSpec.ofChange shapeNoneWrong)

/-- 'conchlaw4.ShapeOrder': WHATEVER THE INPUT: true; the input reads as it did. -/
def shapeOrderSpec : ChangeSpec := { name := "shapeOrder", fn := fun _ => fun
  | [d1, d2, d3, d4, d5, d6] => { results := [.lit (.bool true)], args := [d1, d2, d3, d4, d5, d6] }
  | _ => none }
def shapeOrderRow : OpenClaim := { program := "ytlbonbkaddeeeaa", sum := "eb53e2241ae1f416882d868b3edce177556576a5f2cd513e66b631b4dbb0e844", func := "conch/conchlaw4.ShapeOrder", spec := "shapeOrder", inPlace := ["internal/bytealg.IndexByteString"], apart := false }
def ShapeOrderSaid : Prop := shapeOrderRow.holds Try.pinned (OpenSpec.ofChange shapeOrderSpec)

/-- ITS FALSE NEIGHBOUR: 'it returns false'. Refute it at one input. -/
def shapeOrderWrong : ChangeSpec := { name := "shapeOrder", fn := fun _ => fun
  | [d1, d2, d3, d4, d5, d6] => { results := [.lit (.bool false)], args := [d1, d2, d3, d4, d5, d6] }
  | _ => none }
def ShapeOrderWrongFalsely : Prop := shapeOrderRow.holds Try.pinned (OpenSpec.ofChange shapeOrderWrong)

/-- 'conchlaw5.AlterNumbers': WHATEVER THE INPUT: true; the input reads as it did. -/
def alterNumbersSpec : ChangeSpec := { name := "alterNumbers", fn := fun _ => fun
  | [d1, d2] => { results := [.lit (.bool true)], args := [d1, d2] }
  | _ => none }
def alterNumbersRow : OpenClaim := { program := "ytlbonbkaddeeeaa", sum := "eb53e2241ae1f416882d868b3edce177556576a5f2cd513e66b631b4dbb0e844", func := "conch/conchlaw5.AlterNumbers", spec := "alterNumbers", inPlace := ["internal/bytealg.IndexByteString"], apart := false }
def AlterNumbersSaid : Prop := alterNumbersRow.holds Try.pinned (OpenSpec.ofChange alterNumbersSpec)

/-- ITS FALSE NEIGHBOUR: 'it returns false'. Refute it at one input. -/
def alterNumbersWrong : ChangeSpec := { name := "alterNumbers", fn := fun _ => fun
  | [d1, d2] => { results := [.lit (.bool false)], args := [d1, d2] }
  | _ => none }
def AlterNumbersWrongFalsely : Prop := alterNumbersRow.holds Try.pinned (OpenSpec.ofChange alterNumbersWrong)

/-- 'conchlaw5.AlterSplits': WHATEVER THE INPUT: true; the input reads as it did. -/
def alterSplitsSpec : ChangeSpec := { name := "alterSplits", fn := fun _ => fun
  | [d1, d2, d3, d4, d5] => { results := [.lit (.bool true)], args := [d1, d2, d3, d4, d5] }
  | _ => none }
def alterSplitsRow : OpenClaim := { program := "ytlbonbkaddeeeaa", sum := "eb53e2241ae1f416882d868b3edce177556576a5f2cd513e66b631b4dbb0e844", func := "conch/conchlaw5.AlterSplits", spec := "alterSplits", inPlace := ["internal/bytealg.IndexByteString"], apart := false }
def AlterSplitsSaid : Prop := alterSplitsRow.holds Try.pinned (OpenSpec.ofChange alterSplitsSpec)

/-- ITS FALSE NEIGHBOUR: 'it returns false'. Refute it at one input. -/
def alterSplitsWrong : ChangeSpec := { name := "alterSplits", fn := fun _ => fun
  | [d1, d2, d3, d4, d5] => { results := [.lit (.bool false)], args := [d1, d2, d3, d4, d5] }
  | _ => none }
def AlterSplitsWrongFalsely : Prop := alterSplitsRow.holds Try.pinned (OpenSpec.ofChange alterSplitsWrong)

/-- 'conchlaw4.ShapeTells': WHATEVER THE INPUT: true; the input reads as it did. -/
def shapeTellsSpec : ChangeSpec := { name := "shapeTells", fn := fun _ => fun
  | [d1, d2, d3, d4] => { results := [.lit (.bool true)], args := [d1, d2, d3, d4] }
  | _ => none }
def shapeTellsRow : OpenClaim := { program := "ytlbonbkaddeeeaa", sum := "eb53e2241ae1f416882d868b3edce177556576a5f2cd513e66b631b4dbb0e844", func := "conch/conchlaw4.ShapeTells", spec := "shapeTells", inPlace := ["internal/bytealg.IndexByteString"], apart := false }
def ShapeTellsSaid : Prop := shapeTellsRow.holds Try.pinned (OpenSpec.ofChange shapeTellsSpec)

/-- ITS FALSE NEIGHBOUR: 'it returns false'. Refute it at one input. -/
def shapeTellsWrong : ChangeSpec := { name := "shapeTells", fn := fun _ => fun
  | [d1, d2, d3, d4] => { results := [.lit (.bool false)], args := [d1, d2, d3, d4] }
  | _ => none }
def ShapeTellsWrongFalsely : Prop := shapeTellsRow.holds Try.pinned (OpenSpec.ofChange shapeTellsWrong)

/-- 'conchlaw4.ShapeLits': WHATEVER THE INPUT: true; the input reads as it did. -/
def shapeLitsSpec : ChangeSpec := { name := "shapeLits", fn := fun _ => fun
  | [d1, d2] => { results := [.lit (.bool true)], args := [d1, d2] }
  | _ => none }
def shapeLitsRow : OpenClaim := { program := "ytlbonbkaddeeeaa", sum := "eb53e2241ae1f416882d868b3edce177556576a5f2cd513e66b631b4dbb0e844", func := "conch/conchlaw4.ShapeLits", spec := "shapeLits", inPlace := ["internal/bytealg.IndexByteString"], apart := false }
def ShapeLitsSaid : Prop := shapeLitsRow.holds Try.pinned (OpenSpec.ofChange shapeLitsSpec)

/-- ITS FALSE NEIGHBOUR: 'it returns false'. Refute it at one input. -/
def shapeLitsWrong : ChangeSpec := { name := "shapeLits", fn := fun _ => fun
  | [d1, d2] => { results := [.lit (.bool false)], args := [d1, d2] }
  | _ => none }
def ShapeLitsWrongFalsely : Prop := shapeLitsRow.holds Try.pinned (OpenSpec.ofChange shapeLitsWrong)

/-- 'conchlaw4.ShapeJoins': WHATEVER THE INPUT: true; the input reads as it did. -/
def shapeJoinsSpec : ChangeSpec := { name := "shapeJoins", fn := fun _ => fun
  | [d1, d2, d3, d4] => { results := [.lit (.bool true)], args := [d1, d2, d3, d4] }
  | _ => none }
def shapeJoinsRow : OpenClaim := { program := "ytlbonbkaddeeeaa", sum := "eb53e2241ae1f416882d868b3edce177556576a5f2cd513e66b631b4dbb0e844", func := "conch/conchlaw4.ShapeJoins", spec := "shapeJoins", inPlace := ["internal/bytealg.IndexByteString"], apart := false }
def ShapeJoinsSaid : Prop := shapeJoinsRow.holds Try.pinned (OpenSpec.ofChange shapeJoinsSpec)

/-- ITS FALSE NEIGHBOUR: 'it returns false'. Refute it at one input. -/
def shapeJoinsWrong : ChangeSpec := { name := "shapeJoins", fn := fun _ => fun
  | [d1, d2, d3, d4] => { results := [.lit (.bool false)], args := [d1, d2, d3, d4] }
  | _ => none }
def ShapeJoinsWrongFalsely : Prop := shapeJoinsRow.holds Try.pinned (OpenSpec.ofChange shapeJoinsWrong)

/-- 'conchlaw5.AlterTells': WHATEVER THE INPUT: true; the input reads as it did. -/
def alterTellsSpec : ChangeSpec := { name := "alterTells", fn := fun _ => fun
  | [d1, d2, d3, d4] => { results := [.lit (.bool true)], args := [d1, d2, d3, d4] }
  | _ => none }
def alterTellsRow : OpenClaim := { program := "ytlbonbkaddeeeaa", sum := "eb53e2241ae1f416882d868b3edce177556576a5f2cd513e66b631b4dbb0e844", func := "conch/conchlaw5.AlterTells", spec := "alterTells", inPlace := ["internal/bytealg.IndexByteString"], apart := false }
def AlterTellsSaid : Prop := alterTellsRow.holds Try.pinned (OpenSpec.ofChange alterTellsSpec)

/-- ITS FALSE NEIGHBOUR: 'it returns false'. Refute it at one input. -/
def alterTellsWrong : ChangeSpec := { name := "alterTells", fn := fun _ => fun
  | [d1, d2, d3, d4] => { results := [.lit (.bool false)], args := [d1, d2, d3, d4] }
  | _ => none }
def AlterTellsWrongFalsely : Prop := alterTellsRow.holds Try.pinned (OpenSpec.ofChange alterTellsWrong)

/-- 'conchlaw5.AlterSound': WHATEVER THE INPUT: true; the input reads as it did. -/
def alterSoundSpec : ChangeSpec := { name := "alterSound", fn := fun _ => fun
  | [d1, d2, d3, d4, d5, d6, d7, d8] => { results := [.lit (.bool true)], args := [d1, d2, d3, d4, d5, d6, d7, d8] }
  | _ => none }
def alterSoundRow : OpenClaim := { program := "ytlbonbkaddeeeaa", sum := "eb53e2241ae1f416882d868b3edce177556576a5f2cd513e66b631b4dbb0e844", func := "conch/conchlaw5.AlterSound", spec := "alterSound", inPlace := ["internal/bytealg.IndexByteString"], apart := false }
def AlterSoundSaid : Prop := alterSoundRow.holds Try.pinned (OpenSpec.ofChange alterSoundSpec)

/-- ITS FALSE NEIGHBOUR: 'it returns false'. Refute it at one input. -/
def alterSoundWrong : ChangeSpec := { name := "alterSound", fn := fun _ => fun
  | [d1, d2, d3, d4, d5, d6, d7, d8] => { results := [.lit (.bool false)], args := [d1, d2, d3, d4, d5, d6, d7, d8] }
  | _ => none }
def AlterSoundWrongFalsely : Prop := alterSoundRow.holds Try.pinned (OpenSpec.ofChange alterSoundWrong)

/-- 'conchlaw5.AlterRises': WHATEVER THE INPUT: true; the input reads as it did. -/
def alterRisesSpec : ChangeSpec := { name := "alterRises", fn := fun _ => fun
  | [d1, d2, d3, d4, d5] => { results := [.lit (.bool true)], args := [d1, d2, d3, d4, d5] }
  | _ => none }
def alterRisesRow : OpenClaim := { program := "ytlbonbkaddeeeaa", sum := "eb53e2241ae1f416882d868b3edce177556576a5f2cd513e66b631b4dbb0e844", func := "conch/conchlaw5.AlterRises", spec := "alterRises", inPlace := ["internal/bytealg.IndexByteString"], apart := false }
def AlterRisesSaid : Prop := alterRisesRow.holds Try.pinned (OpenSpec.ofChange alterRisesSpec)

/-- ITS FALSE NEIGHBOUR: 'it returns false'. Refute it at one input. -/
def alterRisesWrong : ChangeSpec := { name := "alterRises", fn := fun _ => fun
  | [d1, d2, d3, d4, d5] => { results := [.lit (.bool false)], args := [d1, d2, d3, d4, d5] }
  | _ => none }
def AlterRisesWrongFalsely : Prop := alterRisesRow.holds Try.pinned (OpenSpec.ofChange alterRisesWrong)

/- THE SECOND FORM. 'bulk': how many values and letters a reading holds, each counted each time it is reached (what is shared counts as often as it is met; a slice's spare places count too). A statement '..UptoSaid' is the law's where the arguments, and the package variables that the reading takes, are together of bulk at most 1048576: NARROWER than '..Said'. Prove '..Said' where nothing that the law and all that it calls make is longer than what came in: it says more and counts as full. Else prove '..UptoSaid'. A law counts once. -/
mutual
def uptoBulk {H : Type} : DataW H → Nat
  | .lit (.string bytes) => bytes.length + 1
  | .lit _ => 1
  | .nil => 1
  | .ptr d => uptoBulk d + 1
  | .slice elems spare => uptoBulkAll elems + uptoBulkAll spare + 1
  | .agg parts => uptoBulkAll parts + 1
  | .iface _ d => uptoBulk d + 1
  | .map entries => uptoBulkEntries entries + 1
  | .held _ => 1
def uptoBulkAll {H : Type} : List (DataW H) → Nat
  | [] => 0
  | d :: r => uptoBulk d + uptoBulkAll r
def uptoBulkEntries {H : Type} : List (Lit × DataW H) → Nat
  | [] => 0
  | x :: r => uptoBulkEntry x + uptoBulkEntries r
def uptoBulkEntry {H : Type} : Lit × DataW H → Nat
  | (.string bytes, d) => bytes.length + uptoBulk d + 1
  | (_, d) => uptoBulk d + 1
 end
def uptoSmall : (H : Type) → List (DataW H) → Bool := fun _ ds => decide (uptoBulkAll ds ≤ 1048576)
def OpenSpec.upto (s : _root_.Go.ChangeSpec) : _root_.Go.OpenSpec := { _root_.Go.OpenSpec.ofChange s with cond := some uptoSmall }

/-- 'conchlaw3.SetBytes', WHERE WHAT IT READS IS OF BULK AT MOST 1048576: true; the input reads as it did. -/
def setBytesUptoRow : OpenClaim := { program := "ytlbonbkaddeeeaa", sum := "eb53e2241ae1f416882d868b3edce177556576a5f2cd513e66b631b4dbb0e844", func := "conch/conchlaw3.SetBytes", spec := "setBytes", apart := false, narrowed := true }
def SetBytesUptoSaid : Prop := setBytesUptoRow.holds Try.pinned (OpenSpec.upto setBytesSpec)

/-- 'conchlaw3.SetRanges', WHERE WHAT IT READS IS OF BULK AT MOST 1048576: true; the input reads as it did. -/
def setRangesUptoRow : OpenClaim := { program := "ytlbonbkaddeeeaa", sum := "eb53e2241ae1f416882d868b3edce177556576a5f2cd513e66b631b4dbb0e844", func := "conch/conchlaw3.SetRanges", spec := "setRanges", apart := false, narrowed := true }
def SetRangesUptoSaid : Prop := setRangesUptoRow.holds Try.pinned (OpenSpec.upto setRangesSpec)

/-- 'conchlaw3.SetTells', WHERE WHAT IT READS IS OF BULK AT MOST 1048576: true; the input reads as it did. -/
def setTellsUptoRow : OpenClaim := { program := "ytlbonbkaddeeeaa", sum := "eb53e2241ae1f416882d868b3edce177556576a5f2cd513e66b631b4dbb0e844", func := "conch/conchlaw3.SetTells", spec := "setTells", apart := false, narrowed := true }
def SetTellsUptoSaid : Prop := setTellsUptoRow.holds Try.pinned (OpenSpec.upto setTellsSpec)

/-- 'conchlaw3.SetLaws', WHERE WHAT IT READS IS OF BULK AT MOST 1048576: true; the input reads as it did. -/
def setLawsUptoRow : OpenClaim := { program := "ytlbonbkaddeeeaa", sum := "eb53e2241ae1f416882d868b3edce177556576a5f2cd513e66b631b4dbb0e844", func := "conch/conchlaw3.SetLaws", spec := "setLaws", apart := false, narrowed := true }
def SetLawsUptoSaid : Prop := setLawsUptoRow.holds Try.pinned (OpenSpec.upto setLawsSpec)

/-- 'conchlaw4.ShapeNone', WHERE WHAT IT READS IS OF BULK AT MOST 1048576: true; the input reads as it did. -/
def shapeNoneUptoRow : OpenClaim := { program := "ytlbonbkaddeeeaa", sum := "eb53e2241ae1f416882d868b3edce177556576a5f2cd513e66b631b4dbb0e844", func := "conch/conchlaw4.ShapeNone", spec := "shapeNone", inPlace := ["internal/bytealg.IndexByteString"], apart := false, narrowed := true }
def ShapeNoneUptoSaid : Prop := shapeNoneUptoRow.holds Try.pinned (OpenSpec.upto shapeNoneSpec)

/-- 'conchlaw4.ShapeOrder', WHERE WHAT IT READS IS OF BULK AT MOST 1048576: true; the input reads as it did. -/
def shapeOrderUptoRow : OpenClaim := { program := "ytlbonbkaddeeeaa", sum := "eb53e2241ae1f416882d868b3edce177556576a5f2cd513e66b631b4dbb0e844", func := "conch/conchlaw4.ShapeOrder", spec := "shapeOrder", inPlace := ["internal/bytealg.IndexByteString"], apart := false, narrowed := true }
def ShapeOrderUptoSaid : Prop := shapeOrderUptoRow.holds Try.pinned (OpenSpec.upto shapeOrderSpec)

/-- 'conchlaw5.AlterNumbers', WHERE WHAT IT READS IS OF BULK AT MOST 1048576: true; the input reads as it did. -/
def alterNumbersUptoRow : OpenClaim := { program := "ytlbonbkaddeeeaa", sum := "eb53e2241ae1f416882d868b3edce177556576a5f2cd513e66b631b4dbb0e844", func := "conch/conchlaw5.AlterNumbers", spec := "alterNumbers", inPlace := ["internal/bytealg.IndexByteString"], apart := false, narrowed := true }
def AlterNumbersUptoSaid : Prop := alterNumbersUptoRow.holds Try.pinned (OpenSpec.upto alterNumbersSpec)

/-- 'conchlaw5.AlterSplits', WHERE WHAT IT READS IS OF BULK AT MOST 1048576: true; the input reads as it did. -/
def alterSplitsUptoRow : OpenClaim := { program := "ytlbonbkaddeeeaa", sum := "eb53e2241ae1f416882d868b3edce177556576a5f2cd513e66b631b4dbb0e844", func := "conch/conchlaw5.AlterSplits", spec := "alterSplits", inPlace := ["internal/bytealg.IndexByteString"], apart := false, narrowed := true }
def AlterSplitsUptoSaid : Prop := alterSplitsUptoRow.holds Try.pinned (OpenSpec.upto alterSplitsSpec)

/-- 'conchlaw4.ShapeTells', WHERE WHAT IT READS IS OF BULK AT MOST 1048576: true; the input reads as it did. -/
def shapeTellsUptoRow : OpenClaim := { program := "ytlbonbkaddeeeaa", sum := "eb53e2241ae1f416882d868b3edce177556576a5f2cd513e66b631b4dbb0e844", func := "conch/conchlaw4.ShapeTells", spec := "shapeTells", inPlace := ["internal/bytealg.IndexByteString"], apart := false, narrowed := true }
def ShapeTellsUptoSaid : Prop := shapeTellsUptoRow.holds Try.pinned (OpenSpec.upto shapeTellsSpec)

/-- 'conchlaw4.ShapeLits', WHERE WHAT IT READS IS OF BULK AT MOST 1048576: true; the input reads as it did. -/
def shapeLitsUptoRow : OpenClaim := { program := "ytlbonbkaddeeeaa", sum := "eb53e2241ae1f416882d868b3edce177556576a5f2cd513e66b631b4dbb0e844", func := "conch/conchlaw4.ShapeLits", spec := "shapeLits", inPlace := ["internal/bytealg.IndexByteString"], apart := false, narrowed := true }
def ShapeLitsUptoSaid : Prop := shapeLitsUptoRow.holds Try.pinned (OpenSpec.upto shapeLitsSpec)

/-- 'conchlaw4.ShapeJoins', WHERE WHAT IT READS IS OF BULK AT MOST 1048576: true; the input reads as it did. -/
def shapeJoinsUptoRow : OpenClaim := { program := "ytlbonbkaddeeeaa", sum := "eb53e2241ae1f416882d868b3edce177556576a5f2cd513e66b631b4dbb0e844", func := "conch/conchlaw4.ShapeJoins", spec := "shapeJoins", inPlace := ["internal/bytealg.IndexByteString"], apart := false, narrowed := true }
def ShapeJoinsUptoSaid : Prop := shapeJoinsUptoRow.holds Try.pinned (OpenSpec.upto shapeJoinsSpec)

/-- 'conchlaw5.AlterTells', WHERE WHAT IT READS IS OF BULK AT MOST 1048576: true; the input reads as it did. -/
def alterTellsUptoRow : OpenClaim := { program := "ytlbonbkaddeeeaa", sum := "eb53e2241ae1f416882d868b3edce177556576a5f2cd513e66b631b4dbb0e844", func := "conch/conchlaw5.AlterTells", spec := "alterTells", inPlace := ["internal/bytealg.IndexByteString"], apart := false, narrowed := true }
def AlterTellsUptoSaid : Prop := alterTellsUptoRow.holds Try.pinned (OpenSpec.upto alterTellsSpec)

/-- 'conchlaw5.AlterSound', WHERE WHAT IT READS IS OF BULK AT MOST 1048576: true; the input reads as it did. -/
def alterSoundUptoRow : OpenClaim := { program := "ytlbonbkaddeeeaa", sum := "eb53e2241ae1f416882d868b3edce177556576a5f2cd513e66b631b4dbb0e844", func := "conch/conchlaw5.AlterSound", spec := "alterSound", inPlace := ["internal/bytealg.IndexByteString"], apart := false, narrowed := true }
def AlterSoundUptoSaid : Prop := alterSoundUptoRow.holds Try.pinned (OpenSpec.upto alterSoundSpec)

/-- 'conchlaw5.AlterRises', WHERE WHAT IT READS IS OF BULK AT MOST 1048576: true; the input reads as it did. -/
def alterRisesUptoRow : OpenClaim := { program := "ytlbonbkaddeeeaa", sum := "eb53e2241ae1f416882d868b3edce177556576a5f2cd513e66b631b4dbb0e844", func := "conch/conchlaw5.AlterRises", spec := "alterRises", inPlace := ["internal/bytealg.IndexByteString"], apart := false, narrowed := true }
def AlterRisesUptoSaid : Prop := alterRisesUptoRow.holds Try.pinned (OpenSpec.upto alterRisesSpec)

end Rows
end Go.Proofs.Ytlbonbkaddeeeaa
