/-
  No cell of these rows narrows 'for every input' (looked for: loops, veiled, ifaces, maps, wideKeys, modest, calm, conditions, laid).
  DERIVED. THE GIVEN ROWS OF THIS SEAT. 6 by the template 'for every input the law returns true; each argument reads behind the call as it read before'; 0 by the template 'total and deterministic' (their statements: YtcfimlllgkknhaaTotals.lean).
  GIVEN WITH THE SEED: the statements are not yours to turn. If you find one false, say at which input.
  Laid BY PROGRAM, IN A SANDBOX (cutbox-rows.mjs): the forced cells as the released guide's own fill.sh prints them over the translation 680253c44d1cefd1… (all of the seat's roots in one cut). By AI agents, Wed Nov 11 2026. No macro, syntax, notation, axiom, sorry.
-/
import Derived.Test.YtcfimlllgkknhaaChecked
import GoSem.Claim
import GoSem.ClaimJoined
import GoSem.ClaimMapViews
import Derived.JoinedTies
import Derived.KernelRfl
namespace Go.Proofs.Ytcfimlllgkknhaa
/- THE CELL 'sum', in the pinned program and in every row, IS THE sha256 OF THE DUMP (.gsa) THAT YtcfimlllgkknhaaProg.lean LOADS. Nothing in Lean hashes anything: it is a label: what it is worth is what the hold of that sum in a sandbox is worth. -/
noncomputable def Try.pinned : Pinned := { name := "ytcfimlllgkknhaa", sum := "680253c44d1cefd1ea33684e1af1578c791b6edd377aa80e7d481c6071587efc", checked := Try.checked }
namespace Rows
def none {H : Type} : Left H := { results := [], args := [] }

/-- 'conchlaw6.PatLive': WHATEVER THE INPUT: true; the input reads as it did. -/
def patLiveSpec : ChangeSpec := { name := "patLive", fn := fun _ => fun
  | [d1, d2, d3, d4] => { results := [.lit (.bool true)], args := [d1, d2, d3, d4] }
  | _ => none }
def patLiveRow : OpenClaim := { program := "ytcfimlllgkknhaa", sum := "680253c44d1cefd1ea33684e1af1578c791b6edd377aa80e7d481c6071587efc", func := "conch/conchlaw6.PatLive", spec := "patLive", apart := false }
def PatLiveSaid : Prop := patLiveRow.holds Try.pinned (OpenSpec.ofChange patLiveSpec)

/-- ITS FALSE NEIGHBOUR: 'it returns false'. Refute it at one input. -/
def patLiveWrong : ChangeSpec := { name := "patLive", fn := fun _ => fun
  | [d1, d2, d3, d4] => { results := [.lit (.bool false)], args := [d1, d2, d3, d4] }
  | _ => none }
def PatLiveWrongFalsely : Prop := patLiveRow.holds Try.pinned (OpenSpec.ofChange patLiveWrong)

/-- 'conchlaw6.PatTells': WHATEVER THE INPUT: true; the input reads as it did. -/
def patTellsSpec : ChangeSpec := { name := "patTells", fn := fun _ => fun
  | [d1, d2, d3, d4] => { results := [.lit (.bool true)], args := [d1, d2, d3, d4] }
  | _ => none }
def patTellsRow : OpenClaim := { program := "ytcfimlllgkknhaa", sum := "680253c44d1cefd1ea33684e1af1578c791b6edd377aa80e7d481c6071587efc", func := "conch/conchlaw6.PatTells", spec := "patTells", apart := false }
def PatTellsSaid : Prop := patTellsRow.holds Try.pinned (OpenSpec.ofChange patTellsSpec)

/-- ITS FALSE NEIGHBOUR: 'it returns false'. Refute it at one input. -/
def patTellsWrong : ChangeSpec := { name := "patTells", fn := fun _ => fun
  | [d1, d2, d3, d4] => { results := [.lit (.bool false)], args := [d1, d2, d3, d4] }
  | _ => none }
def PatTellsWrongFalsely : Prop := patTellsRow.holds Try.pinned (OpenSpec.ofChange patTellsWrong)

/-- 'conchlaw6.PatBrackets': WHATEVER THE INPUT: true; the input reads as it did. -/
def patBracketsSpec : ChangeSpec := { name := "patBrackets", fn := fun _ => fun
  | [d1, d2, d3, d4] => { results := [.lit (.bool true)], args := [d1, d2, d3, d4] }
  | _ => none }
def patBracketsRow : OpenClaim := { program := "ytcfimlllgkknhaa", sum := "680253c44d1cefd1ea33684e1af1578c791b6edd377aa80e7d481c6071587efc", func := "conch/conchlaw6.PatBrackets", spec := "patBrackets", apart := false }
def PatBracketsSaid : Prop := patBracketsRow.holds Try.pinned (OpenSpec.ofChange patBracketsSpec)

/-- ITS FALSE NEIGHBOUR: 'it returns false'. Refute it at one input. -/
def patBracketsWrong : ChangeSpec := { name := "patBrackets", fn := fun _ => fun
  | [d1, d2, d3, d4] => { results := [.lit (.bool false)], args := [d1, d2, d3, d4] }
  | _ => none }
def PatBracketsWrongFalsely : Prop := patBracketsRow.holds Try.pinned (OpenSpec.ofChange patBracketsWrong)

/-- 'conchlaw6.PatCuts': WHATEVER THE INPUT: true; the input reads as it did. -/
def patCutsSpec : ChangeSpec := { name := "patCuts", fn := fun _ => fun
  | [d1, d2] => { results := [.lit (.bool true)], args := [d1, d2] }
  | _ => none }
def patCutsRow : OpenClaim := { program := "ytcfimlllgkknhaa", sum := "680253c44d1cefd1ea33684e1af1578c791b6edd377aa80e7d481c6071587efc", func := "conch/conchlaw6.PatCuts", spec := "patCuts", apart := false }
def PatCutsSaid : Prop := patCutsRow.holds Try.pinned (OpenSpec.ofChange patCutsSpec)

/-- ITS FALSE NEIGHBOUR: 'it returns false'. Refute it at one input. -/
def patCutsWrong : ChangeSpec := { name := "patCuts", fn := fun _ => fun
  | [d1, d2] => { results := [.lit (.bool false)], args := [d1, d2] }
  | _ => none }
def PatCutsWrongFalsely : Prop := patCutsRow.holds Try.pinned (OpenSpec.ofChange patCutsWrong)

/-- 'conchlaw6.PatPlain': WHATEVER THE INPUT: true; the input reads as it did. -/
def patPlainSpec : ChangeSpec := { name := "patPlain", fn := fun _ => fun
  | [d1, d2, d3] => { results := [.lit (.bool true)], args := [d1, d2, d3] }
  | _ => none }
def patPlainRow : OpenClaim := { program := "ytcfimlllgkknhaa", sum := "680253c44d1cefd1ea33684e1af1578c791b6edd377aa80e7d481c6071587efc", func := "conch/conchlaw6.PatPlain", spec := "patPlain", apart := false }
def PatPlainSaid : Prop := patPlainRow.holds Try.pinned (OpenSpec.ofChange patPlainSpec)

/-- ITS FALSE NEIGHBOUR: 'it returns false'. Refute it at one input. -/
def patPlainWrong : ChangeSpec := { name := "patPlain", fn := fun _ => fun
  | [d1, d2, d3] => { results := [.lit (.bool false)], args := [d1, d2, d3] }
  | _ => none }
def PatPlainWrongFalsely : Prop := patPlainRow.holds Try.pinned (OpenSpec.ofChange patPlainWrong)

/-- 'conchlaw6.PatStars': WHATEVER THE INPUT: true; the input reads as it did. -/
def patStarsSpec : ChangeSpec := { name := "patStars", fn := fun _ => fun
  | [d1, d2, d3] => { results := [.lit (.bool true)], args := [d1, d2, d3] }
  | _ => none }
def patStarsRow : OpenClaim := { program := "ytcfimlllgkknhaa", sum := "680253c44d1cefd1ea33684e1af1578c791b6edd377aa80e7d481c6071587efc", func := "conch/conchlaw6.PatStars", spec := "patStars", apart := false }
def PatStarsSaid : Prop := patStarsRow.holds Try.pinned (OpenSpec.ofChange patStarsSpec)

/-- ITS FALSE NEIGHBOUR: 'it returns false'. Refute it at one input. -/
def patStarsWrong : ChangeSpec := { name := "patStars", fn := fun _ => fun
  | [d1, d2, d3] => { results := [.lit (.bool false)], args := [d1, d2, d3] }
  | _ => none }
def PatStarsWrongFalsely : Prop := patStarsRow.holds Try.pinned (OpenSpec.ofChange patStarsWrong)

/- THE SECOND FORM. 'bulk': how many values and letters a reading holds, each counted each time it is reached (what is shared counts as often as it is met; a slice's spare places count too). A statement '..UptoSaid' is the law's where the arguments, and the package variables that the reading takes, are together of bulk at most 1048576: NARROWER than '..Said'. Prove '..Said' where nothing that the law and all that it calls make is longer than what came in: it says more and counts as full. Else prove '..UptoSaid'. A law counts once. -/
mutual
def uptoBulk {H : Type} : DataW H → Nat
  | .lit (.string bytes) => bytes.length + 1
  | .lit _ => 1
  | .nil => 1
  | .ptr d => uptoBulk d + 1
  | .slice elems spare => uptoBulkAll elems + uptoBulkAll spare + 1
  | .agg parts => uptoBulkAll parts + 1
  | .iface _ d => uptoBulk d + 1
  | .map entries => uptoBulkEntries entries + 1
  | .held _ => 1
def uptoBulkAll {H : Type} : List (DataW H) → Nat
  | [] => 0
  | d :: r => uptoBulk d + uptoBulkAll r
def uptoBulkEntries {H : Type} : List (Lit × DataW H) → Nat
  | [] => 0
  | x :: r => uptoBulkEntry x + uptoBulkEntries r
def uptoBulkEntry {H : Type} : Lit × DataW H → Nat
  | (.string bytes, d) => bytes.length + uptoBulk d + 1
  | (_, d) => uptoBulk d + 1
 end
def uptoSmall : (H : Type) → List (DataW H) → Bool := fun _ ds => decide (uptoBulkAll ds ≤ 1048576)
def OpenSpec.upto (s : _root_.Go.ChangeSpec) : _root_.Go.OpenSpec := { _root_.Go.OpenSpec.ofChange s with cond := some uptoSmall }

/-- 'conchlaw6.PatLive', WHERE WHAT IT READS IS OF BULK AT MOST 1048576: true; the input reads as it did. -/
def patLiveUptoRow : OpenClaim := { program := "ytcfimlllgkknhaa", sum := "680253c44d1cefd1ea33684e1af1578c791b6edd377aa80e7d481c6071587efc", func := "conch/conchlaw6.PatLive", spec := "patLive", apart := false, narrowed := true }
def PatLiveUptoSaid : Prop := patLiveUptoRow.holds Try.pinned (OpenSpec.upto patLiveSpec)

/-- 'conchlaw6.PatTells', WHERE WHAT IT READS IS OF BULK AT MOST 1048576: true; the input reads as it did. -/
def patTellsUptoRow : OpenClaim := { program := "ytcfimlllgkknhaa", sum := "680253c44d1cefd1ea33684e1af1578c791b6edd377aa80e7d481c6071587efc", func := "conch/conchlaw6.PatTells", spec := "patTells", apart := false, narrowed := true }
def PatTellsUptoSaid : Prop := patTellsUptoRow.holds Try.pinned (OpenSpec.upto patTellsSpec)

/-- 'conchlaw6.PatBrackets', WHERE WHAT IT READS IS OF BULK AT MOST 1048576: true; the input reads as it did. -/
def patBracketsUptoRow : OpenClaim := { program := "ytcfimlllgkknhaa", sum := "680253c44d1cefd1ea33684e1af1578c791b6edd377aa80e7d481c6071587efc", func := "conch/conchlaw6.PatBrackets", spec := "patBrackets", apart := false, narrowed := true }
def PatBracketsUptoSaid : Prop := patBracketsUptoRow.holds Try.pinned (OpenSpec.upto patBracketsSpec)

/-- 'conchlaw6.PatCuts', WHERE WHAT IT READS IS OF BULK AT MOST 1048576: true; the input reads as it did. -/
def patCutsUptoRow : OpenClaim := { program := "ytcfimlllgkknhaa", sum := "680253c44d1cefd1ea33684e1af1578c791b6edd377aa80e7d481c6071587efc", func := "conch/conchlaw6.PatCuts", spec := "patCuts", apart := false, narrowed := true }
def PatCutsUptoSaid : Prop := patCutsUptoRow.holds Try.pinned (OpenSpec.upto patCutsSpec)

/-- 'conchlaw6.PatPlain', WHERE WHAT IT READS IS OF BULK AT MOST 1048576: true; the input reads as it did. -/
def patPlainUptoRow : OpenClaim := { program := "ytcfimlllgkknhaa", sum := "680253c44d1cefd1ea33684e1af1578c791b6edd377aa80e7d481c6071587efc", func := "conch/conchlaw6.PatPlain", spec := "patPlain", apart := false, narrowed := true }
def PatPlainUptoSaid : Prop := patPlainUptoRow.holds Try.pinned (OpenSpec.upto patPlainSpec)

/-- 'conchlaw6.PatStars', WHERE WHAT IT READS IS OF BULK AT MOST 1048576: true; the input reads as it did. -/
def patStarsUptoRow : OpenClaim := { program := "ytcfimlllgkknhaa", sum := "680253c44d1cefd1ea33684e1af1578c791b6edd377aa80e7d481c6071587efc", func := "conch/conchlaw6.PatStars", spec := "patStars", apart := false, narrowed := true }
def PatStarsUptoSaid : Prop := patStarsUptoRow.holds Try.pinned (OpenSpec.upto patStarsSpec)

end Rows
end Go.Proofs.Ytcfimlllgkknhaa
