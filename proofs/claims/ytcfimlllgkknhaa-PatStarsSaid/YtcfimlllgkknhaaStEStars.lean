import Derived.Test.YtcfimlllgkknhaaStDStars
/-
PatStars walked at any texts.
-/
namespace Go.Proofs.Ytcfimlllgkknhaa.Mt
open Go.RowKit Go.Eng Go.Ev Go.Proofs.Ytcfimlllgkknhaa.PPatStars Go.Proofs.YtcfimlllgkknhaaW.PrintWords Go.Proofs.YtcfimlllgkknhaaW.PrintLast
set_option linter.unusedSimpArgs false
set_option linter.unusedVariables false
set_option maxRecDepth 100000 in
theorem stars_walk (a b m : ByteArray) (w : World) : Calls Try.prog 8 #[.string a, .string b, .string m] w fun e w' => e = .returned (.bool true) ∧ Below w.heap.size w w' := by
  have hw : PureAt Try.prog w 9 #[] (.bool true) := awake_at awake_end.ex
  by_cases h1 : (60 : Int) < (a.size : Int)
  · exact calls_of_run mixed (args := [.string a, .string b, .string m]) (v := .bool true) 10 w [(11, GT .i64 3 (a.size : Int) 60 (decide_eq_true h1)), (22, C hw)] (by kernel_rfl)
  by_cases h2 : (60 : Int) < (b.size : Int)
  · exact calls_of_run mixed (args := [.string a, .string b, .string m]) (v := .bool true) 10 w [(11, GT .i64 3 (a.size : Int) 60 (decide_eq_false h1)), (15, GT .i64 3 (b.size : Int) 60 (decide_eq_true h2)), (22, C hw)] (by kernel_rfl)
  by_cases h3 : (60 : Int) < (m.size : Int)
  · exact calls_of_run mixed (args := [.string a, .string b, .string m]) (v := .bool true) 10 w [(11, GT .i64 3 (a.size : Int) 60 (decide_eq_false h1)), (15, GT .i64 3 (b.size : Int) 60 (decide_eq_false h2)), (20, GT .i64 3 (m.size : Int) 60 (decide_eq_true h3)), (22, C hw)] (by kernel_rfl)
  have ha : a.size ≤ 60 := by omega
  have hb : b.size ≤ 60 := by omega
  have hm : m.size ≤ 60 := by omega
  exact region7 w a b m ha hb hm (rest8 w a b m _ _ _ ha hb hm (by omega) (asked a b m ha hb hm))
end Go.Proofs.Ytcfimlllgkknhaa.Mt
