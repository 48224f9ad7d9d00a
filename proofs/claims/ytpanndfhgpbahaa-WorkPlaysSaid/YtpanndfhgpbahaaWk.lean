/-
  WorkSorts, at any slice.
-/
import Derived.Test.YtpanndfhgpbahaaWj
set_option linter.unusedSimpArgs false
set_option linter.unusedVariables false
namespace Go.Proofs.Ytpanndfhgpbahaa
open Go.RowKit
set_option maxHeartbeats 2000000 in
set_option maxRecDepth 100000 in
theorem sorts_long (w : World) (A : Option Addr) (n c : Nat) (hn : ¬ n ≤ 200) : Calls Try.prog 4 #[.slice A n c] w fun e w' => e = .returned (.bool true) ∧ Below w.heap.size w w' := by
  have hz0 : (200 : Int) < (n : Int) := by omega
  have P3 := Aside0.mk (awake_st w)
  go_enter Try.func4, Try.ntmps4
  go_wp2_with (first | (go_at_call 5; (with_reducible refine P3.out.mono ?_); rintro e w3 ⟨rfl, hb3⟩; have HB3 := Aside0.mk hb3; clear hb3))
  go_ret
  exact ⟨rfl, HB3.out⟩
theorem sorts_walk (w : World) (A : Option Addr) (n c : Nat) (xs : Nat → Int) (hx : Ints w A n xs) (hr : ∀ i, i < n → InR (xs i)) :
    Calls Try.prog 4 #[.slice A n c] w fun e w' => e = .returned (.bool true) ∧ Below w.heap.size w w' := by
  by_cases hn : n ≤ 200
  · exact sorts_calls w A n c xs hx hr hn
  · exact sorts_long w A n c hn
end Go.Proofs.Ytpanndfhgpbahaa
