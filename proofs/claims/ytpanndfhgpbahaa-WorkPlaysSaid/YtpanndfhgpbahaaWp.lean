/-
  WorkPlays, at any two slices.
-/
import Derived.Test.YtpanndfhgpbahaaWo
set_option linter.unusedSimpArgs false
set_option linter.unusedVariables false
namespace Go.Proofs.Ytpanndfhgpbahaa
open Go.RowKit
set_option maxHeartbeats 2000000 in
set_option maxRecDepth 100000 in
theorem plays_long (w : World) (A : Option Addr) (n c : Nat) (A2 : Option Addr) (n2 c2 : Nat) (hn : ¬ n ≤ 60) : Calls Try.prog 3 #[.slice A n c, .slice A2 n2 c2] w fun e w' => e = .returned (.bool true) ∧ Below w.heap.size w w' := by
  have hz0 : (60 : Int) < (n : Int) := by omega
  have P3 := Aside0.mk (awake_st w)
  go_enter Try.func3, Try.ntmps3
  go_wp2_with (first | (go_at_call 5; (with_reducible refine P3.out.mono ?_); rintro e w3 ⟨rfl, hb3⟩; have HB3 := Aside0.mk hb3; clear hb3))
  go_ret
  exact ⟨rfl, HB3.out⟩
theorem plays_walk (w : World) (A : Option Addr) (n c : Nat) (xs : Nat → Int) (hx : Ints w A n xs) (hr : ∀ i, i < n → InR (xs i)) (A2 : Option Addr) (n2 c2 : Nat) (ys : Nat → Int) (hy : Ints w A2 n2 ys) (hry : ∀ i, i < n2 → InR (ys i)) :
    Calls Try.prog 3 #[.slice A n c, .slice A2 n2 c2] w fun e w' => e = .returned (.bool true) ∧ Below w.heap.size w w' := by
  by_cases hn : n ≤ 60
  · exact plays_calls w A n c xs hx hr hn A2 n2 c2 ys hy hry
  · exact plays_long w A n c A2 n2 c2 hn
end Go.Proofs.Ytpanndfhgpbahaa
