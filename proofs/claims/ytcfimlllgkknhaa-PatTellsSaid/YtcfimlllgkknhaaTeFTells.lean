import Derived.Test.YtcfimlllgkknhaaTeAll
import Derived.Test.YtcfimlllgkknhaaTlC
namespace Go.Proofs.Ytcfimlllgkknhaa.Mt
open Go.RowKit Go.Eng Go.Ev Go.Proofs.Ytcfimlllgkknhaa.PPatTells Go.Proofs.YtcfimlllgkknhaaW.PrintWords Go.Proofs.YtcfimlllgkknhaaW.PrintLast
set_option linter.unusedSimpArgs false
set_option linter.unusedVariables false
theorem law_all (fr lg : Bool) : Law fr lg := fun s L t hs ht => by
  obtain ⟨m, a, c, h⟩ := same_all s hs L t ht fr lg
  exact ⟨m, a, c, h.m1, h.m2, h.a1, h.a2, h.c1, h.c2⟩
theorem few_all : Few := fun s hs => by
  obtain ⟨r, h1, h2⟩ := tame_end s (by omega)
  obtain ⟨q, g1, g2⟩ := letters_end s (by omega)
  exact ⟨⟨r, by omega, h2.ex⟩, ⟨q, by omega, g2.ex⟩, (raw_end s (by omega)).ex⟩
theorem tells_law (s : ByteArray) (A : Option Addr) (L : List Bool) (c : Nat) (_ : s.size ≤ 9223372036854775807) (hc : L.length ≤ c) (t : ByteArray) (fr lg : Bool) (w : World) (hC : Kd.C Kd.bool w A L.length L) :
    Calls Try.prog 4 #[.agg #[.string s, .slice A L.length c], .string t, .bool fr, .bool lg] w fun e w' => e = .returned (.bool true) ∧ Below w.heap.size w w' :=
  tells_walk s A L c t fr lg hc hC.2.1 (law_all fr lg) few_all awake_end.ex w hC
end Go.Proofs.Ytcfimlllgkknhaa.Mt

