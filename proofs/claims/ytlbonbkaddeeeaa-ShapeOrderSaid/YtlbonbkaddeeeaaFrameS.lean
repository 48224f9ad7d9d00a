/-
  A shape that came in as an argument.
-/
import Derived.Test.YtlbonbkaddeeeaaFrame
import Derived.Test.YtlbonbkaddeeeaaShapes
namespace Go.Proofs.Ytlbonbkaddeeeaa
open Go.ChangeShapes Go.WideShapes Go.ChangeAt Go.RowKit Go.Conch
set_option linter.unusedSimpArgs false
set_option linter.unusedVariables false

theorem Try.cells39 : Try.prog.cellsOf 39 = 8 := by kernel_rfl
theorem Try.cells4 : Try.prog.cellsOf 4 = 1 := by kernel_rfl
theorem Try.cells9 : Try.prog.cellsOf 9 = 1 := by kernel_rfl

section
variable {H : Type} {enc : TypeId × Value → H} {w : World} {base : Nat} {spare : Nat → Bool} {held : Bool}
theorem shape_cells {fuel : Nat} {cs : List Value} {x : DataW H × List MemPlace} (h : DataW.trod enc Try.prog w base spare held fuel 39 cs = some x) :
    ∃ s : Sh, cs = [.bool s.u, .bool s.e, .int .u64 s.has.a.toNat, .int .u64 s.has.b.toNat, .int .u64 s.has.c.toNat, .int .u64 s.has.d.toNat, .bool s.k, .string s.lit] ∧ s.lit.size ≤ maxLen := by
  obtain ⟨xs, n, -, -, hlen, hx, hi⟩ := DataW.trod_struct Try.underlying39 h
  rw [Try.cells39] at hlen
  match cs, hlen with
  | [c0, c1, c2, c3, c4, c5, c6, c7], _ =>
    have hs : xs.length = 5 := hx
    have g : ∀ (i : Nat) (_ : i < 5), xs[i]? = some (xs[i]'(by omega)) := fun i hi => List.getElem?_eq_getElem (by omega)
    have h0 := hi 0 _ rfl
    have h1 := hi 1 _ rfl
    have h2 := hi 2 _ rfl
    have h3 := hi 3 _ rfl
    have h4 := hi 4 _ rfl
    rw [g _ (by omega)] at h0 h1 h2 h3 h4
    obtain ⟨b0, e0, -⟩ := DataW.trod_bool Try.underlying4 h0
    obtain ⟨b1, e1, -⟩ := DataW.trod_bool Try.underlying4 h1
    obtain ⟨s2, e2⟩ := set_cells h2
    obtain ⟨b3, e3, -⟩ := DataW.trod_bool Try.underlying4 h3
    obtain ⟨l4, e4, -, z4⟩ := DataW.trod_string Try.underlying9 h4
    simp [Try.cells4] at e0
    simp [Try.cells4] at e1
    simp [Try.cells25] at e2
    simp [Try.cells4] at e3
    simp [Try.cells9] at e4
    obtain ⟨e20, e21, e22, e23⟩ := e2
    subst e0 e1 e20 e21 e22 e23 e3 e4
    exact ⟨⟨b0, b1, s2, b3, l4⟩, rfl, z4⟩
/-- A shape that came in. -/
theorem open_shape {r : Reach} {b0 : Nat} {v : Value} {d : DataW H} {p : List MemPlace} (hv : Value.okWide Try.prog w r b0 39 v) (h : DataW.Trod enc Try.prog w base spare held 39 v d p) :
    ∃ s : Sh, v = s.val ∧ s.lit.size ≤ maxLen := by
  simp only [Value.okWide, Try.underlying39] at hv
  obtain ⟨cs, rfl, hsz, -⟩ := hv
  obtain ⟨fuel, hf⟩ := h
  obtain ⟨s, hs, hz⟩ := shape_cells hf
  refine ⟨s, ?_, hz⟩
  congr 1
  apply Array.ext'
  exact hs
end
end Go.Proofs.Ytlbonbkaddeeeaa
