/-
  A list of shapes that came in as an argument.
-/
import Derived.Test.YtlbonbkaddeeeaaFrameS
import Derived.SliceStrings
import Derived.Laws.Cells
namespace Go.Proofs.Ytlbonbkaddeeeaa
open Go.ChangeShapes Go.WideShapes Go.ChangeAt Go.RowKit Go.Conch
set_option linter.unusedSimpArgs false
set_option linter.unusedVariables false

theorem Try.cells47 : Try.prog.cellsOf 47 = 1 := by kernel_rfl
theorem Try.under47 : Try.prog.underlying 47 = some (.slice 39) := by kernel_rfl
theorem Try.info39 : (Try.prog.info? 39).map (·.size) = some 8 := by kernel_rfl
theorem cell_of_cells {w : World} {base : Nat} {a : Addr} {n : Nat} {cs : List Value} (h : w.cells? base a n = some cs) {j : Nat} {v : Value} (hj : cs[j]? = some v) : w.cell? (a.add j) = some v := by
  unfold World.cells? at h
  split at h
  · have hl := mapM_some_length h
    have hlt : j < n := by
      have := (List.getElem?_eq_some_iff.1 hj).1
      simp at hl
      omega
    have := mapM_some_get h j j (by simp [hlt])
    rw [this, hj]
  · cases h

def shCells (s : Sh) : List Value := [.bool s.u, .bool s.e, .int .u64 s.has.a.toNat, .int .u64 s.has.b.toNat, .int .u64 s.has.c.toNat, .int .u64 s.has.d.toNat, .bool s.k, .string s.lit]

theorem load39 (w : World) (a : Addr) (s : Sh) (h : ∀ j v, (shCells s)[j]? = some v → w.cell? (a.add j) = some v) : (Instr.loadAt 39 (.pointer (some a))).run Try.prog w = .ok s.val w := by
  have hl : (loadCells a (shCells s).length).run Try.prog w = .ok (shCells s).toArray w := run_loadCells_list w a _ h
  have hi := Try.info39
  cases hq : Try.prog.info? 39 with
  | none => simp [hq] at hi
  | some i =>
    have hs : i.size = 8 := by simpa [hq] using hi
    have hagg : (isAgg 39).run Try.prog w = .ok true w := by
      unfold isAgg
      rw [Sem.run_bind, run_underlying Try.underlying39 w]
      rfl
    have hl' : (loadCells a 8).run Try.prog w = .ok (shCells s).toArray w := hl
    simp only [Instr.loadAt, Instr.sureAddr, Sem.run_bind, Sem.run_pure, Result.andThen_ok]
    simp [loadVar, Sem.run_bind, hagg, sizeOf, typeInfo, hq, hs, hl']
    rfl

theorem index47 (w : World) (a : Addr) (len cap k : Nat) (hk : k < len) : (Instr.indexAt 47 (.slice (some a) len cap) (.int .i64 (k : Int))).run Try.prog w = .ok (.pointer (some (a.add (k * 8)))) w := by
  have hi := Try.info39
  cases hq : Try.prog.info? 39 with
  | none => simp [hq] at hi
  | some i =>
    have hs : i.size = 8 := by simpa [hq] using hi
    simp [Instr.indexAt, asIntOf, run_underlying Try.under47, sizeOf, typeInfo, hq, hs, hk]

section
variable {H : Type} {enc : TypeId × Value → H} {w : World} {base : Nat} {spare : Nat → Bool} {held : Bool}
theorem open_shapes {r : Reach} {b0 : Nat} {v : Value} {d : DataW H} {p : List MemPlace} (hv : Value.okWide Try.prog w r b0 47 v) (h : DataW.Trod enc Try.prog w base spare held 47 v d p) :
    ∃ (A : Option Addr) (len cap : Nat) (ptr : Nat → Value) (M : Nat → Sh), v = .slice A len cap ∧ (∀ k, (M k).lit.size ≤ 9223372036854775807) ∧
      (∀ k, k < len → ∀ W, Below w.heap.size w W → (Instr.indexAt 47 (.slice A len cap) (.int .i64 (k : Int))).run Try.prog W = .ok (ptr k) W) ∧
      (∀ k, k < len → ∀ W, Below w.heap.size w W → (Instr.loadAt 39 (ptr k)).run Try.prog W = .ok (M k).val W) := by
  obtain ⟨A0, len0, cap0, rfl⟩ := okWide_slice Try.under47 hv
  obtain ⟨fuel, hf⟩ := h
  rcases DataW.trod_slice Try.under47 hf with ⟨hcs, -⟩ | ⟨a, len, cap, elems, rest, n, -, hcs, -, hb, hl, hm, hlen, hel, -, -⟩
  · have e : (Value.slice A0 len0 cap0) = .slice none 0 0 := by simpa [Value.cells] using hcs
    rw [e]
    exact ⟨none, 0, 0, fun _ => undef, fun _ => Sh.zero, rfl, fun _ => Nat.zero_le _, fun k hk => absurd hk (by omega), fun k hk => absurd hk (by omega)⟩
  · have e : (Value.slice A0 len0 cap0) = .slice (some a) len cap := by simpa [Value.cells] using hcs
    rw [e]
    have each : ∀ k, k < len → ∃ s : Sh, s.lit.size ≤ maxLen ∧ ∀ j v, (shCells s)[j]? = some v → w.cell? ((a.add (k * 8)).add j) = some v := by
      intro k hk
      have h1 := hel k hk
      have h2 : elems[k]? = some (elems[k]'(by omega)) := List.getElem?_eq_getElem (by omega)
      rw [h2, Try.cells39, Option.bind_eq_some_iff] at h1
      obtain ⟨cs, h3, h4⟩ := h1
      obtain ⟨s, rfl, hz⟩ := shape_cells h4
      exact ⟨s, hz, fun j v hj => cell_of_cells h3 hj⟩
    have hM : ∃ M : Nat → Sh, ∀ k, (M k).lit.size ≤ maxLen ∧ (k < len → ∀ j v, (shCells (M k))[j]? = some v → w.cell? ((a.add (k * 8)).add j) = some v) := by
      refine ⟨fun k => if h : k < len then (each k h).choose else Sh.zero, fun k => ?_⟩
      by_cases h : k < len
      · simp only [h, dif_pos]
        exact ⟨(each k h).choose_spec.1, fun _ => (each k h).choose_spec.2⟩
      · simp only [h, dif_neg, not_false_eq_true]
        exact ⟨Nat.zero_le _, fun q => absurd q (by simp)⟩
    obtain ⟨M, hM⟩ := hM
    refine ⟨some a, len, cap, fun k => .pointer (some (a.add (k * 8))), M, rfl, fun k => by have := (hM k).1; unfold maxLen at this; omega, fun k hk W _ => index47 W a len cap k hk, fun k hk W hB => load39 W _ (M k) fun j v hj => ?_⟩
    have h5 := (hM k).2 hk j v hj
    exact (hB.cell (World.block_lt_of_cell? w _ h5)).trans h5
end
end Go.Proofs.Ytlbonbkaddeeeaa
