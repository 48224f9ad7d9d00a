/-
  A map of marks: which numbers are in, and how many.
-/
import Derived.Test.YtpanndfhgpbahaaWk
import Derived.Maps.Views
import Derived.Maps.Range
import Derived.Maps.RangeWalk
set_option linter.unusedSimpArgs false
set_option linter.unusedVariables false
namespace Go.Proofs.Ytpanndfhgpbahaa
open Go.RowKit Go.Maps Go.ChangeMaps Go.MapKept
def zF : DataW Unit := .lit (.bool false)
def zT : DataW Unit := .lit (.bool true)
/-- The datum D tells just the numbers of S, each with true, and has cnt entries. -/
structure Marks (D : DataW Unit) (S : Int → Prop) (cnt : Nat) : Prop where
  size : Maps.size D = cnt
  yes : ∀ x, InR x → S x → has D (.int .i64 x) = true ∧ ∀ z, D.atKey (.int .i64 x) z = zT
  no : ∀ x, InR x → ¬ S x → has D (.int .i64 x) = false
def HasB (W : World) (gb m : Nat) (S : Int → Prop) (cnt : Nat) : Prop := ∃ D : DataW Unit, W.ownsMap Try.prog 3 (plainElem Try.prog 4) gb m D ∧ Marks D S cnt
theorem bool_inv {v : Value} {b : Bool} {ps : List MemPlace} (h : plainElem (H := Unit) Try.prog 4 v = some (.lit (.bool b), ps)) : v = .bool b := by
  unfold plainElem at h
  rw [Try.underlying4] at h
  cases v <;> simp at h
  rw [h.1]
theorem zero4 (w : World) : (zeroValue 4).run Try.prog w = .ok (.bool false) w := by
  have hz : (Try.prog.info? 4).map (·.zero) = some (some (.bool false)) := by kernel_rfl
  obtain ⟨i, hi, hzz⟩ := Option.map_eq_some_iff.1 hz
  simp [zeroValue, typeInfo, hi, hzz]
theorem hb_look {W : World} {gb m cnt : Nat} {S : Int → Prop} (h : HasB W gb m S cnt) {x : Int} (hx : InR x) :
    (S x → (Instr.lookup 26 (.map (some gb)) (.int .i64 x) false).run Try.prog W = .ok (.bool true) W) ∧ (¬ S x → (Instr.lookup 26 (.map (some gb)) (.int .i64 x) false).run Try.prog W = .ok (.bool false) W) := by
  obtain ⟨D, ho, hD⟩ := h
  obtain ⟨v, ps, hrun, hv⟩ := ho.lookup keyed3 Try.underlying26 (zero4 W) (plainElem_bool Try.underlying4 false) (key_of hx)
  constructor
  · intro hs
    rw [(hD.yes x hx hs).2] at hv
    rw [bool_inv hv] at hrun
    exact hrun
  · intro hs
    rw [atKey_of_not_has (hD.no x hx hs)] at hv
    rw [bool_inv hv] at hrun
    exact hrun
theorem hb_put {D : DataW Unit} {S : Int → Prop} {cnt : Nat} (ht : Tidy D) (h : Marks D S cnt) (x : Int) (hx : InR x) :
    (S x → Marks (D.put (.int .i64 x) zT) (fun y => y = x ∨ S y) cnt) ∧ (¬ S x → Marks (D.put (.int .i64 x) zT) (fun y => y = x ∨ S y) (cnt + 1)) := by
  have yes : ∀ y, InR y → (y = x ∨ S y) → has (D.put (.int .i64 x) zT) (.int .i64 y) = true ∧ ∀ z, (D.put (.int .i64 x) zT).atKey (.int .i64 y) z = zT := fun y hy hs => by
    by_cases e : y = x
    · subst e
      exact ⟨has_put_same ht.isMap (show WideAt.IsKeyLit (.int .i64 y) from trivial) _, fun z => atKey_put_same ht.isMap (show WideAt.IsKeyLit (.int .i64 y) from trivial) _ _⟩
    · have hne : (Lit.int .i64 y) ≠ .int .i64 x := fun h => e (by injection h)
      rw [has_put_other hne]
      have h1 := h.yes y hy (hs.resolve_left e)
      exact ⟨h1.1, fun z => by rw [atKey_put_other hne]; exact h1.2 z⟩
  have no : ∀ y, InR y → ¬ (y = x ∨ S y) → has (D.put (.int .i64 x) zT) (.int .i64 y) = false := fun y hy hs => by
    have hne : (Lit.int .i64 y) ≠ .int .i64 x := fun h => hs (.inl (by injection h))
    rw [has_put_other hne]
    exact h.no y hy fun g => hs (.inr g)
  have hsz := size_put ht (k := .int .i64 x) zT
  refine ⟨fun hs => ⟨?_, yes, no⟩, fun hs => ⟨?_, yes, no⟩⟩
  · rw [hsz, if_pos (h.yes x hx hs).1, h.size]
  · rw [hsz, if_neg (by rw [h.no x hx hs]; simp), h.size]
theorem hb_del {D : DataW Unit} {S : Int → Prop} {cnt : Nat} (ht : Tidy D) (h : Marks D S cnt) (x : Int) (hx : InR x) :
    (S x → Marks (D.del (.int .i64 x)) (fun y => y ≠ x ∧ S y) (cnt - 1)) ∧ (¬ S x → Marks (D.del (.int .i64 x)) (fun y => y ≠ x ∧ S y) cnt) := by
  have yes : ∀ y, InR y → (y ≠ x ∧ S y) → has (D.del (.int .i64 x)) (.int .i64 y) = true ∧ ∀ z, (D.del (.int .i64 x)).atKey (.int .i64 y) z = zT := fun y hy hs => by
    have hne : (Lit.int .i64 y) ≠ .int .i64 x := fun h => hs.1 (by injection h)
    rw [has_del_other hne]
    have h1 := h.yes y hy hs.2
    exact ⟨h1.1, fun z => by rw [atKey_del_other hne]; exact h1.2 z⟩
  have no : ∀ y, InR y → ¬ (y ≠ x ∧ S y) → has (D.del (.int .i64 x)) (.int .i64 y) = false := fun y hy hs => by
    by_cases e : y = x
    · subst e
      exact has_del_same
    · have hne : (Lit.int .i64 y) ≠ .int .i64 x := fun h => e (by injection h)
      rw [has_del_other hne]
      exact h.no y hy fun g => hs ⟨e, g⟩
  have hsz := size_del ht (k := .int .i64 x)
  refine ⟨fun hs => ⟨?_, yes, no⟩, fun hs => ⟨?_, yes, no⟩⟩
  · rw [(h.yes x hx hs).1, if_pos rfl, h.size] at hsz
    omega
  · rw [h.no x hx hs, if_neg (by simp), h.size] at hsz
    omega

/-! how many -/
theorem card {k : Nat} : ∀ {l : List Int} {a : Nat → Int}, (∀ i j, i < k → j < k → a i = a j → i = j) → l.Nodup → (∀ y, y ∈ l ↔ ∃ i, i < k ∧ a i = y) → l.length = k := by
  induction k with
  | zero =>
    intro l a _ _ h
    cases l with
    | nil => rfl
    | cons x l =>
      obtain ⟨i, hi, -⟩ := (h x).1 (by simp)
      omega
  | succ k ih =>
    intro l a hi hn h
    have hm : a k ∈ l := (h (a k)).2 ⟨k, by omega, rfl⟩
    have h1 := ih (l := l.erase (a k)) (a := a) (fun i j x y => hi i j (by omega) (by omega)) (hn.erase _) (fun y => by
      rw [hn.mem_erase_iff, h y]
      constructor
      · rintro ⟨h2, i, h3, h4⟩
        refine ⟨i, ?_, h4⟩
        by_cases e : i = k
        · rw [e] at h4
          exact absurd h4.symm h2
        · omega
      · rintro ⟨i, h3, h4⟩
        refine ⟨fun e => ?_, i, by omega, h4⟩
        have := hi i k (by omega) (by omega) (by rw [h4, e])
        omega)
    rw [List.length_erase_of_mem hm] at h1
    have := List.length_pos_of_mem hm
    omega
end Go.Proofs.Ytpanndfhgpbahaa
