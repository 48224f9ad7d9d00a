/-
  The map of what is in; Push, Pop and Len of the Work.
-/
import Derived.Test.YtpanndfhgpbahaaWe
import Derived.Maps.Views
set_option linter.unusedSimpArgs false
set_option linter.unusedVariables false
namespace Go.Proofs.Ytpanndfhgpbahaa
open Go.RowKit Go.Maps Go.ChangeMaps Go.MapKept
def InR (x : Int) : Prop := -9223372036854775808 ≤ x ∧ x ≤ 9223372036854775807
def z0 : DataW Unit := .lit (.int .i64 0)
def z1 : DataW Unit := .lit (.int .i64 1)
/-- Block gm is a map in which just the numbers of S stand, each with 1. -/
def HasMap (W : World) (gm m : Nat) (S : Int → Prop) : Prop :=
  ∃ D : DataW Unit, W.ownsMap Try.prog 3 (plainElem Try.prog 3) gm m D ∧ ∀ x, InR x → (S x → D.atKey (.int .i64 x) z0 = z1) ∧ (¬ S x → D.atKey (.int .i64 x) z0 = z0)
theorem wf_of {x : Int} (h : InR x) : (Lit.int .i64 x).wf = true := WalkArith.wf_i64 ⟨h.1, h.2⟩
theorem key_of {x : Int} (h : InR x) : keyOf Try.prog 3 (.int .i64 x) = some (.int .i64 x) := keyOf_int_mk Try.underlying3 (wf_of h)
theorem keyed3 : Keyed Try.prog 3 := int_keyed Try.underlying3
theorem zero3 (w : World) : (zeroValue 3).run Try.prog w = .ok (.int .i64 0) w := by
  obtain ⟨i0, hi, hzz⟩ := Option.map_eq_some_iff.1 Try.info3
  simp only [Prod.mk.injEq] at hzz
  simp [zeroValue, typeInfo, hi, hzz.1]
theorem hm_look {W : World} {gm m : Nat} {S : Int → Prop} (h : HasMap W gm m S) {x : Int} (hx : InR x) :
    (S x → (Instr.lookup 33 (.map (some gm)) (.int .i64 x) false).run Try.prog W = .ok (.int .i64 1) W) ∧ (¬ S x → (Instr.lookup 33 (.map (some gm)) (.int .i64 x) false).run Try.prog W = .ok (.int .i64 0) W) := by
  obtain ⟨D, ho, hD⟩ := h
  obtain ⟨c, hrun, hat, -⟩ := ho.lookup_int keyed3 Try.underlying33 Try.underlying3 (zero3 W) (key_of hx)
  constructor
  · intro hs
    have := (hD x hx).1 hs
    unfold z0 z1 at this
    rw [this] at hat
    cases hat
    exact hrun
  · intro hs
    have := (hD x hx).2 hs
    unfold z0 at this
    rw [this] at hat
    cases hat
    exact hrun
theorem isMap_of {W : World} {gm m : Nat} {D : DataW Unit} (h : W.ownsMap Try.prog 3 (plainElem Try.prog 3) gm m D) : IsMap D := by
  obtain ⟨es, clock, -, -, -, rfl⟩ := h
  exact ⟨_, rfl⟩
theorem hm_put {W W' : World} {gm m : Nat} {S : Int → Prop} {D : DataW Unit} (ho : W.ownsMap Try.prog 3 (plainElem Try.prog 3) gm m D) (hD : ∀ x, InR x → (S x → D.atKey (.int .i64 x) z0 = z1) ∧ (¬ S x → D.atKey (.int .i64 x) z0 = z0)) (x : Int)
    (ho' : W'.ownsMap Try.prog 3 (plainElem Try.prog 3) gm (m + 1) (D.put (.int .i64 x) z1)) : HasMap W' gm (m + 1) (fun y => y = x ∨ S y) := by
  refine ⟨_, ho', fun y hy => ?_⟩
  by_cases e : y = x
  · subst e
    refine ⟨fun _ => atKey_put_same (isMap_of ho) (show WideAt.IsKeyLit (.int .i64 y) from trivial) _ _, fun h => absurd (.inl rfl) h⟩
  · have hne : (Lit.int .i64 y) ≠ .int .i64 x := fun h => e (by injection h)
    rw [atKey_put_other hne]
    exact ⟨fun h => (hD y hy).1 (h.resolve_left e), fun h => (hD y hy).2 fun g => h (.inr g)⟩
theorem hm_del {W' : World} {gm m : Nat} {S : Int → Prop} {D : DataW Unit} (hD : ∀ x, InR x → (S x → D.atKey (.int .i64 x) z0 = z1) ∧ (¬ S x → D.atKey (.int .i64 x) z0 = z0)) (x : Int)
    (ho' : W'.ownsMap Try.prog 3 (plainElem Try.prog 3) gm m (D.del (.int .i64 x))) : HasMap W' gm m (fun y => y ≠ x ∧ S y) := by
  refine ⟨_, ho', fun y hy => ?_⟩
  by_cases e : y = x
  · subst e
    exact ⟨fun h => absurd rfl h.1, fun _ => atKey_del_same _⟩
  · have hne : (Lit.int .i64 y) ≠ .int .i64 x := fun h => e (by injection h)
    rw [atKey_del_other hne]
    exact ⟨fun h => (hD y hy).1 h.2, fun h => (hD y hy).2 fun g => h ⟨e, g⟩⟩
theorem hm_keeps {W W' : World} {gm m : Nat} {S : Int → Prop} (h : HasMap W gm m S) (hb : ∀ es ck, W.heap[gm]? = some (Obj.map es ck) → W'.heap[gm]? = some (Obj.map es ck)) : HasMap W' gm m S := by
  obtain ⟨D, ⟨es, ck, h1, h2⟩, hD⟩ := h
  exact ⟨D, ⟨es, ck, hb _ _ h1, h2⟩, hD⟩
theorem hm_same {W : World} {gm m : Nat} {S T : Int → Prop} (h : HasMap W gm m S) (e : ∀ x, S x ↔ T x) : HasMap W gm m T := by
  obtain ⟨D, ho, hD⟩ := h
  exact ⟨D, ho, fun x hx => ⟨fun g => (hD x hx).1 ((e x).2 g), fun g => (hD x hx).2 fun k => g ((e x).1 k)⟩⟩
/-- A Work: its row is a heap without doubles, and its map holds the same numbers. -/
structure WS (B : Nat) (W : World) (gp gm m n : Nat) (a : Nat → Int) : Prop where
  st : St B W gp (.map (some gm)) n a
  heap : Heap n a
  inj : ∀ i k, i < n → k < n → a i = a k → i = k
  map : HasMap W gm m (fun x => ∃ i, i < n ∧ a i = x)
  rng : ∀ i, i < n → InR (a i)
  hgm : B ≤ gm
theorem st_grown {B : Nat} {W W' : World} {gp gm n : Nat} {mp : Value} {a : Nat → Int} (h : St B W gp mp n a) (hg : W.grownBy W' (some gm)) (hm : ∃ es ck, W.heap[gm]? = some (Obj.map es ck)) : St B W' gp mp n a := by
  obtain ⟨hB, v, hv, hr⟩ := h
  obtain ⟨es, ck, hm⟩ := hm
  have other : ∀ k cur t, W.heap[k]? = some (Obj.cells cur t (0, 0)) → W'.heap[k]? = some (Obj.cells cur t (0, 0)) := fun k cur t hk =>
    (hg.block k (Array.getElem?_eq_some_iff.1 hk).1 (fun e => by
      injection e with e
      rw [e, hm] at hk
      cases hk)).trans hk
  refine ⟨hB, v, other _ _ _ hv, ?_⟩
  rcases hr with h1 | ⟨g, c, cur, rfl, hg', hc, h2⟩
  · exact .inl h1
  · exact .inr ⟨g, c, cur, rfl, hg', other _ _ _ hc, h2⟩
end Go.Proofs.Ytpanndfhgpbahaa
