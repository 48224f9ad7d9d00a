/-
  A row of numbers in memory, and what its methods do to it.
-/
import Derived.Test.YtpanndfhgpbahaaProg
import Derived.WalkKit
import Derived.BigRegion
import Derived.Deep.OwnRows
import Derived.Deep.Draws
import Derived.OwnWalk
import Derived.Maps.OwnOps
import Derived.Maps.OwnSet
import Derived.Below
import Derived.KernelRfl
import Derived.Laws.Rows
import Derived.Laws.NewBlocks
set_option linter.unusedSimpArgs false
set_option linter.unusedVariables false
namespace Go.Proofs.Ytpanndfhgpbahaa
open Go.RowKit

/-- The slice v holds the numbers a 0 .. a (n - 1), in a block of its own (from B on). -/
def RowIs (B : Nat) (W : World) (v : Value) (n : Nat) (a : Nat → Int) : Prop :=
  (v = .slice none 0 0 ∧ n = 0) ∨ ∃ g c cur, v = .slice (some ⟨g, 0, none⟩) n c ∧ B ≤ g ∧ W.heap[g]? = some (.cells cur 3 (0, 0)) ∧ n ≤ c ∧ c ≤ maxLen ∧ cur.size = c ∧ ∀ i, i < n → cur[i]? = some (.int .i64 (a i))
/-- The Work's cells, and its row. -/
structure St (B : Nat) (W : World) (gp : Nat) (mp : Value) (n : Nat) (a : Nat → Int) : Prop where
  hB : B ≤ gp
  row : ∃ v, W.heap[gp]? = some (.cells #[v, mp] 36 (0, 0)) ∧ RowIs B W v n a
/-- What existed below B is as it was, and so is every map. -/
structure Fr (B : Nat) (w w' : World) : Prop where
  below : Below B w w'
  maps : ∀ (k : Nat) (es : Array MapEntry) (ck : Nat), w.heap[k]? = some (Obj.map es ck) → w'.heap[k]? = some (Obj.map es ck)
theorem Fr.refl (B : Nat) (w : World) : Fr B w w := ⟨Below.refl _ _, fun _ _ _ h => h⟩
theorem Fr.trans {B : Nat} {a b c : World} (h : Fr B a b) (k : Fr B b c) : Fr B a c := ⟨h.below.trans k.below, fun i es ck hi => k.maps i es ck (h.maps i es ck hi)⟩
theorem Fr.drew {B : Nat} {a b : World} (h : Fr B a b) : Fr B a b.drew := ⟨h.below.drew, h.maps⟩
theorem St.drew {B : Nat} {W : World} {gp : Nat} {mp : Value} {n : Nat} {a : Nat → Int} (h : St B W gp mp n a) : St B W.drew gp mp n a := ⟨h.hB, h.row⟩

/-- Where there are numbers, the row has a block. -/
theorem St.open_ {B : Nat} {W : World} {gp : Nat} {mp : Value} {n : Nat} {a : Nat → Int} (h : St B W gp mp n a) (hn : 0 < n) :
    ∃ g c cur, W.heap[gp]? = some (.cells #[.slice (some ⟨g, 0, none⟩) n c, mp] 36 (0, 0)) ∧ B ≤ g ∧ W.heap[g]? = some (.cells cur 3 (0, 0)) ∧ n ≤ c ∧ c ≤ maxLen ∧ cur.size = c ∧ (∀ i, i < n → cur[i]? = some (.int .i64 (a i))) ∧ g ≠ gp := by
  obtain ⟨v, hv, h1 | ⟨g, c, cur, rfl, hg, hc, h2, h3, h4, h5⟩⟩ := h.row
  · omega
  · refine ⟨g, c, cur, hv, hg, hc, h2, h3, h4, h5, fun e => ?_⟩
    rw [e, hv] at hc
    cases hc

def swp (a : Nat → Int) (i k : Nat) : Nat → Int := fun x => if x = k then a i else if x = i then a k else a x

set_option maxHeartbeats 1000000 in
set_option maxRecDepth 100000 in
theorem less_calls (w : World) (g n c : Nat) (i k : Nat) (a b : Int) (hi : i < n) (hk : k < n) (hi2 : w.cell? ⟨g, i, none⟩ = some (.int .i64 a)) (hk2 : w.cell? ⟨g, k, none⟩ = some (.int .i64 b)) :
    Calls Try.prog 31 #[.slice (some ⟨g, 0, none⟩) n c, .int .i64 i, .int .i64 k] w fun e w' => e = .returned (.bool (decide (a < b))) ∧ w' = w.drew := by
  have h1 : (i : Int) < (n : Int) := by omega
  have h2 : (k : Int) < (n : Int) := by omega
  go_enter Try.func31, Try.ntmps31
  go_wp2
  go_region
  all_goals go_wp2
  all_goals go_ret
  all_goals exact ⟨rfl, rfl⟩
set_option maxHeartbeats 1000000 in
set_option maxRecDepth 100000 in
theorem swap_calls (w : World) (g n c : Nat) (i k : Nat) (a b : Int) (cur : Array Value) (hi : i < n) (hk : k < n) (hne : i ≠ k) (hg : w.heap[g]? = some (.cells cur 3 (0, 0))) (hi2 : cur[i]? = some (.int .i64 a)) (hk2 : cur[k]? = some (.int .i64 b)) :
    Calls Try.prog 32 #[.slice (some ⟨g, 0, none⟩) n c, .int .i64 i, .int .i64 k] w fun e w' => e = .returned (.tuple #[]) ∧ w' = ((w.setCell ⟨g, i, none⟩ (.int .i64 b)).setCell ⟨g, k, none⟩ (.int .i64 a)).drew := by
  have h1 : (i : Int) < (n : Int) := by omega
  have h2 : (k : Int) < (n : Int) := by omega
  have c1 : w.cell? ⟨g, i, none⟩ = some (.int .i64 a) := by simp [World.cell?, hg, hi2]
  have c2 : w.cell? ⟨g, k, none⟩ = some (.int .i64 b) := by simp [World.cell?, hg, hk2]
  have f1 : w.frozen? ⟨g, i, none⟩ = false := by simp [World.frozen?, hg]
  have f2 : w.frozen? ⟨g, k, none⟩ = false := by simp [World.frozen?, hg]
  clear hi2 hk2 hg
  go_enter Try.func32, Try.ntmps32
  go_wp2
  go_region
  all_goals go_wp2
  all_goals go_end0
  all_goals exact ⟨rfl, rfl⟩
set_option maxHeartbeats 1000000 in
set_option maxRecDepth 100000 in
theorem swap_same (w : World) (g n c : Nat) (i : Nat) (a : Int) (cur : Array Value) (hi : i < n) (hg : w.heap[g]? = some (.cells cur 3 (0, 0))) (hi2 : cur[i]? = some (.int .i64 a)) :
    Calls Try.prog 32 #[.slice (some ⟨g, 0, none⟩) n c, .int .i64 i, .int .i64 i] w fun e w' => e = .returned (.tuple #[]) ∧ w' = ((w.setCell ⟨g, i, none⟩ (.int .i64 a)).setCell ⟨g, i, none⟩ (.int .i64 a)).drew := by
  have h1 : (i : Int) < (n : Int) := by omega
  have c1 : w.cell? ⟨g, i, none⟩ = some (.int .i64 a) := by simp [World.cell?, hg, hi2]
  have f1 : w.frozen? ⟨g, i, none⟩ = false := by simp [World.frozen?, hg]
  clear hi2 hg
  go_enter Try.func32, Try.ntmps32
  go_wp2
  go_region
  all_goals go_wp2
  all_goals go_end0
  all_goals exact ⟨rfl, rfl⟩

/-! The row's own way: through a pointer to it. -/
theorem row_set {B : Nat} {W : World} {gp : Nat} {mp : Value} {n c g : Nat} {a b : Nat → Int} {cur cur' : Array Value} (hB : B ≤ gp) (hv : W.heap[gp]? = some (.cells #[.slice (some ⟨g, 0, none⟩) n c, mp] 36 (0, 0))) (hg : B ≤ g) (hc : W.heap[g]? = some (.cells cur' 3 (0, 0)))
    (h2 : n ≤ c) (h3 : c ≤ maxLen) (h4 : cur'.size = c) (h5 : ∀ i, i < n → cur'[i]? = some (.int .i64 (b i))) : St B W gp mp n b := ⟨hB, _, hv, .inr ⟨g, c, cur', rfl, hg, hc, h2, h3, h4, h5⟩⟩
theorem fr_set {B : Nat} {w W : World} {g : Nat} {cur : Array Value} {t : TypeId} (h : Fr B w W) (hg : B ≤ g) (hc : W.heap[g]? = some (.cells cur t (0, 0))) (i : Nat) (v : Value) : Fr B w (W.setCell ⟨g, i, none⟩ v) :=
  ⟨h.below.setCell hg _, fun k es ck hk => by
    have h1 := h.maps k es ck hk
    rw [heap_setCell_other _ _ _ _ (fun e => by
      have e' : k = g := e
      rw [e', hc] at h1
      cases h1)]
    exact h1⟩
theorem swap_st {B : Nat} {w : World} {gp : Nat} {mp : Value} {n : Nat} {a : Nat → Int} (h : St B w gp mp n a) (i k : Nat) (hi : i < n) (hk : k < n) :
    ∃ g c, w.heap[gp]? = some (.cells #[.slice (some ⟨g, 0, none⟩) n c, mp] 36 (0, 0)) ∧
      Calls Try.prog 32 #[.slice (some ⟨g, 0, none⟩) n c, .int .i64 i, .int .i64 k] w fun e w' => e = .returned (.tuple #[]) ∧ St B w' gp mp n (swp a i k) ∧ Fr B w w' := by
  obtain ⟨g, c, cur, hv, hg, hc, h2, h3, h4, h5, hne⟩ := h.open_ (by omega)
  refine ⟨g, c, hv, ?_⟩
  have after : ∀ (x y : Int), x = a i → y = a k → St B ((w.setCell ⟨g, i, none⟩ (.int .i64 y)).setCell ⟨g, k, none⟩ (.int .i64 x)).drew gp mp n (swp a i k) ∧ Fr B w ((w.setCell ⟨g, i, none⟩ (.int .i64 y)).setCell ⟨g, k, none⟩ (.int .i64 x)).drew := by
    rintro x y rfl rfl
    have hc1 := heap_setCell_same w g i cur 3 (.int .i64 (a k)) hc
    have hc2 := heap_setCell_same _ g k _ 3 (.int .i64 (a i)) hc1
    have hv2 : ((w.setCell ⟨g, i, none⟩ (.int .i64 (a k))).setCell ⟨g, k, none⟩ (.int .i64 (a i))).heap[gp]? = some (.cells #[.slice (some ⟨g, 0, none⟩) n c, mp] 36 (0, 0)) := by
      rw [heap_setCell_other _ _ _ _ (by exact hne.symm), heap_setCell_other _ _ _ _ (by exact hne.symm)]
      exact hv
    refine ⟨(row_set (a := a) (cur := cur) h.hB hv2 hg hc2 h2 h3 (by simp [h4]) fun j hj => ?_).drew, (fr_set (fr_set (Fr.refl B w) hg hc i _) hg hc1 k _).drew⟩
    unfold swp
    rw [Array.getElem?_setIfInBounds, Array.getElem?_setIfInBounds, Array.size_setIfInBounds]
    by_cases e1 : k = j
    · rw [if_pos e1, if_pos (by omega), if_pos e1.symm]
    · rw [if_neg e1, if_neg (show ¬ j = k from fun e => e1 e.symm)]
      by_cases e2 : i = j
      · rw [if_pos e2, if_pos (by omega), if_pos e2.symm]
      · rw [if_neg e2, if_neg (show ¬ j = i from fun e => e2 e.symm)]
        exact h5 j hj
  by_cases e : i = k
  · subst e
    exact (swap_same w g n c i (a i) cur hi hc (h5 i hi)).mono fun e w' ⟨h1, h6⟩ => ⟨h1, by rw [h6]; exact after _ _ rfl rfl⟩
  · exact (swap_calls w g n c i k (a i) (a k) cur hi hk e hc (h5 i hi) (h5 k hk)).mono fun e w' ⟨h1, h6⟩ => ⟨h1, by rw [h6]; exact after _ _ rfl rfl⟩
theorem less_st {B : Nat} {w : World} {gp : Nat} {mp : Value} {n : Nat} {a : Nat → Int} (h : St B w gp mp n a) (i k : Nat) (hi : i < n) (hk : k < n) :
    ∃ g c, w.heap[gp]? = some (.cells #[.slice (some ⟨g, 0, none⟩) n c, mp] 36 (0, 0)) ∧
      Calls Try.prog 31 #[.slice (some ⟨g, 0, none⟩) n c, .int .i64 i, .int .i64 k] w fun e w' => e = .returned (.bool (decide (a i < a k))) ∧ w' = w.drew := by
  obtain ⟨g, c, cur, hv, hg, hc, h2, h3, h4, h5, hne⟩ := h.open_ (by omega)
  exact ⟨g, c, hv, less_calls w g n c i k (a i) (a k) hi hk (by simp [World.cell?, hc, h5 i hi]) (by simp [World.cell?, hc, h5 k hk])⟩
end Go.Proofs.Ytpanndfhgpbahaa
