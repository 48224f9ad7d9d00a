/-
  The engine of these proofs: calls that leave all that existed as it was ('Pure'), the world behind such a call ('later'), and regions that draw their order and hold such calls, with a tail of stores.
-/
import Derived.Deep.Quiet
import Derived.StillTail
import Derived.Deep.QuietTactic
import Derived.BigQuiet
import Derived.WalkKit
import Derived.WalkSpells
import Derived.Laws.BytesArg
import Derived.Laws.OwnMore
set_option linter.unusedSimpArgs false
set_option linter.unusedVariables false
namespace Go.Eng
open Go.RowKit

theorem hide {p : Prop} (h : p) : Hid p := h

/-- The call hands back 'v' and turns nothing that existed. -/
def Pure (P : Program) (f : FuncId) (args : Array Value) (v : Value) : Prop :=
  ∀ w, Calls P f args w fun e w' => e = .returned v ∧ Below w.heap.size w w'

open Classical in
/-- Some world in which all that 'w' holds stands as in 'w'. -/
noncomputable def later (w x : World) : World := if Below w.heap.size w x then x else w

theorem later_below (w x : World) : Below w.heap.size w (later w x) := by
  unfold later
  split
  · assumption
  · exact Below.refl _ _
theorem later_of {w x : World} (h : Below w.heap.size w x) : later w x = x := if_pos h
theorem exists_later {w x : World} (h : Below w.heap.size w x) : ∃ y, x = later w y := ⟨x, (later_of h).symm⟩

@[simp, go_sem] theorem cell?_later {w x : World} {b o : Nat} (h : b < w.heap.size) : (later w x).cell? ⟨b, o, none⟩ = w.cell? ⟨b, o, none⟩ :=
  (later_below w x).cell (p := ⟨b, o, none⟩) h
@[simp, go_sem] theorem frozen?_later {w x : World} {b o : Nat} (h : b < w.heap.size) : (later w x).frozen? ⟨b, o, none⟩ = w.frozen? ⟨b, o, none⟩ :=
  (later_below w x).frozen (p := ⟨b, o, none⟩) h
theorem heap_later {w x : World} {b : Nat} (h : b < w.heap.size) : (later w x).heap[b]? = w.heap[b]? := (later_below w x).block b h
theorem size_later (w x : World) : w.heap.size ≤ (later w x).heap.size := (later_below w x).size
@[simp, go_sem] theorem lt_later {w x : World} {b : Nat} (h : b < w.heap.size) : (b < (later w x).heap.size) = True := by
  have := size_later w x
  simp; omega
@[simp, go_sem] theorem le_later {w x : World} {b : Nat} (h : b ≤ w.heap.size) : (b ≤ (later w x).heap.size) = True := by
  have := size_later w x
  simp; omega
theorem later_later (w x y : World) : ∃ z, later (later w x) y = later w z :=
  exists_later ((later_below w x).trans ((later_below (later w x) y).mono (size_later w x)))

/-- A contract as the walk takes it. -/
theorem Pure.go {P : Program} {f : FuncId} {args : Array Value} {v : Value} (h : Pure P f args v) (w : World) :
    Calls P f args w fun e w' => e = .returned v ∧ ∃ x, w' = later w x :=
  (h w).mono fun _ _ ⟨he, hb⟩ => ⟨he, exists_later hb⟩
/-- A contract inside a region. -/
theorem Pure.inn {P : Program} {f : FuncId} {args : Array Value} {v : Value} (h : Pure P f args v) (w x : World) :
    Calls P f args (later w x) fun e w' => e = .returned v ∧ ∃ y, w' = later w y :=
  (h (later w x)).mono fun _ _ ⟨he, hb⟩ => ⟨he, exists_later ((later_below w x).trans (hb.mono (size_later w x)))⟩

/-- In every world in which all that W holds stands, the call hands back 'v' and turns nothing that existed. -/
def PureAt (P : Program) (W : World) (f : FuncId) (args : Array Value) (v : Value) : Prop :=
  ∀ x, Calls P f args (later W x) fun e w' => e = .returned v ∧ Below (later W x).heap.size (later W x) w'
theorem Pure.at {P : Program} {f : FuncId} {args : Array Value} {v : Value} (h : Pure P f args v) (W : World) : PureAt P W f args v := fun x => h (later W x)
theorem PureAt.here {P : Program} {W : World} {f : FuncId} {args : Array Value} {v : Value} (h : PureAt P W f args v) :
    Calls P f args W fun e w' => e = .returned v ∧ Below W.heap.size W w' := by
  have h1 := h W
  rw [later_of (Below.refl _ _)] at h1
  exact h1
theorem PureAt.on {P : Program} {W0 W : World} {f : FuncId} {args : Array Value} {v : Value} (h : PureAt P W0 f args v) (hb : Below W0.heap.size W0 W) : PureAt P W f args v := fun x => by
  obtain ⟨z, hz⟩ := exists_later (hb.trans ((later_below W x).mono hb.size))
  rw [hz]
  exact h z

section
variable {P : Program} {ops : Array Oper} {md : Region.Mode} {C : World → Prop}

/-- Whatever order is picked of the first 'n' operations, 'L' holds when 'k' more of them have come up. -/
def anyHead (P : Program) (md : Region.Mode) (ops : Array Oper) (C : World → Prop) (n : Nat) (L : Array Bool → Act → Prop) : Nat → Array Bool → Act → Prop
  | 0, listed, a => L listed a
  | k + 1, listed, a => Region.ready md ops listed ≠ [] ∧
      ∀ i ∈ Region.ready md ops listed, i < n ∧ qOp P ops C i (anyHead P md ops C n L k (listed.setIfInBounds i true)) a

theorem wpAny_of_anyHead {n g : Nat} {L : Array Bool → Act → Prop} {Q : Exit → Act → World → Prop}
    (hL : ∀ listed a w, C w → L listed a → wpAny P md ops Q g listed a w) :
    ∀ (k : Nat) (listed : Array Bool) (a : Act) (w : World), C w → anyHead P md ops C n L k listed a → wpAny P md ops Q (k + g) listed a w := by
  intro k
  induction k with
  | zero => intro listed a w hw h; rw [Nat.zero_add]; exact hL _ _ _ hw h
  | succ k ih =>
    intro listed a w hw h
    have e : k + 1 + g = (k + g) + 1 := by omega
    rw [e]
    exact ⟨fun h0 => absurd h0 h.1, fun i hi => wpOp_of_qOp hw (fun a' w' hw' h' => ih _ a' w' hw' h') (h.2 i hi).2⟩

theorem anyHead_first {n i : Nat} {oi : Oper} {v : Value} {L : Array Bool → Act → Prop} (hi : ops[i]? = some oi)
    (hsel : ∀ (j : Nat) (o : Oper) cs b, ops[j]? = some o → o.op ≠ .select cs b)
    (hs : Region.sinkB md ops n = true) (hc : Region.chainB md ops n = true) (hn : n < ops.size) (hin : i < n)
    (hdone : ∀ listed a, L listed a → ∀ j ∈ Region.ready md ops listed, n ≤ j) :
    ∀ (k : Nat) (listed : Array Bool) (a : Act), HeadInv md ops n listed →
      (∀ j oj, ops[j]? = some oj → j ≠ i → listed.getD j true = false → (∀ e ∈ oj.after, Region.binds md e = true → e.on ≠ i) → oi.apart ops oj = true) →
      i ∈ Region.ready md ops listed → YieldsIn P ops C oi v a →
      anyHead P md ops C n L k (listed.setIfInBounds i true) (a.put oi.dst v) → anyHead P md ops C n L (k + 1) listed a := by
  intro k
  induction k with
  | zero =>
    intro listed a inv _ hr hy H
    have hun := (mem_ready.1 hr).1
    refine ⟨fun h => (by rw [h] at hr; cases hr), fun j hj => ?_⟩
    have hjn : j < n := by
      rcases Nat.lt_or_ge j n with h | h
      · exact h
      · exact absurd hj (tail_waits hs hc hn inv _ i rfl hin hun j h)
    refine ⟨hjn, ?_⟩
    by_cases hji : j = i
    · subst hji; exact hy.qOp hi H
    · have h2 := hdone _ _ H j (ready_mono hj hji)
      omega
  | succ k ih =>
    intro listed a inv hfree hr hy H
    have hun := (mem_ready.1 hr).1
    refine ⟨fun h => (by rw [h] at hr; cases hr), fun j hj => ?_⟩
    have hjn : j < n := by
      rcases Nat.lt_or_ge j n with h | h
      · exact h
      · exact absurd hj (tail_waits hs hc hn inv _ i rfl hin hun j h)
    refine ⟨hjn, ?_⟩
    by_cases hji : j = i
    · subst hji; exact hy.qOp hi H
    · have h1 := (H.2 j (ready_mono hj hji)).2
      obtain ⟨hjun, oj, hoj, hall⟩ := mem_ready.1 hj
      have hnot : ∀ e ∈ oj.after, Region.binds md e = true → e.on ≠ i := fun e he hb heq => by
        have h3 := hall e he hb
        rw [heq, getD_both hun] at h3
        cases h3
      have h2 := qOp_put hoj (hfree j oj hoj hji hjun hnot) (fun cs b => hsel i oi cs b hi) (fun cs b => hsel j oj cs b hoj) hy h1
      refine qOp_mono (fun a' h3 => ih (listed.setIfInBounds j true) a' (inv.set hj hjn) (fun l ol hl hli hunl hno => ?_) (ready_mono hr (Ne.symm hji)) h3.1 ?_) h2
      · refine hfree l ol hl hli ?_ hno
        by_cases hjl : j = l
        · subst hjl; exact hjun
        · rw [getD_set_ne true hjl] at hunl; exact hunl
      · rw [Array.setIfInBounds_comm _ _ hji]
        exact h3.2

theorem anyHead_lex {n g : Nat} {Lq : Act → Prop} (hsel : Region.noSelect ops = true) (hs : Region.sinkB md ops n = true) (hc : Region.chainB md ops n = true) (hn : n < ops.size) :
    ∀ (l : List Oper) (k : Nat) (listed : Array Bool) (a : Act), (∀ j, j < l.length → l[j]? = ops[k + j]?) → k + l.length = n → HeadInv md ops n listed →
    Region.lexHead md ops g l.length k listed = true → wpQuiet P ops C Lq l a →
    anyHead P md ops C n (fun listed' a' => Region.seqB md ops g n listed' = true ∧ Lq a') l.length listed a := by
  intro l
  induction l with
  | nil =>
    intro k listed a _ hk _ hB h
    obtain rfl : k = n := by simpa using hk
    exact ⟨by simpa [Region.lexHead] using hB, h⟩
  | cons o l ih =>
    intro k listed a hl hk inv hB h
    have h0 : ops[k]? = some o := by simpa using (hl 0 (by simp)).symm
    simp only [List.length_cons, Region.lexHead, Bool.and_eq_true] at hB
    obtain ⟨⟨hr, hf⟩, hB'⟩ := hB
    have hkn : k < n := by simp only [List.length_cons] at hk; omega
    have hr' : k ∈ Region.ready md ops listed := by simpa using hr
    have hst : qOp P ops C k (wpQuiet P ops C Lq l) a := by unfold qOp; simp only [h0]; exact h
    obtain ⟨v, hy, hK⟩ := yieldsIn_of_qOp h0 hst
    exact anyHead_first h0 (Region.noSelect_spec hsel) hs hc hn hkn (fun listed' a' hL => seqB_ready hL.1) l.length listed a inv (Region.free_spec h0 hf) hr' hy
      (ih (k + 1) _ _ (fun j hj => by
        have h5 := hl (j + 1) (by simp; omega)
        have e : k + 1 + j = k + (j + 1) := by omega
        rw [e, ← h5]; simp) (by simp only [List.length_cons] at hk; omega) (inv.set hr' hkn) hB' hK)

/-- A region that draws: 'n' operations in whatever order, each quiet in the class; the rest behind them, one after the other, from whatever world of the class. -/
theorem region_tail {id : Nat} {Q : Exit → Act → World → Prop} {a : Act} {w : World} {l : List Oper} (n : Nat) (hm : P.follows .mixedOrders = true) (hB : Region.lexTailB .any l.toArray n = true)
    (hC : C { w with drawn := w.drawn + 1 })
    (h : wpQuiet P l.toArray C (fun a' => ∀ w', C w' → wpList P l.toArray Q (l.drop n) a' w') (l.take n) a) : (Code.region id l.toArray true).wp P Q a w := by
  simp only [Region.lexTailB, Bool.and_eq_true, decide_eq_true_eq] at hB
  obtain ⟨⟨⟨⟨hsel, hn⟩, hs⟩, hc⟩, hlex⟩ := hB
  have hn' : n < l.length := by simpa using hn
  have htl : (l.take n).length = n := by simp; omega
  have hdl : (l.drop n).length = l.toArray.size - n := by simp
  have inv0 : HeadInv .any l.toArray n (Array.replicate l.toArray.size false) :=
    ⟨by simp, fun j oj _ hl => (by rw [getD_replicate_false] at hl; cases hl), fun t _ ht => getD_in (by simpa using ht) (getD_replicate_false _ _)⟩
  have H := anyHead_lex (md := .any) (g := l.toArray.size - n) hsel hs hc hn (l.take n) 0 _ a (fun j hj => by
    have hj' : j < n := by rw [htl] at hj; exact hj
    simp [hj']) (by simpa using htl) inv0 (by rw [htl]; exact hlex) h
  refine wp_region_any hm ?_
  have h6 := wpAny_of_anyHead (Q := Q) (g := l.toArray.size - n) (fun listed a' w' hw' hL => by
    have h7 := wpAny_of_seq (md := .any) (Q' := Q) (l.drop n) n listed a' w' (fun j => by simp [List.getElem?_drop]) (by rw [hdl]; exact hL.1) (hL.2 w' hw')
    rwa [hdl] at h7) _ _ _ _ hC H
  rw [htl, show n + (l.toArray.size - n) = l.toArray.size by omega] at h6
  exact h6
end

/-! A block known whole, of four cells and of eight. -/
section
variable {w : World} {b : Nat} {t : TypeId}
theorem block_lt {o : Obj} (h : w.heap[b]? = some o) : b < w.heap.size := (Array.getElem?_eq_some_iff.1 h).1
theorem block_cell {c : Array Value} (h : w.heap[b]? = some (.cells c t (0, 0))) (o : Nat) : w.cell? ⟨b, o, none⟩ = c[o]? := by simp [World.cell?, h]
theorem block_free {c : Array Value} (h : w.heap[b]? = some (.cells c t (0, 0))) (o : Nat) : w.frozen? ⟨b, o, none⟩ = false := by simp [World.frozen?, h]
theorem block_set {c : Array Value} (h : w.heap[b]? = some (.cells c t (0, 0))) (o : Nat) (v : Value) : (w.setCell ⟨b, o, none⟩ v).heap[b]? = some (.cells (c.setIfInBounds o v) t (0, 0)) := by
  simp [World.setCell, Array.getElem?_modify, h]
theorem block_set_ne {b' : Nat} (hne : b' ≠ b) (o : Nat) (v : Value) : (w.setCell ⟨b', o, none⟩ v).heap[b]? = w.heap[b]? := Below.heap_setCell _ _ _ _ (Ne.symm hne)
theorem alloc_get (w : World) (o : Obj) (k : Nat) : (w.alloc o).heap[k]? = if k = w.heap.size then some o else w.heap[k]? := by
  show (w.heap.push o)[k]? = _
  rw [Array.getElem?_push]
theorem alloc_here {w : World} {o : Obj} {k : Nat} (h : k = w.heap.size) : (w.alloc o).heap[k]? = some o := by rw [alloc_get, if_pos h]
theorem alloc_old {w : World} {o : Obj} {k : Nat} (h : k < w.heap.size) : (w.alloc o).heap[k]? = w.heap[k]? := by rw [alloc_get, if_neg (by omega)]
theorem size_alloc (w : World) (o : Obj) : (w.alloc o).heap.size = w.heap.size + 1 := by simp
theorem le_size_later {w x : World} {b : Nat} (h : b ≤ w.heap.size) : b ≤ (later w x).heap.size := Nat.le_trans h (size_later w x)
theorem le_size_alloc {w : World} {o : Obj} {b : Nat} (h : b ≤ w.heap.size) : b ≤ (w.alloc o).heap.size := by rw [size_alloc]; omega
theorem le_size_set {w : World} {p : Addr} {v : Value} {b : Nat} (h : b ≤ w.heap.size) : b ≤ (w.setCell p v).heap.size := by simpa [World.setCell] using h
theorem le_size_drew {w : World} {b : Nat} (h : b ≤ w.heap.size) : b ≤ w.drew.heap.size := h
theorem drew_get (w : World) (k : Nat) : w.drew.heap[k]? = w.heap[k]? := rfl
/-- A whole value stored over a block of four cells. -/
theorem store_four {x0 x1 x2 x3 : Value} (h : w.heap[b]? = some (.cells #[x0, x1, x2, x3] t (0, 0))) (v0 v1 v2 v3 : Value) :
    ((((w.setCell ⟨b, 0, none⟩ v0).setCell ⟨b, 1, none⟩ v1).setCell ⟨b, 2, none⟩ v2).setCell ⟨b, 3, none⟩ v3).heap[b]? = some (.cells #[v0, v1, v2, v3] t (0, 0)) :=
  block_set (block_set (block_set (block_set h 0 v0) 1 v1) 2 v2) 3 v3
theorem store_four_ne {b' : Nat} (hne : b' ≠ b) (v0 v1 v2 v3 : Value) :
    ((((w.setCell ⟨b', 0, none⟩ v0).setCell ⟨b', 1, none⟩ v1).setCell ⟨b', 2, none⟩ v2).setCell ⟨b', 3, none⟩ v3).heap[b]? = w.heap[b]? := by
  rw [block_set_ne hne, block_set_ne hne, block_set_ne hne, block_set_ne hne]
theorem below_four {B : Nat} {a : World} (h : Below B a w) (hb : B ≤ b) (v0 v1 v2 v3 : Value) :
    Below B a ((((w.setCell ⟨b, 0, none⟩ v0).setCell ⟨b, 1, none⟩ v1).setCell ⟨b, 2, none⟩ v2).setCell ⟨b, 3, none⟩ v3) :=
  (((h.setCell hb v0).setCell hb v1).setCell hb v2).setCell hb v3
theorem store_eight {x0 x1 x2 x3 x4 x5 x6 x7 : Value} (h : w.heap[b]? = some (.cells #[x0, x1, x2, x3, x4, x5, x6, x7] t (0, 0))) (v0 v1 v2 v3 v4 v5 v6 v7 : Value) :
    ((((((((w.setCell ⟨b, 0, none⟩ v0).setCell ⟨b, 1, none⟩ v1).setCell ⟨b, 2, none⟩ v2).setCell ⟨b, 3, none⟩ v3).setCell ⟨b, 4, none⟩ v4).setCell ⟨b, 5, none⟩ v5).setCell ⟨b, 6, none⟩ v6).setCell ⟨b, 7, none⟩ v7).heap[b]? = some (.cells #[v0, v1, v2, v3, v4, v5, v6, v7] t (0, 0)) := by
  have h8 := block_set (block_set (block_set (block_set (block_set (block_set (block_set (block_set h 0 v0) 1 v1) 2 v2) 3 v3) 4 v4) 5 v5) 6 v6) 7 v7
  simpa using h8
theorem store_eight_ne {b' : Nat} (hne : b' ≠ b) (v0 v1 v2 v3 v4 v5 v6 v7 : Value) :
    ((((((((w.setCell ⟨b', 0, none⟩ v0).setCell ⟨b', 1, none⟩ v1).setCell ⟨b', 2, none⟩ v2).setCell ⟨b', 3, none⟩ v3).setCell ⟨b', 4, none⟩ v4).setCell ⟨b', 5, none⟩ v5).setCell ⟨b', 6, none⟩ v6).setCell ⟨b', 7, none⟩ v7).heap[b]? = w.heap[b]? := by
  rw [block_set_ne hne, block_set_ne hne, block_set_ne hne, block_set_ne hne, block_set_ne hne, block_set_ne hne, block_set_ne hne, block_set_ne hne]
theorem below_eight {B : Nat} {a : World} (h : Below B a w) (hb : B ≤ b) (v0 v1 v2 v3 v4 v5 v6 v7 : Value) :
    Below B a ((((((((w.setCell ⟨b, 0, none⟩ v0).setCell ⟨b, 1, none⟩ v1).setCell ⟨b, 2, none⟩ v2).setCell ⟨b, 3, none⟩ v3).setCell ⟨b, 4, none⟩ v4).setCell ⟨b, 5, none⟩ v5).setCell ⟨b, 6, none⟩ v6).setCell ⟨b, 7, none⟩ v7) :=
  (((((((h.setCell hb v0).setCell hb v1).setCell hb v2).setCell hb v3).setCell hb v4).setCell hb v5).setCell hb v6).setCell hb v7
theorem below_later {B : Nat} {a : World} (h : Below B a w) (hB : B ≤ w.heap.size) (x : World) : Below B a (later w x) := h.trans ((later_below w x).mono hB)
theorem block_later {x : World} {o : Obj} (h : w.heap[b]? = some o) : (later w x).heap[b]? = some o := by rw [heap_later (block_lt h), h]
theorem block_four {v0 v1 v2 v3 : Value} (h : w.heap[b]? = some (.cells #[v0, v1, v2, v3] t (0, 0))) :
    w.cell? ⟨b, 0, none⟩ = some v0 ∧ w.cell? ⟨b, 1, none⟩ = some v1 ∧ w.cell? ⟨b, 2, none⟩ = some v2 ∧ w.cell? ⟨b, 3, none⟩ = some v3 ∧ (∀ o, w.frozen? ⟨b, o, none⟩ = false) ∧ b < w.heap.size :=
  ⟨block_cell h 0, block_cell h 1, block_cell h 2, block_cell h 3, block_free h, block_lt h⟩
theorem block_eight {v0 v1 v2 v3 v4 v5 v6 v7 : Value} (h : w.heap[b]? = some (.cells #[v0, v1, v2, v3, v4, v5, v6, v7] t (0, 0))) :
    w.cell? ⟨b, 0, none⟩ = some v0 ∧ w.cell? ⟨b, 1, none⟩ = some v1 ∧ w.cell? ⟨b, 2, none⟩ = some v2 ∧ w.cell? ⟨b, 3, none⟩ = some v3 ∧
    w.cell? ⟨b, 4, none⟩ = some v4 ∧ w.cell? ⟨b, 5, none⟩ = some v5 ∧ w.cell? ⟨b, 6, none⟩ = some v6 ∧ w.cell? ⟨b, 7, none⟩ = some v7 ∧ (∀ o, w.frozen? ⟨b, o, none⟩ = false) ∧ b < w.heap.size :=
  ⟨block_cell h 0, block_cell h 1, block_cell h 2, block_cell h 3, block_cell h 4, block_cell h 5, block_cell h 6, block_cell h 7, block_free h, block_lt h⟩
end

theorem ownsRow_later {w x : World} {base : Nat} {e : TypeId} {size : Nat} {v : Value} {n : Nat} {xs : List Value} (h : w.ownsRow base e size v n xs) : (later w x).ownsRow base e size v n xs := by
  obtain ⟨h1, h2⟩ := h
  refine ⟨h1, ?_⟩
  rcases h2 with h2 | ⟨g, cap, cur, hv, hg, hh, r⟩
  · exact .inl h2
  · exact .inr ⟨g, cap, cur, hv, hg, by rw [heap_later (block_lt hh)]; exact hh, r⟩
theorem new_one (W : World) (x : Value) (t : TypeId) (j : Nat) (u : Value) (h : [x][j]? = some u) : (W.alloc (.cells #[x] t)).cell? ((⟨W.heap.size, 0, none⟩ : Addr).add j) = some u := by
  have hj : j = 0 := by
    rcases Nat.eq_zero_or_pos j with h0 | h0
    · exact h0
    · rw [List.getElem?_eq_none (by simp; omega)] at h; cases h
  subst hj
  have e : (⟨W.heap.size, 0, none⟩ : Addr).add 0 = ⟨W.heap.size, 0, none⟩ := rfl
  rw [e, block_cell (c := #[x]) (t := t) (alloc_here rfl) 0]
  simpa using h
theorem grown_get {w W w1 : World} {base : Nat} {e : TypeId} {size : Nat} {v : Value} {n : Nat} {xs : List Value} {k : Nat} (hg : W.grownBy w1 v.ownBlock) (ho : w.ownsRow base e size v n xs) (hk : k < base) (hW : k < W.heap.size) : w1.heap[k]? = W.heap[k]? := by
  refine hg.block k hW fun h => ?_
  have := (ho.lt k h.symm).1
  omega
theorem grown_below {w W w1 a : World} {B base : Nat} {e : TypeId} {size : Nat} {v : Value} {n : Nat} {xs : List Value} (hb : Below B a W) (hg : W.grownBy w1 v.ownBlock) (ho : w.ownsRow base e size v n xs) (hB : B ≤ base) (hW : B ≤ W.heap.size) : Below B a w1 :=
  hb.grown hg hW fun k h => Nat.le_trans hB (ho.lt k h).1
/-- A row of bytes of the call's own, as a text. -/
theorem own_text {P : Program} {w : World} {src e dst : TypeId} {base : Nat} {v : Value} {n : Nat} {l : List UInt8} (hs : P.underlying src = some (.slice e)) (he : P.underlying e = some (.int .u8)) (hd : P.underlying dst = some .string)
    (h : w.ownsRow base e 1 v n (l.map fun b => Value.int .u8 (b.toNat : Int))) : (convert src dst v).run P w = .ok (.string ⟨l.toArray⟩) w := by
  have hl : l.length = n := by have := h.1; simpa using this
  rcases h.2 with ⟨hv, hn⟩ | ⟨g, cap, cur, hv, hg, hh, hc1, hc2, hsz, htk⟩
  · subst hv
    have : l = [] := List.eq_nil_of_length_eq_zero (by omega)
    subst this
    exact run_convert_bytes_nil w src e hs he 0 0 dst hd
  · subst hv
    have hcell : ∀ i, i < n → w.cell? ⟨g, 0 + i, none⟩ = some (.int .u8 ((l.map fun b : UInt8 => (b.toNat : Int)).getD i 0)) := by
      intro i hi
      have h2 := h.cellAt i (by omega)
      rw [Nat.zero_add, h2]
      have hil : i < l.length := by omega
      simp [List.getElem?_eq_getElem hil]
    have h3 := run_convert_bytes_arg (P := P) w src e hs he g 0 n cap (l.map fun b : UInt8 => (b.toNat : Int)) (by simpa using hl) hcell dst hd
    rw [h3]
    congr 2
    unfold strOfNums
    congr 2
    rw [List.map_map]
    conv => rhs; rw [← List.map_id l]
    apply List.map_congr_left
    intro b _
    simp

/-- A literal of one byte, as a text. -/
theorem new_text {P : Program} (W : World) {src e dst : TypeId} (hs : P.underlying src = some (.slice e)) (he : P.underlying e = some (.int .u8)) (hd : P.underlying dst = some .string) (n : Nat) (hn : n < 256) :
    (convert src dst (.slice (some ⟨W.heap.size, 0, none⟩) 1 1)).run P (W.alloc (.cells #[.int .u8 (n : Int)] e)) = .ok (.string ⟨[UInt8.ofNat n].toArray⟩) (W.alloc (.cells #[.int .u8 (n : Int)] e)) := by
  refine own_text (n := 1) (base := 0) (l := [UInt8.ofNat n]) hs he hd ⟨rfl, .inr ⟨W.heap.size, 1, #[.int .u8 (n : Int)], rfl, Nat.zero_le _, alloc_here rfl, Nat.le_refl _, by unfold maxLen; omega, rfl, ?_⟩⟩
  have e9 : (UInt8.ofNat n).toNat = n := by simp; omega
  simp [e9]
theorem text_append (l r : List UInt8) : (⟨l.toArray⟩ : ByteArray) ++ ⟨r.toArray⟩ = ⟨(l ++ r).toArray⟩ := by
  apply ByteArray.ext
  simp

section
variable {P : Program}
/-- A region without calls: the world behind the draw under its own name. -/
theorem region_drew_tail {id : Nat} {Q : Exit → Act → World → Prop} {a : Act} {w : World} {l : List Oper} (n : Nat) (hm : P.follows .mixedOrders = true) (hB : Region.lexTailB .any l.toArray n = true)
    (h : wpStill P l.toArray w.drew (fun a' => wpList P l.toArray Q (l.drop n) a' w.drew) (l.take n) a) : (Code.region id l.toArray true).wp P Q a w :=
  wp_region_still_tail n hm hB h
/-- The class: what stands in 'w' stands. -/
theorem later_drew (w : World) : ∃ x, ({ w with drawn := w.drawn + 1 } : World) = later w x := exists_later ((Below.refl _ w).drew)
theorem region_pure {id : Nat} {Q : Exit → Act → World → Prop} {a : Act} {w : World} {l : List Oper} (hm : P.follows .mixedOrders = true) (hB : Region.lexB .any l.toArray = true)
    (h : wpQuiet P l.toArray (fun w' => ∃ x, w' = later w x) (fun a' => ∀ x, Q .normal a' (later w x)) l a) : (Code.region id l.toArray true).wp P Q a w := by
  refine wp_region_quiet (C := fun w' => ∃ x, w' = later w x) hm hB (later_drew w) ?_
  have e : (fun a' => ∀ x, Q .normal a' (later w x)) = (fun a' => ∀ w', (∃ x, w' = later w x) → Q .normal a' w') := by
    funext a'; apply propext; constructor
    · rintro h _ ⟨x, rfl⟩; exact h x
    · intro h x; exact h _ ⟨x, rfl⟩
  rw [← e]
  exact h
theorem region_pure_tail {id : Nat} {Q : Exit → Act → World → Prop} {a : Act} {w : World} {l : List Oper} (n : Nat) (hm : P.follows .mixedOrders = true) (hB : Region.lexTailB .any l.toArray n = true)
    (h : wpQuiet P l.toArray (fun w' => ∃ x, w' = later w x) (fun a' => ∀ x, wpList P l.toArray Q (l.drop n) a' (later w x)) (l.take n) a) : (Code.region id l.toArray true).wp P Q a w := by
  refine region_tail (C := fun w' => ∃ x, w' = later w x) n hm hB (later_drew w) ?_
  have e : (fun a' => ∀ x, wpList P l.toArray Q (l.drop n) a' (later w x)) = (fun a' => ∀ w', (∃ x, w' = later w x) → wpList P l.toArray Q (l.drop n) a' w') := by
    funext a'; apply propext; constructor
    · rintro h _ ⟨x, rfl⟩; exact h x
    · intro h x; exact h _ ⟨x, rfl⟩
  rw [← e]
  exact h
end
end Go.Eng
