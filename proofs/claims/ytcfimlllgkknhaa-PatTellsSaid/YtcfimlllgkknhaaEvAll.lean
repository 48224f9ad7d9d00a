import Derived.Deep.Quiet
import Derived.StillTail
import Derived.Deep.QuietTactic
import Derived.BigQuiet
import Derived.WalkKit
import Derived.WalkSpells
import Derived.Laws.BytesArg
import Derived.Laws.OwnMore
import Derived.Laws.CopyRow
import Derived.Laws.CopyOwn
import Derived.Deep.MidRow
import Derived.Test.YtcfimlllgkknhaaProg
import Derived.Test.YtcfimlllgkknhaaRows
import Derived.Laws.StructEq
import Derived.ProofKit
set_option linter.unusedSimpArgs false
set_option linter.unusedVariables false
namespace Go.Eng
open Go.RowKit

/-- The call hands back 'v' and turns nothing that existed. -/
def Pure (P : Program) (f : FuncId) (args : Array Value) (v : Value) : Prop :=
  ∀ w, Calls P f args w fun e w' => e = .returned v ∧ Below w.heap.size w w'

open Classical in
/-- Some world in which all that 'w' holds stands as in 'w'. -/
noncomputable def later (w x : World) : World := if Below w.heap.size w x then x else w

theorem later_below (w x : World) : Below w.heap.size w (later w x) := by
  unfold later
  split
  · assumption
  · exact Below.refl _ _
theorem later_of {w x : World} (h : Below w.heap.size w x) : later w x = x := if_pos h
theorem exists_later {w x : World} (h : Below w.heap.size w x) : ∃ y, x = later w y := ⟨x, (later_of h).symm⟩

theorem size_later (w x : World) : w.heap.size ≤ (later w x).heap.size := (later_below w x).size
/-- In every world in which all that W holds stands, the call hands back 'v' and turns nothing that existed. -/
def PureAt (P : Program) (W : World) (f : FuncId) (args : Array Value) (v : Value) : Prop :=
  ∀ x, Calls P f args (later W x) fun e w' => e = .returned v ∧ Below (later W x).heap.size (later W x) w'
theorem Pure.at {P : Program} {f : FuncId} {args : Array Value} {v : Value} (h : Pure P f args v) (W : World) : PureAt P W f args v := fun x => h (later W x)
theorem PureAt.here {P : Program} {W : World} {f : FuncId} {args : Array Value} {v : Value} (h : PureAt P W f args v) :
    Calls P f args W fun e w' => e = .returned v ∧ Below W.heap.size W w' := by
  have h1 := h W
  rw [later_of (Below.refl _ _)] at h1
  exact h1
theorem PureAt.on {P : Program} {W0 W : World} {f : FuncId} {args : Array Value} {v : Value} (h : PureAt P W0 f args v) (hb : Below W0.heap.size W0 W) : PureAt P W f args v := fun x => by
  obtain ⟨z, hz⟩ := exists_later (hb.trans ((later_below W x).mono hb.size))
  rw [hz]
  exact h z

section
end

section
variable {w : World} {b : Nat} {t : TypeId}
theorem block_lt {o : Obj} (h : w.heap[b]? = some o) : b < w.heap.size := (Array.getElem?_eq_some_iff.1 h).1
theorem block_cell {c : Array Value} (h : w.heap[b]? = some (.cells c t (0, 0))) (o : Nat) : w.cell? ⟨b, o, none⟩ = c[o]? := by simp [World.cell?, h]
theorem alloc_get (w : World) (o : Obj) (k : Nat) : (w.alloc o).heap[k]? = if k = w.heap.size then some o else w.heap[k]? := by
  show (w.heap.push o)[k]? = _
  rw [Array.getElem?_push]
theorem alloc_here {w : World} {o : Obj} {k : Nat} (h : k = w.heap.size) : (w.alloc o).heap[k]? = some o := by rw [alloc_get, if_pos h]
theorem alloc_old {w : World} {o : Obj} {k : Nat} (h : k < w.heap.size) : (w.alloc o).heap[k]? = w.heap[k]? := by rw [alloc_get, if_neg (by omega)]
end

section
variable {P : Program}
/-- The class: what stands in 'w' stands. -/
theorem later_drew (w : World) : ∃ x, ({ w with drawn := w.drawn + 1 } : World) = later w x := exists_later ((Below.refl _ w).drew)
theorem region_pure {id : Nat} {Q : Exit → Act → World → Prop} {a : Act} {w : World} {l : List Oper} (hm : P.follows .mixedOrders = true) (hB : Region.lexB .any l.toArray = true)
    (h : wpQuiet P l.toArray (fun w' => ∃ x, w' = later w x) (fun a' => ∀ x, Q .normal a' (later w x)) l a) : (Code.region id l.toArray true).wp P Q a w := by
  refine wp_region_quiet (C := fun w' => ∃ x, w' = later w x) hm hB (later_drew w) ?_
  have e : (fun a' => ∀ x, Q .normal a' (later w x)) = (fun a' => ∀ w', (∃ x, w' = later w x) → Q .normal a' w') := by
    funext a'; apply propext; constructor
    · rintro h _ ⟨x, rfl⟩; exact h x
    · intro h x; exact h _ ⟨x, rfl⟩
  rw [← e]
  exact h
end
end Go.Eng


set_option linter.unusedSimpArgs false
set_option linter.unusedVariables false
namespace Go.Eng
open Go.RowKit

section
variable {P : Program} {ops : Array Oper} {md : Region.Mode}

/-- What is asked of an operation's outcome in the world 'w': the value 'v', the world unturned; or a call that hands back 'v' and turns nothing. -/
def calmUpon (P : Program) (w : World) (v : Value) : Result Next → Prop
  | .ok (.value u) w' => w' = w ∧ u = v
  | .ok .skip w' => w' = w ∧ v = undef
  | .ok (.enter f args) w' => w' = w ∧ PureAt P w f args v
  | _ => False
/-- One value, in every world in which all that 'w0' holds stands. -/
def calm (P : Program) (w0 : World) (o : Oper) (a : Act) (next : Act → Prop) : Prop :=
  ∃ v, (∀ x, calmUpon P (later w0 x) v ((execOp a.eval o).run P (later w0 x))) ∧ next (a.put o.dst v)
attribute [go_sem] calmUpon calm

def wpCalm (P : Program) (ops : Array Oper) (w0 : World) (Q : Act → Prop) : List Oper → Act → Prop
  | [], a => Q a
  | o :: rest, a => if Region.wanted o (yielded ops a.tmps) then calm P w0 o a (wpCalm P ops w0 Q rest) else wpCalm P ops w0 Q rest (a.put o.dst undef)
theorem wpCalm_nil {w0 : World} {Q : Act → Prop} {a : Act} (h : Q a) : wpCalm P ops w0 Q [] a := h
/-- Operation 'o' leaves 'v' in its temporary. -/
def Gives (P : Program) (ops : Array Oper) (w0 : World) (o : Oper) (v : Value) (a : Act) : Prop :=
  (Region.wanted o (yielded ops a.tmps) = true ∧ ∀ x, calmUpon P (later w0 x) v ((execOp a.eval o).run P (later w0 x))) ∨
  (Region.wanted o (yielded ops a.tmps) = false ∧ v = undef)
theorem Gives.put {w0 : World} {oi : Oper} {v : Value} {a : Act} (hs : ∀ cs b, oi.op ≠ .select cs b) (dst : Option Tmp) (u : Value) (h : ∀ d, dst = some d → d ∉ oi.looksAt ops) :
    Gives P ops w0 oi v (a.put dst u) ↔ Gives P ops w0 oi v a := by
  unfold Gives
  rw [execOp_put oi hs a dst u h, wanted_put oi a dst u h]

/-- Whatever order is picked of the operations that are not listed yet, 'k' of them. -/
def anyCalm (P : Program) (md : Region.Mode) (ops : Array Oper) (w0 : World) (n : Nat) (L : Array Bool → Act → Prop) : Nat → Array Bool → Act → Prop
  | 0, listed, a => L listed a
  | k + 1, listed, a => Region.ready md ops listed ≠ [] ∧
      ∀ i ∈ Region.ready md ops listed, i < n ∧ ∃ o v, ops[i]? = some o ∧ Gives P ops w0 o v a ∧ anyCalm P md ops w0 n L k (listed.setIfInBounds i true) (a.put o.dst v)

theorem anyCalm_first {w0 : World} {n i : Nat} {oi : Oper} {v : Value} {L : Array Bool → Act → Prop} (hi : ops[i]? = some oi)
    (hsel : ∀ (j : Nat) (o : Oper) cs b, ops[j]? = some o → o.op ≠ .select cs b) (hin : i < n)
    (hready : ∀ (listed : Array Bool), HeadInv md ops n listed → listed.getD i true = false → ∀ j ∈ Region.ready md ops listed, j < n)
    (hdone : ∀ listed a, L listed a → ∀ j ∈ Region.ready md ops listed, n ≤ j) :
    ∀ (k : Nat) (listed : Array Bool) (a : Act), HeadInv md ops n listed →
      (∀ j oj, ops[j]? = some oj → j ≠ i → listed.getD j true = false → (∀ e ∈ oj.after, Region.binds md e = true → e.on ≠ i) → oi.apart ops oj = true) →
      i ∈ Region.ready md ops listed → Gives P ops w0 oi v a →
      anyCalm P md ops w0 n L k (listed.setIfInBounds i true) (a.put oi.dst v) → anyCalm P md ops w0 n L (k + 1) listed a := by
  intro k
  induction k with
  | zero =>
    intro listed a inv _ hr hy H
    have hun := (mem_ready.1 hr).1
    refine ⟨fun h => (by rw [h] at hr; cases hr), fun j hj => ?_⟩
    have hjn := hready listed inv hun j hj
    refine ⟨hjn, ?_⟩
    by_cases hji : j = i
    · subst hji; exact ⟨oi, v, hi, hy, H⟩
    · have h2 := hdone _ _ H j (ready_mono hj hji)
      omega
  | succ k ih =>
    intro listed a inv hfree hr hy H
    have hun := (mem_ready.1 hr).1
    refine ⟨fun h => (by rw [h] at hr; cases hr), fun j hj => ?_⟩
    have hjn := hready listed inv hun j hj
    refine ⟨hjn, ?_⟩
    by_cases hji : j = i
    · subst hji; exact ⟨oi, v, hi, hy, H⟩
    · obtain ⟨-, oj, u, hoj, hgj, hK⟩ := H.2 j (ready_mono hj hji)
      obtain ⟨hjun, oj', hoj', hall⟩ := mem_ready.1 hj
      obtain rfl : oj' = oj := Option.some.inj (hoj'.symm.trans hoj)
      have hnot : ∀ e ∈ oj'.after, Region.binds md e = true → e.on ≠ i := fun e he hb heq => by
        have h3 := hall e he hb
        rw [heq, getD_both hun] at h3
        cases h3
      obtain ⟨h1, h2, h3⟩ := Oper.apart_spec (hfree j oj' hoj hji hjun hnot)
      refine ⟨oj', u, hoj, (Gives.put (fun cs b => hsel j oj' cs b hoj) oi.dst v h1).1 hgj, ?_⟩
      refine ih (listed.setIfInBounds j true) (a.put oj'.dst u) (inv.set hj hjn) (fun l ol hl hli hunl hno => ?_) (ready_mono hr (Ne.symm hji)) ((Gives.put (fun cs b => hsel i oi cs b hi) oj'.dst u h3).2 hy) ?_
      · refine hfree l ol hl hli ?_ hno
        by_cases hjl : j = l
        · subst hjl; exact hjun
        · rw [getD_set_ne true hjl] at hunl; exact hunl
      · rw [Array.setIfInBounds_comm _ _ hji, ← Act.put_comm a v u h2]
        exact hK

/-- The operations of these numbers. -/
def picks (l : List Oper) (idx : List Nat) : List Oper := idx.filterMap (l[·]?)
def lexPicks (md : Region.Mode) (ops : Array Oper) (n g : Nat) : List Nat → Array Bool → Bool
  | [], listed => Region.seqB md ops g n listed
  | i :: idx, listed => decide (i < n) && (Region.ready md ops listed).contains i && Region.free md ops listed i && lexPicks md ops n g idx (listed.setIfInBounds i true)

theorem anyCalm_lex {w0 : World} {n g : Nat} {Lq : Act → Prop} (hsel : Region.noSelect ops = true)
    (hready : ∀ (i : Nat), i < n → ∀ (listed : Array Bool), HeadInv md ops n listed → listed.getD i true = false → ∀ j ∈ Region.ready md ops listed, j < n) :
    ∀ (idx : List Nat) (listed : Array Bool) (a : Act), HeadInv md ops n listed → lexPicks md ops n g idx listed = true → wpCalm P ops w0 Lq (picks ops.toList idx) a →
    anyCalm P md ops w0 n (fun listed' a' => Region.seqB md ops g n listed' = true ∧ Lq a') idx.length listed a := by
  intro idx
  induction idx with
  | nil => intro listed a _ hB h; exact ⟨hB, h⟩
  | cons i idx ih =>
    intro listed a inv hB h
    simp only [lexPicks, Bool.and_eq_true, decide_eq_true_eq] at hB
    obtain ⟨⟨⟨hin, hr⟩, hf⟩, hB'⟩ := hB
    have hr' : i ∈ Region.ready md ops listed := by simpa using hr
    obtain ⟨hun, oi, hoi, -⟩ := mem_ready.1 hr'
    have hl : ops.toList[i]? = some oi := by simpa using hoi
    have hp : picks ops.toList (i :: idx) = oi :: picks ops.toList idx := by
      unfold picks
      rw [List.filterMap_cons, hl]
    rw [hp] at h
    have hv : ∃ v, Gives P ops w0 oi v a ∧ wpCalm P ops w0 Lq (picks ops.toList idx) (a.put oi.dst v) := by
      unfold wpCalm at h
      by_cases hw : Region.wanted oi (yielded ops a.tmps) = true
      · rw [if_pos hw] at h
        obtain ⟨v, h1, h2⟩ := h
        exact ⟨v, .inl ⟨hw, h1⟩, h2⟩
      · rw [if_neg hw] at h
        exact ⟨undef, .inr ⟨by simpa using hw, rfl⟩, h⟩
    obtain ⟨v, hy, hK⟩ := hv
    exact anyCalm_first hoi (Region.noSelect_spec hsel) hin (hready i hin) (fun listed' a' hL => seqB_ready hL.1) idx.length listed a inv (Region.free_spec hoi hf) hr' hy
      (ih _ _ (inv.set hr' hin) hB' hK)

def newPtr (b : Nat) : Value := .pointer (some ⟨b, 0, none⟩)
/-- A frame with the new variables that are there. -/
def withNew (dst : Nat → Option Tmp) (D : Nat → Bool) (ν : Nat → Nat) : List Nat → Act → Act
  | [], a => a
  | i :: al, a => withNew dst D ν al (if D i then a.put (dst i) (newPtr (ν i)) else a)

theorem withNew_put {dst : Nat → Option Tmp} {D : Nat → Bool} {ν : Nat → Nat} {d : Option Tmp} (v : Value) : ∀ (al : List Nat) (a : Act), (∀ i ∈ al, ∀ x, dst i = some x → d ≠ some x) →
    withNew dst D ν al (a.put d v) = (withNew dst D ν al a).put d v
  | [], a, _ => rfl
  | i :: al, a, h => by
    unfold withNew
    have h1 := h i (List.mem_cons_self ..)
    have h2 : ∀ j ∈ al, ∀ x, dst j = some x → d ≠ some x := fun j hj => h j (List.mem_cons_of_mem _ hj)
    cases hD : D i
    · simp only [Bool.false_eq_true, if_false]; exact withNew_put v al a h2
    · simp only [if_true]
      rw [← Act.put_comm a (newPtr (ν i)) v (fun x hx => h1 x hx)]
      exact withNew_put v al _ h2
theorem withNew_congr {dst : Nat → Option Tmp} {D D' : Nat → Bool} {ν ν' : Nat → Nat} : ∀ (al : List Nat) (a : Act), (∀ i ∈ al, D i = D' i) → (∀ i ∈ al, D i = true → ν i = ν' i) → withNew dst D ν al a = withNew dst D' ν' al a
  | [], a, _, _ => rfl
  | i :: al, a, h1, h2 => by
    unfold withNew
    have e := h1 i (List.mem_cons_self ..)
    have ih := fun b => withNew_congr (dst := dst) al b (fun j hj => h1 j (List.mem_cons_of_mem _ hj)) (fun j hj => h2 j (List.mem_cons_of_mem _ hj))
    cases hD : D i
    · rw [← e, hD]; exact ih _
    · rw [← e, hD, h2 i (List.mem_cons_self ..) hD]; exact ih _
/-- One more new variable. -/
theorem withNew_add {dst : Nat → Option Tmp} {D : Nat → Bool} {ν : Nat → Nat} {j b : Nat} : ∀ (al : List Nat) (a : Act), al.Nodup → j ∈ al → D j = false → (∀ i ∈ al, i ≠ j → ∀ x, dst i = some x → dst j ≠ some x) →
    withNew dst (fun i => if i = j then true else D i) (fun i => if i = j then b else ν i) al a = (withNew dst D ν al a).put (dst j) (newPtr b)
  | [], _, _, h, _, _ => by cases h
  | i :: al, a, hn, hj, hD, hd => by
    rw [List.nodup_cons] at hn
    by_cases hij : i = j
    · subst hij
      have e1 : withNew dst (fun k => if k = i then true else D k) (fun k => if k = i then b else ν k) (i :: al) a = withNew dst (fun k => if k = i then true else D k) (fun k => if k = i then b else ν k) al (a.put (dst i) (newPtr b)) := by
        conv => lhs; unfold withNew
        simp only [if_true]
      have e2 : withNew dst D ν (i :: al) a = withNew dst D ν al a := by
        conv => lhs; unfold withNew
        simp only [hD, Bool.false_eq_true, if_false]
      rw [e1, e2, withNew_put _ _ _ (fun k hk => hd k (List.mem_cons_of_mem _ hk) (fun h : k = i => hn.1 (h ▸ hk)))]
      congr 1
      exact withNew_congr al a (fun k hk => if_neg (fun h : k = i => hn.1 (h ▸ hk))) (fun k hk _ => if_neg (fun h : k = i => hn.1 (h ▸ hk)))
    · have hj' : j ∈ al := by
        rcases List.mem_cons.1 hj with h | h
        · exact absurd h.symm hij
        · exact h
      unfold withNew
      rw [if_neg hij, if_neg hij]
      exact withNew_add al _ hn.2 hj' hD (fun k hk => hd k (List.mem_cons_of_mem _ hk))
theorem withNew_look {dst : Nat → Option Tmp} {D : Nat → Bool} {ν : Nat → Nat} {o : Oper} (hs : ∀ cs b, o.op ≠ .select cs b) : ∀ (al : List Nat) (a : Act), (∀ i ∈ al, ∀ x, dst i = some x → x ∉ o.looksAt ops) →
    execOp (withNew dst D ν al a).eval o = execOp a.eval o ∧ Region.wanted o (yielded ops (withNew dst D ν al a).tmps) = Region.wanted o (yielded ops a.tmps)
  | [], a, _ => ⟨rfl, rfl⟩
  | i :: al, a, h => by
    unfold withNew
    have ih := fun b => withNew_look (dst := dst) (D := D) (ν := ν) hs al b (fun j hj => h j (List.mem_cons_of_mem _ hj))
    have h1 := h i (List.mem_cons_self ..)
    cases hD : D i
    · simp only [Bool.false_eq_true, if_false]; exact ih a
    · simp only [if_true]
      rw [(ih _).1, (ih _).2]
      exact ⟨execOp_put o hs a _ _ h1, wanted_put o a _ _ h1⟩

/-- A world behind new variables: all of 'w0' stands; each new variable is a block of its own. -/
structure HasNew (w0 : World) (obj : Nat → Obj) (al : List Nat) (D : Nat → Bool) (ν : Nat → Nat) (w : World) : Prop where
  below : Below w0.heap.size w0 w
  block : ∀ i ∈ al, D i = true → w.heap[ν i]? = some (obj i)
  new : ∀ i ∈ al, D i = true → w0.heap.size ≤ ν i
  apart : ∀ i ∈ al, ∀ j ∈ al, D i = true → D j = true → i ≠ j → ν i ≠ ν j
theorem HasNew.on {w0 : World} {obj : Nat → Obj} {al : List Nat} {D : Nat → Bool} {ν : Nat → Nat} {w w' : World} (h : HasNew w0 obj al D ν w) (hb : Below w.heap.size w w') : HasNew w0 obj al D ν w' :=
  ⟨h.below.trans (hb.mono h.below.size), fun i hi hD => by rw [hb.block _ (block_lt (h.block i hi hD))]; exact h.block i hi hD, h.new, h.apart⟩
theorem HasNew.add {w0 : World} {obj : Nat → Obj} {al : List Nat} {D : Nat → Bool} {ν : Nat → Nat} {w : World} (h : HasNew w0 obj al D ν w) (j : Nat) :
    HasNew w0 obj al (fun i => if i = j then true else D i) (fun i => if i = j then w.heap.size else ν i) (w.alloc (obj j)) := by
  refine ⟨h.below.alloc h.below.size _, fun i hi hD => ?_, fun i hi hD => ?_, fun i hi k hk hDi hDk hne => ?_⟩
  · by_cases e : i = j
    · subst e; simp only [if_true]; exact alloc_here rfl
    · simp only [if_neg e] at hD ⊢
      have h1 := h.block i hi hD
      rw [alloc_old (block_lt h1)]; exact h1
  · by_cases e : i = j
    · simp only [if_pos e]; exact h.below.size
    · simp only [if_neg e] at hD ⊢; exact h.new i hi hD
  · have lt : ∀ x ∈ al, x ≠ j → (if x = j then true else D x) = true → ν x < w.heap.size := fun x hx e hD => by
      simp only [if_neg e] at hD; exact block_lt (h.block x hx hD)
    by_cases e : i = j
    · have e2 : k ≠ j := fun e2 => hne (e.trans e2.symm)
      simp only [if_pos e, if_neg e2]
      have h3 := lt k hk e2 hDk
      exact fun h4 => by rw [h4] at h3; exact Nat.lt_irrefl _ h3
    · by_cases e2 : k = j
      · simp only [if_neg e, if_pos e2]
        exact Nat.ne_of_lt (lt i hi e hDi)
      · simp only [if_neg e, if_neg e2] at hDi hDk ⊢
        exact h.apart i hi k hk hDi hDk hne

/-- 'listed', with the new variables as if they were there. -/
def marked (al : List Nat) (listed : Array Bool) : Array Bool := al.foldl (fun l i => l.setIfInBounds i true) listed
theorem marked_size (al : List Nat) : ∀ listed : Array Bool, (marked al listed).size = listed.size := by
  induction al with
  | nil => intro _; rfl
  | cons i al ih => intro listed; show (marked al (listed.setIfInBounds i true)).size = _; rw [ih]; simp
theorem marked_get (al : List Nat) : ∀ (listed : Array Bool) (j : Nat) (d : Bool), (marked al listed).getD j d = if j ∈ al ∧ j < listed.size then true else listed.getD j d := by
  induction al with
  | nil => intro listed j d; simp [marked]
  | cons i al ih =>
    intro listed j d
    show (marked al (listed.setIfInBounds i true)).getD j d = _
    rw [ih]
    simp only [Array.size_setIfInBounds, List.mem_cons]
    by_cases hj : j < listed.size
    · by_cases hij : i = j
      · subst hij; simp [hj]
      · rw [getD_set_ne d hij]
        have : ¬ j = i := fun e => hij e.symm
        simp [hj, this]
    · simp [hj, Array.getElem?_eq_none (Nat.le_of_not_lt hj)]

def newTailB (md : Region.Mode) (ops : Array Oper) (idx al : List Nat) (n : Nat) : Bool :=
  Region.noSelect ops && decide (n < ops.size) && Region.sinkB md ops n && Region.chainB md ops n &&
  al.all (fun i => decide (i < n) && match ops[i]? with | some o => o.after.isEmpty && o.guard.isNone | none => false) &&
  decide al.Nodup && decide (al.length + idx.length = n) &&
  al.all (fun i => (List.range n).all fun j => j == i || match ops[i]?, ops[j]? with | some oi, some oj => oi.apart ops oj | _, _ => false) &&
  lexPicks md ops n (ops.size - n) idx (marked al (Array.replicate ops.size false))

structure NewTail (md : Region.Mode) (ops : Array Oper) (al : List Nat) (n : Nat) : Prop where
  sel : ∀ (j : Nat) (o : Oper) cs b, ops[j]? = some o → o.op ≠ .select cs b
  lt : n < ops.size
  waits : ∀ (listed : Array Bool), HeadInv md ops n listed → ∀ i, i < n → listed.getD i true = false → ∀ t, n ≤ t → t ∉ Region.ready md ops listed
  fresh : ∀ i ∈ al, i < n ∧ ∃ o, ops[i]? = some o ∧ o.after = #[] ∧ o.guard = none
  nodup : al.Nodup
  apart : ∀ i ∈ al, ∀ j, j < n → j ≠ i → ∀ oi oj, ops[i]? = some oi → ops[j]? = some oj → oi.apart ops oj = true

def dstOf (ops : Array Oper) (i : Nat) : Option Tmp := (ops[i]?).bind (·.dst)

theorem ext_getD {x y : Array Bool} (hs : x.size = y.size) (h : ∀ j, j < y.size → x.getD j false = y.getD j false) : x = y :=
  Array.ext hs fun j h1 h2 => by have h3 := h j h2; simpa [h1, h2] using h3
theorem marked_same {al : List Nat} {listed : Array Bool} (h : ∀ i ∈ al, i < listed.size → listed.getD i false = true) : marked al listed = listed := by
  refine ext_getD (marked_size _ _) fun j hj => ?_
  rw [marked_get]
  by_cases h1 : j ∈ al ∧ j < listed.size
  · rw [if_pos h1]; exact (h j h1.1 h1.2).symm
  · rw [if_neg h1]
theorem marked_set {al : List Nat} {listed : Array Bool} {j : Nat} : marked al (listed.setIfInBounds j true) = (marked al listed).setIfInBounds j true := by
  induction al generalizing listed with
  | nil => rfl
  | cons i al ih =>
    show marked al ((listed.setIfInBounds j true).setIfInBounds i true) = (marked al (listed.setIfInBounds i true)).setIfInBounds j true
    rw [← ih]
    by_cases h : i = j
    · subst h; rfl
    · rw [Array.setIfInBounds_comm _ _ (fun e => h e.symm)]
theorem marked_set_in {al : List Nat} {listed : Array Bool} {j : Nat} (hj : j ∈ al) : marked al (listed.setIfInBounds j true) = marked al listed := by
  refine ext_getD (by rw [marked_size, marked_size]; simp) fun i hi => ?_
  rw [marked_get, marked_get]
  by_cases e : j = i
  · subst e
    by_cases hs : j < listed.size
    · simp [hj, hs]
    · rw [marked_size] at hi; exact absurd hi hs
  · rw [getD_set_ne false e]
    simp
theorem ready_marked {al : List Nat} {listed : Array Bool} {j : Nat} (hj : j ∈ Region.ready md ops listed) (hna : j ∉ al) : j ∈ Region.ready md ops (marked al listed) := by
  obtain ⟨h1, o, ho, h2⟩ := mem_ready.1 hj
  refine mem_ready.2 ⟨?_, o, ho, fun e he hb => ?_⟩
  · rw [marked_get]; simp only [hna, false_and, if_false]; exact h1
  · rw [marked_get]; split
    · rfl
    · exact h2 e he hb

theorem wpAny_mix {w0 : World} {n g : Nat} {al : List Nat} {obj : Nat → Obj} {L : Array Bool → Act → Prop} {Q : Exit → Act → World → Prop} (T : NewTail md ops al n)
    (hal : ∀ i ∈ al, ∀ o, ops[i]? = some o → ∀ ρ W, (execOp ρ o).run P W = .ok (.value (newPtr W.heap.size)) (W.alloc (obj i)))
    (hdone : ∀ listed a, L listed a → ∀ j ∈ Region.ready md ops listed, n ≤ j)
    (hL : ∀ listed a ν w, L listed a → HasNew w0 obj al (fun _ => true) ν w → wpAny P md ops Q g listed (withNew (dstOf ops) (fun _ => true) ν al a) w) :
    ∀ (s m k : Nat) (listed : Array Bool) (a : Act) (ν : Nat → Nat) (w : World), m + k = s → m = al.countP (fun i => !listed.getD i false) → HeadInv md ops n listed →
      HasNew w0 obj al (fun i => listed.getD i false) ν w → anyCalm P md ops w0 n L k (marked al listed) a →
      wpAny P md ops Q (s + g) listed (withNew (dstOf ops) (fun i => listed.getD i false) ν al a) w := by
  intro s
  induction s with
  | zero =>
    intro m k listed a ν w hs hm inv hw H
    obtain rfl : m = 0 := by omega
    obtain rfl : k = 0 := by omega
    have hall : ∀ i ∈ al, listed.getD i false = true := fun i hi => by
      have h1 := List.countP_eq_zero.1 hm.symm i hi
      simpa using h1
    rw [marked_same (fun i hi _ => hall i hi)] at H
    rw [Nat.zero_add, withNew_congr (D' := fun _ => true) (ν' := ν) al a hall (fun _ _ _ => rfl)]
    exact hL listed a ν w H ⟨hw.below, fun i hi _ => hw.block i hi (hall i hi), fun i hi _ => hw.new i hi (hall i hi), fun i hi j hj _ _ => hw.apart i hi j hj (hall i hi) (hall j hj)⟩
  | succ s ih =>
    intro m k listed a ν w hs hm inv hw H
    -- some operation of the head is not listed, and some is ready
    have hhead : ∃ i, i < n ∧ listed.getD i true = false ∧ Region.ready md ops listed ≠ [] := by
      by_cases hm0 : m = 0
      · have hall : ∀ i ∈ al, listed.getD i false = true := fun i hi => by
          have h1 := List.countP_eq_zero.1 (hm0 ▸ hm).symm i hi
          simpa using h1
        obtain ⟨k', rfl⟩ : ∃ k', k = k' + 1 := ⟨k - 1, by omega⟩
        rw [marked_same (fun i hi _ => hall i hi)] at H
        obtain ⟨h1, h2⟩ := H
        obtain ⟨i, hi⟩ := List.exists_mem_of_ne_nil _ h1
        exact ⟨i, (h2 i hi).1, (mem_ready.1 hi).1, h1⟩
      · have hpos : 0 < al.countP (fun i => !listed.getD i false) := by omega
        obtain ⟨i, hi, hun⟩ := List.countP_pos_iff.1 hpos
        obtain ⟨hin, o, ho, ha, -⟩ := T.fresh i hi
        have hun' : listed.getD i false = false := by simpa using hun
        have hun2 : listed.getD i true = false := getD_in (by rw [inv.size]; have := T.lt; omega) hun'
        have hr : i ∈ Region.ready md ops listed := mem_ready.2 ⟨hun2, o, ho, fun e he => by rw [ha] at he; simp at he⟩
        exact ⟨i, hin, hun2, fun h => (by rw [h] at hr; cases hr)⟩
    obtain ⟨i0, hi0, hu0, hne⟩ := hhead
    have e : s + 1 + g = (s + g) + 1 := by omega
    rw [e]
    refine ⟨fun h0 => absurd h0 hne, fun j hj => ?_⟩
    have hjn : j < n := by
      rcases Nat.lt_or_ge j n with h | h
      · exact h
      · exact absurd hj (T.waits listed inv i0 hi0 hu0 j h)
    obtain ⟨hjun, oj, hoj, -⟩ := mem_ready.1 hj
    have hjs : j < listed.size := by rw [inv.size]; exact (Array.getElem?_eq_some_iff.1 hoj).1
    unfold wpOp
    simp only [hoj]
    by_cases hja : j ∈ al
    · -- a new variable
      obtain ⟨-, o, ho, -, hg⟩ := T.fresh j hja
      obtain rfl : oj = o := Option.some.inj (hoj.symm.trans ho)
      have hwant : ∀ f, Region.wanted oj f = true := fun f => by simp [Region.wanted, hg]
      rw [if_pos (hwant _)]
      refine .inl ?_
      unfold Oper.wp
      rw [hal j hja oj hoj, Oper.upon_value]
      have hDj : listed.getD j false = false := getD_both hjun
      have hdst : dstOf ops j = oj.dst := by simp [dstOf, hoj]
      have hset : ∀ i, (listed.setIfInBounds j true).getD i false = if i = j then true else listed.getD i false := fun i => by
        by_cases e : i = j
        · subst e; rw [if_pos rfl, Array.getD_eq_getD_getElem?, Array.getElem?_setIfInBounds_self_of_lt hjs]; rfl
        · rw [if_neg e, getD_set_ne false (fun h => e h.symm)]
      have hadd := withNew_add (dst := dstOf ops) (D := fun i => listed.getD i false) (ν := ν) (j := j) (b := w.heap.size) al a T.nodup hja hDj (fun i hi hij x hx => by
        obtain ⟨hin, oi, hoi, -⟩ := T.fresh i hi
        have h1 := T.apart j hja i hin hij oj oi hoj hoi
        have h2 := (Oper.apart_spec h1).2.1
        rw [hdst]
        intro h3
        have h4 : dstOf ops i = oi.dst := by simp [dstOf, hoi]
        rw [h4] at hx
        exact h2 x h3 hx)
      rw [← hdst, ← hadd, withNew_congr (D' := fun i => (listed.setIfInBounds j true).getD i false) (ν' := fun i => if i = j then w.heap.size else ν i) al a (fun i _ => (hset i).symm) (fun _ _ _ => rfl)]
      have hcount : al.countP (fun i => !(listed.setIfInBounds j true).getD i false) + 1 = al.countP (fun i => !listed.getD i false) := by
        have hnd := T.nodup
        clear hadd H hw hm ih
        have aux : ∀ l : List Nat, l.Nodup → (j ∈ l → l.countP (fun i => !(listed.setIfInBounds j true).getD i false) + 1 = l.countP (fun i => !listed.getD i false)) ∧
            (j ∉ l → l.countP (fun i => !(listed.setIfInBounds j true).getD i false) = l.countP (fun i => !listed.getD i false)) := by
          intro l
          induction l with
          | nil => intro _; exact ⟨fun h => (by cases h), fun _ => rfl⟩
          | cons x l ihl =>
            intro hn
            rw [List.nodup_cons] at hn
            obtain ⟨i1, i2⟩ := ihl hn.2
            simp only [List.countP_cons, hset]
            simp only [hset] at i1 i2
            by_cases hx : x = j
            · subst hx
              refine ⟨fun _ => ?_, fun h => absurd (List.mem_cons_self ..) h⟩
              have h5 := i2 hn.1
              rw [h5, hDj]
              simp
            · refine ⟨fun h => ?_, fun h => ?_⟩
              · have hjl : j ∈ l := by
                  rcases List.mem_cons.1 h with h | h
                  · exact absurd h.symm hx
                  · exact h
                have h5 := i1 hjl
                simp only [if_neg hx]
                omega
              · have hjl : j ∉ l := fun h6 => h (List.mem_cons_of_mem _ h6)
                have h5 := i2 hjl
                simp only [if_neg hx]
                omega
        exact (aux al hnd).1 hja
      refine ih (m - 1) k _ a _ _ (by omega) (by omega) (inv.set hj hjn) ?_ (by rw [marked_set_in hja]; exact H)
      have h6 := hw.add j
      refine ⟨h6.below, fun i hi hD => h6.block i hi ?_, fun i hi hD => h6.new i hi ?_, fun i hi x hx h1 h2 => h6.apart i hi x hx ?_ ?_⟩
      · rw [hset] at hD; exact hD
      · rw [hset] at hD; exact hD
      · rw [hset] at h1; exact h1
      · rw [hset] at h2; exact h2
    · -- one of the others
      have hr := ready_marked hj hja
      obtain ⟨k', rfl⟩ : ∃ k', k = k' + 1 := by
        rcases Nat.eq_zero_or_pos k with h | h
        · subst h
          have h1 := hdone _ _ H j hr
          omega
        · exact ⟨k - 1, by omega⟩
      obtain ⟨-, o, v, ho, hgv, hK⟩ := H.2 j hr
      obtain rfl : oj = o := Option.some.inj (hoj.symm.trans ho)
      have hlook : ∀ i ∈ al, ∀ x, dstOf ops i = some x → x ∉ oj.looksAt ops := fun i hi x hx => by
        obtain ⟨hin, oi, hoi, -⟩ := T.fresh i hi
        have h1 := T.apart i hi j hjn (fun h : j = i => hja (h ▸ hi)) oi oj hoi hoj
        have h4 : dstOf ops i = oi.dst := by simp [dstOf, hoi]
        rw [h4] at hx
        exact (Oper.apart_spec h1).1 x hx
      have hdd : ∀ i ∈ al, ∀ x, dstOf ops i = some x → oj.dst ≠ some x := fun i hi x hx => by
        obtain ⟨hin, oi, hoi, -⟩ := T.fresh i hi
        have h1 := T.apart i hi j hjn (fun h : j = i => hja (h ▸ hi)) oi oj hoi hoj
        have h4 : dstOf ops i = oi.dst := by simp [dstOf, hoi]
        rw [h4] at hx
        exact (Oper.apart_spec h1).2.1 x hx
      obtain ⟨l1, l2⟩ := withNew_look (ops := ops) (dst := dstOf ops) (D := fun i => listed.getD i false) (ν := ν) (o := oj) (fun cs b => T.sel j oj cs b hoj) al a hlook
      have hset : ∀ i ∈ al, listed.getD i false = (listed.setIfInBounds j true).getD i false := fun i hi => by
        rw [getD_set_ne false (fun h : j = i => hja (h ▸ hi))]
      have next : ∀ w', HasNew w0 obj al (fun i => listed.getD i false) ν w' → wpAny P md ops Q (s + g) (listed.setIfInBounds j true) ((withNew (dstOf ops) (fun i => listed.getD i false) ν al a).put oj.dst v) w' := by
        intro w' hw'
        rw [← withNew_put v al a hdd, withNew_congr (D' := fun i => (listed.setIfInBounds j true).getD i false) (ν' := ν) al _ hset (fun _ _ _ => rfl)]
        refine ih m k' _ _ ν w' (by omega) ?_ (inv.set hj hjn) ?_ ?_
        · rw [hm]
          apply List.countP_congr
          intro i hi
          rw [hset i hi]
        · exact ⟨hw'.below, fun i hi hD => hw'.block i hi ((hset i hi).trans hD), fun i hi hD => hw'.new i hi ((hset i hi).trans hD), fun i hi x hx h1 h2 => hw'.apart i hi x hx ((hset i hi).trans h1) ((hset x hx).trans h2)⟩
        · rw [marked_set]; exact hK
      rw [l2]
      rcases hgv with ⟨hwt, hc⟩ | ⟨hwt, rfl⟩
      · rw [if_pos hwt]
        refine .inl ?_
        obtain ⟨x, hx⟩ := exists_later hw.below
        have h7 := hc x
        rw [← hx] at h7
        unfold Oper.wp
        rw [l1]
        generalize (execOp a.eval oj).run P w = r at h7
        cases r with
        | ok nx w' =>
          cases nx <;> simp only [calmUpon] at h7 <;> simp only [Oper.upon]
          case value u => obtain ⟨rfl, rfl⟩ := h7; exact next _ hw
          case skip => obtain ⟨rfl, rfl⟩ := h7; exact next _ hw
          case enter f args =>
            obtain ⟨rfl, hp⟩ := h7
            exact hp.here.mono fun e w'' ⟨he, hb⟩ => by subst he; exact next _ (hw.on hb)
        | halt x w' => simp only [calmUpon] at h7
      · rw [if_neg (by rw [hwt]; exact Bool.false_ne_true)]
        exact next _ hw

theorem newTail_of {idx al : List Nat} {n : Nat} (hB : newTailB md ops idx al n = true) :
    NewTail md ops al n ∧ Region.noSelect ops = true ∧ al.length + idx.length = n ∧ lexPicks md ops n (ops.size - n) idx (marked al (Array.replicate ops.size false)) = true := by
  simp only [newTailB, Bool.and_eq_true, decide_eq_true_eq] at hB
  obtain ⟨⟨⟨⟨⟨⟨⟨⟨h1, h2⟩, h3⟩, h4⟩, h5⟩, h6⟩, h7⟩, h8⟩, h9⟩ := hB
  refine ⟨⟨Region.noSelect_spec h1, h2, fun listed inv i hi hun t ht => tail_waits h3 h4 h2 inv _ i rfl hi hun t ht, fun i hi => ?_, h6, fun i hi j hj hji oi oj hoi hoj => ?_⟩, h1, h7, h9⟩
  · have h := List.all_eq_true.1 h5 i hi
    simp only [Bool.and_eq_true, decide_eq_true_eq] at h
    refine ⟨h.1, ?_⟩
    cases ho : ops[i]? with
    | none => rw [ho] at h; exact absurd h.2 Bool.false_ne_true
    | some o =>
      rw [ho] at h
      have h' := h.2
      simp only [Bool.and_eq_true] at h'
      exact ⟨o, rfl, by simpa using h'.1, by simpa using h'.2⟩
  · have h := List.all_eq_true.1 (List.all_eq_true.1 h8 i hi) j (List.mem_range.2 hj)
    rw [hoi, hoj] at h
    simpa [hji] using h

theorem marked_inv {al : List Nat} {n : Nat} (T : NewTail md ops al n) : HeadInv md ops n (marked al (Array.replicate ops.size false)) := by
  refine ⟨by rw [marked_size]; simp, fun j oj hj hl e he hb => ?_, fun t ht ht' => ?_⟩
  · rw [marked_get] at hl
    by_cases h : j ∈ al ∧ j < (Array.replicate ops.size false).size
    · obtain ⟨-, o, ho, ha, -⟩ := T.fresh j h.1
      obtain rfl : oj = o := Option.some.inj (hj.symm.trans ho)
      rw [ha] at he; simp at he
    · rw [if_neg h, getD_replicate_false] at hl; cases hl
  · rw [marked_get, if_neg]
    · exact getD_in (by simpa using ht') (getD_replicate_false _ _)
    · intro h
      have := (T.fresh t h.1).1
      omega

/-- A REGION THAT DRAWS, with new variables 'al' among its first 'n' operations: the others are walked in the text's order; behind them the tail, in whatever world has the new variables. -/
theorem region_new {id : Nat} {Q : Exit → Act → World → Prop} {a : Act} {w : World} {l : List Oper} (n : Nat) (idx al : List Nat) (obj : Nat → Obj)
    (hm : P.follows .mixedOrders = true) (hB : newTailB .any l.toArray idx al n = true)
    (hal : ∀ i ∈ al, ∀ o, l[i]? = some o → ∀ ρ W, (execOp ρ o).run P W = .ok (.value (newPtr W.heap.size)) (W.alloc (obj i)))
    (h : wpCalm P l.toArray w (fun a' => ∀ ν W, HasNew w obj al (fun _ => true) ν W → wpList P l.toArray Q (l.drop n) (withNew (dstOf l.toArray) (fun _ => true) ν al a') W) (picks l idx) a) :
    (Code.region id l.toArray true).wp P Q a w := by
  obtain ⟨T, hsel, hlen, hlex⟩ := newTail_of hB
  have hn' : n < l.length := by simpa using T.lt
  have hdl : (l.drop n).length = l.toArray.size - n := by simp
  have H := anyCalm_lex (P := P) (md := .any) (w0 := w) (g := l.toArray.size - n) hsel (fun i hi listed inv hun j hj => by
      rcases Nat.lt_or_ge j n with h | h
      · exact h
      · exact absurd hj (T.waits listed inv i hi hun j h)) idx (marked al (Array.replicate l.toArray.size false)) a (marked_inv T) hlex (by simpa using h)
  refine wp_region_any hm ?_
  have inv0 : HeadInv .any l.toArray n (Array.replicate l.toArray.size false) :=
    ⟨by simp, fun j oj _ hl => (by rw [getD_replicate_false] at hl; cases hl), fun t _ ht => getD_in (by simpa using ht) (getD_replicate_false _ _)⟩
  have hunl : ∀ i : Nat, (Array.replicate l.toArray.size false).getD i false = false := fun i => getD_replicate_false _ _
  have hcnt : al.length = al.countP (fun i => !(Array.replicate l.toArray.size false).getD i false) := by
    symm
    rw [List.countP_eq_length]
    intro i _
    rw [hunl]; rfl
  have hnew : HasNew w obj al (fun i => (Array.replicate l.toArray.size false).getD i false) (fun _ => 0) w.drew :=
    ⟨(Below.refl _ _).drew, fun i _ hD => (by rw [hunl] at hD; cases hD), fun i _ hD => (by rw [hunl] at hD; cases hD), fun i _ j _ hD _ _ => (by rw [hunl] at hD; cases hD)⟩
  have h6 := wpAny_mix (P := P) (md := .any) (Q := Q) (g := l.toArray.size - n) (obj := obj) T (fun i hi o ho => hal i hi o (by simpa using ho)) (fun listed' a' hL => seqB_ready hL.1)
    (fun listed' a' ν w' hL hw' => by
      have h7 := wpAny_of_seq (md := .any) (Q' := Q) (l.drop n) n listed' _ w' (fun j => by simp [List.getElem?_drop]) (by rw [hdl]; exact hL.1) (hL.2 ν w' hw')
      rwa [hdl] at h7)
    (al.length + idx.length) al.length idx.length _ a (fun _ => 0) w.drew rfl hcnt inv0 hnew H
  have e1 : withNew (dstOf l.toArray) (fun i => (Array.replicate l.toArray.size false).getD i false) (fun _ => 0) al a = a := by
    have aux : ∀ (al : List Nat) (b : Act), withNew (dstOf l.toArray) (fun i => (Array.replicate l.toArray.size false).getD i false) (fun _ => 0) al b = b := by
      intro al
      induction al with
      | nil => intro b; rfl
      | cons i al ih => intro b; unfold withNew; rw [hunl]; exact ih b
    exact aux al a
  rw [e1] at h6
  have e2 : al.length + idx.length + (l.toArray.size - n) = l.toArray.size := by have := T.lt; omega
  rw [e2] at h6
  exact h6
end
section
end
end Go.Eng


set_option linter.unusedSimpArgs false
set_option linter.unusedVariables false
namespace Go.Eng
open Go.RowKit

section
variable {P : Program} {md : Region.Mode}
def renEdge (f : Nat → Nat) (e : Edge) : Edge := { e with on := f e.on }
def renOper (f : Nat → Nat) (o : Oper) : Oper := { o with after := o.after.map (renEdge f), guard := o.guard.map fun g => (f g.1, g.2) }

structure Renum (ops ops' : Array Oper) (f : Nat → Nat) : Prop where
  size : ops'.size = ops.size
  at_ : ∀ (i : Nat) (o : Oper), ops[i]? = some o → ops'[f i]? = some (renOper f o)
  lt : ∀ i, i < ops.size → f i < ops.size
  inj : ∀ i j, i < ops.size → j < ops.size → f i = f j → i = j
  onto : ∀ j, j < ops.size → ∃ i, i < ops.size ∧ f i = j
  edges : ∀ (i : Nat) (o : Oper), ops[i]? = some o → ∀ e ∈ o.after, e.on < ops.size
  guards : ∀ (i : Nat) (o : Oper) g w, ops[i]? = some o → o.guard = some (g, w) → g < ops.size

structure Alike (ops : Array Oper) (f : Nat → Nat) (l l' : Array Bool) : Prop where
  size : l.size = ops.size
  size' : l'.size = ops.size
  same : ∀ i, i < ops.size → l'.getD (f i) false = l.getD i false

theorem getD_any {l : Array Bool} {i : Nat} (h : i < l.size) (d d' : Bool) : l.getD i d = l.getD i d' := by simp [h]
theorem binds_ren (f : Nat → Nat) (e : Edge) : Region.binds md (renEdge f e) = Region.binds md e := rfl

theorem ready_ren {ops ops' : Array Oper} {f : Nat → Nat} (R : Renum ops ops' f) {l l' : Array Bool} (A : Alike ops f l l') {i : Nat} (hi : i < ops.size) :
    i ∈ Region.ready md ops l ↔ f i ∈ Region.ready md ops' l' := by
  have ho : ops[i]? = some ops[i] := by simp [hi]
  have hu : l'.getD (f i) true = l.getD i true := by
    rw [getD_any (by rw [A.size']; exact R.lt i hi) true false, getD_any (by rw [A.size]; exact hi) true false]
    exact A.same i hi
  rw [mem_ready, mem_ready, hu]
  refine and_congr Iff.rfl ?_
  constructor
  · rintro ⟨o, h1, h2⟩
    refine ⟨renOper f o, R.at_ i o h1, fun e he hb => ?_⟩
    obtain ⟨e0, h3, rfl⟩ := Array.mem_map.1 he
    rw [binds_ren] at hb
    show l'.getD (f e0.on) false = true
    rw [A.same _ (R.edges i o h1 e0 h3)]
    exact h2 e0 h3 hb
  · rintro ⟨o', h1, h2⟩
    refine ⟨ops[i], ho, fun e he hb => ?_⟩
    have h4 := R.at_ i _ ho
    rw [h4] at h1
    cases h1
    have h5 := h2 (renEdge f e) (Array.mem_map.2 ⟨e, he, rfl⟩) (by rw [binds_ren]; exact hb)
    have h6 : l'.getD (f e.on) false = true := h5
    rw [A.same _ (R.edges i _ ho e he)] at h6
    exact h6
theorem alike_set {ops ops' : Array Oper} {f : Nat → Nat} (R : Renum ops ops' f) {l l' : Array Bool} (A : Alike ops f l l') {i : Nat} (hi : i < ops.size) : Alike ops f (l.setIfInBounds i true) (l'.setIfInBounds (f i) true) := by
  refine ⟨by simp [A.size], by simp [A.size'], fun j hj => ?_⟩
  by_cases e : i = j
  · subst e
    rw [Array.getD_eq_getD_getElem?, Array.getD_eq_getD_getElem?, Array.getElem?_setIfInBounds_self_of_lt (by rw [A.size']; exact R.lt i hi), Array.getElem?_setIfInBounds_self_of_lt (by rw [A.size]; exact hi)]
  · rw [getD_set_ne false e, getD_set_ne false (fun h => e (R.inj i j hi hj h))]
    exact A.same j hj
theorem yielded_ren {ops ops' : Array Oper} {f : Nat → Nat} (R : Renum ops ops' f) (tmps : Array Value) {g : Nat} (hg : g < ops.size) : yielded ops' tmps (f g) = yielded ops tmps g := by
  have ho : ops[g]? = some ops[g] := by simp [hg]
  have h1 := R.at_ g _ ho
  unfold yielded
  rw [ho, h1]
  rfl
theorem wanted_ren {ops ops' : Array Oper} {f : Nat → Nat} (R : Renum ops ops' f) (tmps : Array Value) {i : Nat} {o : Oper} (ho : ops[i]? = some o) : Region.wanted (renOper f o) (yielded ops' tmps) = Region.wanted o (yielded ops tmps) := by
  unfold Region.wanted renOper
  cases hg : o.guard with
  | none => rfl
  | some g =>
    obtain ⟨g, w⟩ := g
    simp only [Option.map_some]
    rw [yielded_ren R tmps (R.guards i o g w ho hg)]

theorem wpAny_ren {ops ops' : Array Oper} {f : Nat → Nat} (R : Renum ops ops' f) {Q : Exit → Act → World → Prop} : ∀ (n : Nat) (l l' : Array Bool) (a : Act) (w : World), Alike ops f l l' →
    wpAny P md ops' Q n l' a w → wpAny P md ops Q n l a w
  | 0, l, l', a, w, A, h => by
    refine ⟨?_, h.2⟩
    apply List.eq_nil_iff_forall_not_mem.2
    intro i hi
    obtain ⟨_, o, ho, _⟩ := mem_ready.1 hi
    have hlt : i < ops.size := (Array.getElem?_eq_some_iff.1 ho).1
    have := (ready_ren R A hlt).1 hi
    rw [h.1] at this
    cases this
  | n + 1, l, l', a, w, A, h => by
    obtain ⟨h1, h2⟩ := h
    refine ⟨fun h0 => h1 ?_, fun i hi => ?_⟩
    · apply List.eq_nil_iff_forall_not_mem.2
      intro j hj
      obtain ⟨_, o, ho, _⟩ := mem_ready.1 hj
      have hlt : j < ops'.size := (Array.getElem?_eq_some_iff.1 ho).1
      obtain ⟨i, hi, rfl⟩ := R.onto j (by rw [← R.size]; exact hlt)
      have := (ready_ren R A hi).2 hj
      rw [h0] at this
      cases this
    · obtain ⟨_, o, ho, _⟩ := mem_ready.1 hi
      have hlt : i < ops.size := (Array.getElem?_eq_some_iff.1 ho).1
      have h3 := h2 (f i) ((ready_ren R A hlt).1 hi)
      unfold wpOp at h3 ⊢
      rw [R.at_ i o ho] at h3
      simp only [ho]
      simp only [wanted_ren R a.tmps ho] at h3
      split
      · rename_i hw
        rw [if_pos hw] at h3
        refine h3.imp (fun h4 => ?_) (fun h4 => ?_)
        · exact Oper.wp_mono (o := o) (fun a' w' h5 => wpAny_ren R n _ _ a' w' (alike_set R A hlt) h5) h4
        · exact h4
      · rename_i hw
        rw [if_neg hw] at h3
        exact wpAny_ren R n _ _ _ w (alike_set R A hlt) h3

def permOps (ops : Array Oper) (ord : List Nat) : Array Oper := (ord.map fun i => renOper (fun j => ord.idxOf j) (ops.getD i default)).toArray
def renumB (ops : Array Oper) (ord : List Nat) : Bool :=
  decide (ord.length = ops.size) && (List.range ops.size).all (fun i => ord.contains i) && ord.all (fun i => decide (i < ops.size)) && decide ord.Nodup &&
  ops.all (fun o => o.after.all (fun e => decide (e.on < ops.size)) && match o.guard with
    | some (g, _) => decide (g < ops.size)
    | none => true)
theorem renum_of {ops : Array Oper} {ord : List Nat} (h : renumB ops ord = true) : Renum ops (permOps ops ord) (fun j => ord.idxOf j) := by
  simp only [renumB, Bool.and_eq_true, decide_eq_true_eq] at h
  obtain ⟨⟨⟨⟨h1, h2⟩, h3⟩, h4⟩, h5⟩ := h
  have mem : ∀ i, i < ops.size → i ∈ ord := fun i hi => by simpa using List.all_eq_true.1 h2 i (List.mem_range.2 hi)
  have lt : ∀ i, i < ops.size → ord.idxOf i < ord.length := fun i hi => List.idxOf_lt_length_iff.2 (mem i hi)
  have get : ∀ i (hi : i < ops.size), ord[ord.idxOf i]'(lt i hi) = i := fun i hi => List.getElem_idxOf (lt i hi)
  have each : ∀ (i : Nat) (o : Oper), ops[i]? = some o → _ := fun i o ho => Array.all_eq_true_iff_forall_mem.1 h5 o (Array.mem_of_getElem? ho)
  refine ⟨by simp [permOps, h1], fun i o ho => ?_, fun i hi => by have := lt i hi; omega, fun i j hi hj e => ?_, fun j hj => ?_, fun i o ho e he => ?_, fun i o g w ho hg => ?_⟩
  · have hi : i < ops.size := (Array.getElem?_eq_some_iff.1 ho).1
    have hg : ord[ord.idxOf i]? = some i := by rw [List.getElem?_eq_getElem (lt i hi), get i hi]
    simp only [permOps, List.getElem?_toArray, List.getElem?_map, hg, Option.map_some, Array.getD_eq_getD_getElem?, ho, Option.getD_some]
  · have e1 := get i hi
    have e2 := get j hj
    have e3 : ord.idxOf i = ord.idxOf j := e
    rw [← e1, ← e2]
    simp only [e3]
  · refine ⟨ord[j]'(by omega), ?_, ?_⟩
    · simpa using List.all_eq_true.1 h3 _ (List.getElem_mem (by omega))
    · exact h4.idxOf_getElem j (by omega)
  · have := each i o ho
    simp only [Bool.and_eq_true] at this
    simpa using Array.all_eq_true_iff_forall_mem.1 this.1 e he
  · have := each i o ho
    simp only [Bool.and_eq_true, hg] at this
    simpa using this.2
/-- 'region_new', ahead of the draw. -/
theorem region_new_any {Q : Exit → Act → World → Prop} {a : Act} {w : World} {l : List Oper} (n : Nat) (idx al : List Nat) (obj : Nat → Obj) (hB : newTailB .any l.toArray idx al n = true)
    (hal : ∀ i ∈ al, ∀ o, l[i]? = some o → ∀ ρ W, (execOp ρ o).run P W = .ok (.value (newPtr W.heap.size)) (W.alloc (obj i)))
    (h : wpCalm P l.toArray w (fun a' => ∀ ν W, HasNew w obj al (fun _ => true) ν W → wpList P l.toArray Q (l.drop n) (withNew (dstOf l.toArray) (fun _ => true) ν al a') W) (picks l idx) a) :
    wpAny P .any l.toArray Q l.toArray.size (Array.replicate l.toArray.size false) a { w with drawn := w.drawn + 1 } := by
  obtain ⟨T, hsel, hlen, hlex⟩ := newTail_of hB
  have hn' : n < l.length := by simpa using T.lt
  have hdl : (l.drop n).length = l.toArray.size - n := by simp
  have H := anyCalm_lex (P := P) (md := .any) (w0 := w) (g := l.toArray.size - n) hsel (fun i hi listed inv hun j hj => by
      rcases Nat.lt_or_ge j n with h | h
      · exact h
      · exact absurd hj (T.waits listed inv i hi hun j h)) idx (marked al (Array.replicate l.toArray.size false)) a (marked_inv T) hlex (by simpa using h)
  have inv0 : HeadInv .any l.toArray n (Array.replicate l.toArray.size false) :=
    ⟨by simp, fun j oj _ hl => (by rw [getD_replicate_false] at hl; cases hl), fun t _ ht => getD_in (by simpa using ht) (getD_replicate_false _ _)⟩
  have hunl : ∀ i : Nat, (Array.replicate l.toArray.size false).getD i false = false := fun i => getD_replicate_false _ _
  have hcnt : al.length = al.countP (fun i => !(Array.replicate l.toArray.size false).getD i false) := by
    symm
    rw [List.countP_eq_length]
    intro i _
    rw [hunl]; rfl
  have hnew : HasNew w obj al (fun i => (Array.replicate l.toArray.size false).getD i false) (fun _ => 0) w.drew :=
    ⟨(Below.refl _ _).drew, fun i _ hD => (by rw [hunl] at hD; cases hD), fun i _ hD => (by rw [hunl] at hD; cases hD), fun i _ j _ hD _ _ => (by rw [hunl] at hD; cases hD)⟩
  have h6 := wpAny_mix (P := P) (md := .any) (Q := Q) (g := l.toArray.size - n) (obj := obj) T (fun i hi o ho => hal i hi o (by simpa using ho)) (fun listed' a' hL => seqB_ready hL.1)
    (fun listed' a' ν w' hL hw' => by
      have h7 := wpAny_of_seq (md := .any) (Q' := Q) (l.drop n) n listed' _ w' (fun j => by simp [List.getElem?_drop]) (by rw [hdl]; exact hL.1) (hL.2 ν w' hw')
      rwa [hdl] at h7)
    (al.length + idx.length) al.length idx.length _ a (fun _ => 0) w.drew rfl hcnt inv0 hnew H
  have e1 : withNew (dstOf l.toArray) (fun i => (Array.replicate l.toArray.size false).getD i false) (fun _ => 0) al a = a := by
    have aux : ∀ (al : List Nat) (b : Act), withNew (dstOf l.toArray) (fun i => (Array.replicate l.toArray.size false).getD i false) (fun _ => 0) al b = b := by
      intro al
      induction al with
      | nil => intro b; rfl
      | cons i al ih => intro b; unfold withNew; rw [hunl]; exact ih b
    exact aux al a
  rw [e1] at h6
  have e2 : al.length + idx.length + (l.toArray.size - n) = l.toArray.size := by have := T.lt; omega
  rw [e2] at h6
  exact h6
end
end Go.Eng


set_option linter.unusedSimpArgs false
set_option linter.unusedVariables false
namespace Go.Eng
open Go.RowKit

section
variable {P : Program} {md : Region.Mode}
def edgeOp (i : Nat) (o : Oper) : Oper := { o with after := o.after.push ⟨i, .data⟩ }
def edged (ops : Array Oper) (i j : Nat) : Array Oper := ops.modify j (edgeOp i)
def isFreeMove (o : Oper) : Bool := o.after.isEmpty && o.guard.isNone && match o.op with
  | .move _ => true
  | _ => false
def freeB (ops : Array Oper) (i j : Nat) : Bool :=
  i != j && Region.noSelect ops && Region.free .any ops (Array.replicate ops.size false) i && match ops[i]? with
    | some o => isFreeMove o
    | none => false
theorem edged_size (ops : Array Oper) (i j : Nat) : (edged ops i j).size = ops.size := by simp [edged]
theorem edged_at (ops : Array Oper) (i j k : Nat) : (edged ops i j)[k]? = if j = k then (ops[k]?).map (edgeOp i) else ops[k]? := by
  unfold edged
  rw [Array.getElem?_modify]
theorem edged_get {ops : Array Oper} {i j k : Nat} {o : Oper} (h : ops[k]? = some o) : (edged ops i j)[k]? = some (if j = k then edgeOp i o else o) := by
  rw [edged_at, h]
  split <;> rfl
theorem edged_yielded (ops : Array Oper) (i j : Nat) (tmps : Array Value) (g : Nat) : yielded (edged ops i j) tmps g = yielded ops tmps g := by
  have : ((edged ops i j)[g]?).bind (·.dst) = (ops[g]?).bind (·.dst) := by
    rw [edged_at]
    by_cases h : j = g
    · rw [if_pos h]
      cases ops[g]? <;> rfl
    · rw [if_neg h]
  unfold yielded
  rw [this]
theorem edged_wanted (ops : Array Oper) (i j : Nat) (tmps : Array Value) (o : Oper) : Region.wanted o (yielded (edged ops i j) tmps) = Region.wanted o (yielded ops tmps) := by
  have : yielded (edged ops i j) tmps = yielded ops tmps := funext (edged_yielded ops i j tmps)
  rw [this]
theorem edged_ready {ops : Array Oper} {i j : Nat} {listed : Array Bool} (hl : listed.getD i false = true) (k : Nat) : k ∈ Region.ready md (edged ops i j) listed ↔ k ∈ Region.ready md ops listed := by
  rw [mem_ready, mem_ready]
  refine and_congr Iff.rfl ?_
  constructor
  · rintro ⟨o, h1, h2⟩
    cases ho : ops[k]? with
    | none => rw [edged_at, ho] at h1; split at h1 <;> cases h1
    | some o0 =>
      refine ⟨o0, rfl, fun e he hb => ?_⟩
      rw [edged_get ho] at h1
      cases h1
      refine h2 e ?_ hb
      split
      · exact Array.mem_push.2 (.inl he)
      · exact he
  · rintro ⟨o, h1, h2⟩
    refine ⟨_, edged_get h1, fun e he hb => ?_⟩
    split at he
    · rcases Array.mem_push.1 he with he | rfl
      · exact h2 e he hb
      · exact hl
    · exact h2 e he hb
theorem set_keeps {listed : Array Bool} {i k : Nat} (h : listed.getD i false = true) : (listed.setIfInBounds k true).getD i false = true := by
  rw [Array.getD_eq_getD_getElem?] at h ⊢
  rw [Array.getElem?_setIfInBounds]
  split
  · rename_i e
    subst e
    split
    · rfl
    · rename_i h2
      rw [Array.getElem?_eq_none (by omega)] at h
      cases h
  · exact h
theorem wpAny_edged {ops : Array Oper} {i j : Nat} {Q : Exit → Act → World → Prop} : ∀ (n : Nat) (l : Array Bool) (a : Act) (w : World), l.getD i false = true →
    wpAny P md (edged ops i j) Q n l a w → wpAny P md ops Q n l a w
  | 0, l, a, w, hl, h => by
    refine ⟨?_, h.2⟩
    apply List.eq_nil_iff_forall_not_mem.2
    intro k hk
    have := (edged_ready (md := md) (j := j) hl k).2 hk
    rw [h.1] at this
    cases this
  | n + 1, l, a, w, hl, h => by
    obtain ⟨h1, h2⟩ := h
    refine ⟨fun h0 => h1 ?_, fun k hk => ?_⟩
    · apply List.eq_nil_iff_forall_not_mem.2
      intro k hk
      have := (edged_ready (md := md) hl k).1 hk
      rw [h0] at this
      cases this
    · obtain ⟨_, o, ho, _⟩ := mem_ready.1 hk
      have h3 := h2 k ((edged_ready hl k).2 hk)
      unfold wpOp at h3 ⊢
      rw [edged_get ho] at h3
      simp only [ho]
      have ew : Region.wanted (if j = k then edgeOp i o else o) (yielded (edged ops i j) a.tmps) = Region.wanted o (yielded ops a.tmps) := by
        rw [edged_wanted]
        split <;> rfl
      simp only [ew] at h3
      have ed : (if j = k then edgeOp i o else o).dst = o.dst := by split <;> rfl
      rw [ed] at h3
      split
      · rename_i hw
        rw [if_pos hw] at h3
        refine h3.imp (fun h4 => ?_) (fun h4 => ?_)
        · have h5 : o.wp P a w (wpAny P md (edged ops i j) Q n (l.setIfInBounds k true)) Q := by
            split at h4
            · exact h4
            · exact h4
          exact Oper.wp_mono (o := o) (fun a' w' h6 => wpAny_edged n _ a' w' (set_keeps hl) h6) h5
        · split at h4
          · exact h4
          · exact h4
      · rename_i hw
        rw [if_neg hw] at h3
        exact wpAny_edged n _ _ w (set_keeps hl) h3

/-- Only where the region ends as it should. -/
def only (Q : Exit → Act → World → Prop) : Exit → Act → World → Prop := fun e a w => e = .normal ∧ Q .normal a w

theorem region_edge {id : Nat} {Q : Exit → Act → World → Prop} {a : Act} {w : World} {ops : Array Oper} (i j : Nat) (hm : P.follows .mixedOrders = true) (hB : freeB ops i j = true)
    (h : wpAny P .any (edged ops i j) (only Q) ops.size (Array.replicate ops.size false) a { w with drawn := w.drawn + 1 }) : (Code.region id ops true).wp P Q a w := by
  unfold freeB at hB
  simp only [Bool.and_eq_true, bne_iff_ne, ne_eq] at hB
  obtain ⟨⟨⟨hne, hs⟩, hf⟩, hi'⟩ := hB
  cases hi : ops[i]? with
  | none => rw [hi] at hi'; cases hi'
  | some oi =>
    rw [hi] at hi'
    obtain ⟨dst, op, ty, pos, after, guard⟩ := oi
    unfold isFreeMove at hi'
    simp only [Bool.and_eq_true] at hi'
    obtain ⟨⟨ha, hg⟩, hop⟩ := hi'
    have ha' : after = #[] := by simpa using ha
    have hg' : guard = none := by simpa using hg
    subst ha' hg'
    cases op <;> try (cases hop)
    rename_i x
    have hlt : i < ops.size := (Array.getElem?_eq_some_iff.1 hi).1
    obtain ⟨n, hn⟩ : ∃ n, ops.size = n + 1 := ⟨ops.size - 1, by omega⟩
    have hfalse : (Array.replicate ops.size false).getD i true = false := by
      rw [getD_any (by simpa using hlt) true false]
      exact getD_replicate_false _ _
    have hready : i ∈ Region.ready .any ops (Array.replicate ops.size false) := mem_ready.2 ⟨hfalse, _, hi, fun e he => by simp at he⟩
    have hready' : i ∈ Region.ready .any (edged ops i j) (Array.replicate ops.size false) :=
      mem_ready.2 ⟨hfalse, _, edged_get hi, fun e he => by
        rw [if_neg (fun q => hne q.symm)] at he
        simp at he⟩
    have hy : Yields P ops ⟨dst, .move x, ty, pos, #[], none⟩ (a.eval x) a := .inl ⟨rfl, fun w => rfl⟩
    refine wp_mono (Q := only Q) (wp_region_any hm ?_) (by rintro e a w ⟨rfl, h⟩; exact h)
    rw [hn] at h hready hready' ⊢
    rw [hn] at hf
    refine wpAny_take hi hs hf (by simpa using hready) (by rintro c a w ⟨h, _⟩; cases h) hy ?_
    have h2 := h.2 i hready'
    unfold wpOp at h2
    rw [edged_get hi, if_neg (fun q => hne q.symm)] at h2
    have h3 : wpAny P .any (edged ops i j) (only Q) n ((Array.replicate (n + 1) false).setIfInBounds i true) (a.put dst (a.eval x)) { w with drawn := w.drawn + 1 } := by
      have h4 : (Oper.wp P ⟨dst, .move x, ty, pos, #[], none⟩ a { w with drawn := w.drawn + 1 } (wpAny P .any (edged ops i j) (only Q) n ((Array.replicate (n + 1) false).setIfInBounds i true)) (only Q)) ∨ _ := h2
      rcases h4 with h4 | ⟨_, a', w', h4, _⟩
      · exact h4
      · cases h4
    refine wpAny_edged n _ _ _ ?_ h3
    rw [Array.getD_eq_getD_getElem?, Array.getElem?_setIfInBounds, if_pos rfl, if_pos (by simp; omega)]
    rfl
theorem region_perm_any {Q : Exit → Act → World → Prop} {a : Act} {w : World} {ops : Array Oper} (ord : List Nat) (hB : renumB ops ord = true)
    (h : wpAny P .any (permOps ops ord) Q ops.size (Array.replicate ops.size false) a { w with drawn := w.drawn + 1 }) :
    wpAny P .any ops Q ops.size (Array.replicate ops.size false) a { w with drawn := w.drawn + 1 } := by
  refine wpAny_ren (renum_of hB) _ _ _ _ _ ⟨by simp, by simp, fun i _ => ?_⟩ h
  rw [getD_replicate_false, getD_replicate_false]
end
end Go.Eng


set_option linter.unusedSimpArgs false
set_option linter.unusedVariables false
namespace Go.Ev
open Go.Eng Go.RowKit

/-- A value of the walk: plain, or a pointer into one of the walk's blocks, or a slice of one; 'no': nothing is known. -/
inductive SV where
  | v (x : Value)
  | p (j off : Nat)
  | s (j off len cap : Nat)
  | no

def SV.to (ν : Nat → Nat) : SV → Value
  | .v x => x
  | .p j off => .pointer (some ⟨ν j, off, none⟩)
  | .s j off len cap => .slice (some ⟨ν j, off, none⟩) len cap
  | .no => undef
def SV.lt (n : Nat) : SV → Prop
  | .v _ => True
  | .p j _ => j < n
  | .s j _ _ _ => j < n
  | .no => True
def SV.known : SV → Bool
  | .no => false
  | _ => true
/-- The slot holds it. -/
def SV.is (ν : Nat → Nat) (s : SV) (u : Value) : Prop := s.known = true → u = s.to ν

structure Blk where
  cells : List Value
  ty : TypeId
  own : Bool

/-- What is given ahead: what a call hands back; what a comparison yields. -/
structure Tm where
  tmps : List SV
  heap : List Blk

def HeapOk (ν : Nat → Nat) (heap : List Blk) (W : World) : Prop := ∀ (j : Nat) (b : Blk), heap[j]? = some b → W.heap[ν j]? = some (.cells b.cells.toArray b.ty (0, 0))

/-- The frame and the world are as the walk has them. -/
structure Rep (w0 : World) (ν : Nat → Nat) (st : Tm) (a : Act) (W : World) : Prop where
  size : a.tmps.size = st.tmps.length
  tmps : ∀ (t : Nat) (s : SV), st.tmps[t]? = some s → ∃ u, a.tmps[t]? = some u ∧ s.is ν u
  defers : a.defers = []
  below : Below w0.heap.size w0 W
  heap : HeapOk ν st.heap W
  new : ∀ (j : Nat) (b : Blk), st.heap[j]? = some b → b.own = true → w0.heap.size ≤ ν j
  inj : ∀ i j, i < st.heap.length → j < st.heap.length → ν i = ν j → i = j
  wf : ∀ s ∈ st.tmps, s.lt st.heap.length

inductive XExit where
  | normal
  | exit (id : Nat)
  | ret
  | stop (c : Code)
def XExit.to : XExit → Exit
  | .normal => .normal
  | .exit id => .exit id
  | .ret => .ret
  | .stop _ => .outgrown

def Ext (n : Nat) (ν ν' : Nat → Nat) : Prop := ∀ j, j < n → ν' j = ν j

/-- What a piece of code comes to. -/
def Leads (P : Program) (w0 : World) (c : Code) (st : Tm) (e : XExit) (st' : Tm) : Prop :=
  ∀ {ν : Nat → Nat} {a : Act} {W : World} {Q : Exit → Act → World → Prop}, Rep w0 ν st a W →
    (∀ ν' a' W', Ext st.heap.length ν ν' → Rep w0 ν' st' a' W' → Q e.to a' W') → c.wp P Q a W

inductive Item (P : Program) (w0 : World) where
  | call (f : FuncId) (args : Array Value) (v : Value) (h : PureAt P w0 f args v)
  | bin (op : BinOp) (t : TypeId) (a b v : Value) (h : ∀ x y W, (do eqGuard op t x y a b; binOp op t a b : Sem Value).run P W = .ok v W)
  | sem (s : Sem Value) (v : Value) (h : ∀ W, Below w0.heap.size w0 W → s.run P W = .ok v W)
  | conv (src dst : TypeId) (cs : List Value) (ty : TypeId) (off len cap : Nat) (v : Value)
      (h : ∀ W g, W.heap[g]? = some (.cells cs.toArray ty (0, 0)) → (convert src dst (.slice (some ⟨g, off, none⟩) len cap)).run P W = .ok v W)
  | loop (c : Code) (st : Tm) (e : XExit) (st' : Tm) (h : Leads P w0 (.loop c) st e st')
  | order (ops : Array Oper) (h : Region.lexB .any ops = true)

abbrev Items (P : Program) (w0 : World) := List (Nat × Item P w0)
inductive Req where
  | vals (xs : Array Value)
  | sem (s : Sem Value)
  | conv (src dst : TypeId) (cs : List Value) (ty : TypeId) (off len cap : Nat)
  | loop (c : Code) (st : Tm)
  | order (ops : Array Oper)
abbrev Needs := List (Req × Req)

structure St (P : Program) (w0 : World) extends Tm where
  items : Items P w0
  need : Needs

section
variable {P : Program} {w0 : World}

def pureRun {α : Type} (P : Program) : Sem α → Option α
  | .pure a => some a
  | .program k => pureRun P (k P)
  | .mark _ k => pureRun P k
  | _ => none

theorem pureRun_run {α : Type} (s : Sem α) (a : α) (W : World) (h : pureRun P s = some a) : s.run P W = .ok a W := by
  induction s with
  | pure b => simp [pureRun] at h; subst h; rfl
  | program k ih => exact ih P h
  | mark m k ih => exact ih h
  | _ => simp [pureRun] at h

def svOf (tmps : List SV) : Operand → Option SV
  | .tmp t => match tmps[t]? with
    | some .no => none
    | some s => some s
    | none => none
  | .const x => some (.v x)
  | .global _ => none
  | .func f => some (.v (.func (.func f) #[] #[]))
def plainOf (tmps : List SV) (x : Operand) : Option Value :=
  match svOf tmps x with
  | some (.v y) => some y
  | _ => none
def rhoOf (tmps : List SV) (x : Operand) : Value := (plainOf tmps x).getD undef
def noSel : Op → Bool
  | .select .. => false
  | _ => true
def allPlain (tmps : List SV) (o : Oper) : Bool := noSel o.op && o.op.operands.all (fun x => (plainOf tmps x).isSome)

theorem svOf_known {tmps : List SV} {x : Operand} {s : SV} (h : svOf tmps x = some s) : (∃ t, x = .tmp t ∧ tmps[t]? = some s ∧ s.known = true) ∨ (∃ y, s = .v y ∧ ∀ a : Act, a.eval x = y) := by
  cases x with
  | tmp t =>
    simp only [svOf] at h
    split at h
    · cases h
    · rename_i s' hs hne
      cases h
      refine .inl ⟨t, rfl, hne, ?_⟩
      cases s <;> first | rfl | exact absurd rfl hs
    · cases h
  | const x => simp only [svOf, Option.some.injEq] at h; exact .inr ⟨x, h.symm, fun _ => rfl⟩
  | global g => simp [svOf] at h
  | func f => simp only [svOf, Option.some.injEq] at h; exact .inr ⟨_, h.symm, fun _ => rfl⟩
/-- What is asked of a frame. -/
def Holds (ν : Nat → Nat) (tmps : List SV) (a : Act) : Prop := ∀ (t : Nat) (s : SV), tmps[t]? = some s → ∃ u, a.tmps[t]? = some u ∧ s.is ν u
theorem svOf_eval {ν : Nat → Nat} {tmps : List SV} {a : Act} (ht : Holds ν tmps a) {x : Operand} {s : SV} (h : svOf tmps x = some s) : a.eval x = s.to ν := by
  rcases svOf_known h with ⟨t, rfl, h1, h2⟩ | ⟨y, rfl, h1⟩
  · obtain ⟨u, hu, hs⟩ := ht t s h1
    show a.tmps.getD t undef = _
    rw [Array.getD_eq_getD_getElem?, hu]
    exact hs h2
  · exact h1 a
theorem plainOf_sv {tmps : List SV} {x : Operand} {y : Value} (h : plainOf tmps x = some y) : svOf tmps x = some (.v y) := by
  unfold plainOf at h
  split at h
  · rename_i z hz
    simp only [Option.some.injEq] at h
    rw [hz, h]
  · cases h
theorem plainOf_eval {ν : Nat → Nat} {tmps : List SV} {a : Act} (ht : Holds ν tmps a) {x : Operand} {y : Value} (h : plainOf tmps x = some y) : a.eval x = y :=
  svOf_eval ht (plainOf_sv h)

theorem allPlain_exec {ν : Nat → Nat} {tmps : List SV} {a : Act} (ht : Holds ν tmps a) {o : Oper} (h : allPlain tmps o = true) : execOp a.eval o = execOp (rhoOf tmps) o := by
  simp only [allPlain, Bool.and_eq_true] at h
  refine execOp_congr o (fun cs b e => ?_) (fun x hx => ?_)
  · rw [e] at h; exact absurd h.1 Bool.false_ne_true
  · have h2 := Array.all_eq_true_iff_forall_mem.1 h.2 x hx
    cases h3 : plainOf tmps x with
    | none => rw [h3] at h2; cases h2
    | some y =>
      rw [plainOf_eval ht h3]
      simp [rhoOf, h3]

def takeItem (k : Nat) : Items P w0 → Option (Item P w0 × Items P w0)
  | [] => none
  | (k', it) :: l => if k' == k then some (it, l) else
    match takeItem k l with
    | some (i, l') => some (i, (k', it) :: l')
    | none => none
def takeAt (dst : Option Tmp) (l : Items P w0) : Option (Item P w0 × Items P w0) :=
  match dst with
  | some k => takeItem k l
  | none => none

def isRow (P : Program) (t : TypeId) : Option Bool :=
  match P.underlying t with
  | some (.struct _) => some true
  | some (.array _ _) => some true
  | some _ => some false
  | none => none

def loadS (P : Program) (heap : List Blk) (t : TypeId) (j off : Nat) : Option Value :=
  match heap[j]?, isRow P t, P.info? t with
  | some b, some true, some i => if off + i.size ≤ b.cells.length then some (.agg ((b.cells.drop off).take i.size).toArray) else none
  | some b, some false, _ => b.cells[off]?
  | _, _, _ => none

def fieldS (P : Program) (s : TypeId) (f : Nat) : Option Nat :=
  match P.underlying s with
  | some (.struct fs) => match fs[f]? with
    | some fd => match P.info? fd.type with
      | some i => if i.size = 0 then none else some fd.offset
      | none => none
    | none => none
  | _ => none

abbrev Out (P : Program) (w0 : World) := SV × Items P w0 × Needs

/-- Any operation on plain values that leaves memory alone; a call. -/
def plainS (P : Program) (st : St P w0) (o : Oper) : Option (Out P w0) :=
  if allPlain st.tmps o then
    match pureRun P (execOp (rhoOf st.tmps) o) with
    | some (.value u) => some (.v u, st.items, st.need)
    | some (.enter f args) =>
      match takeAt o.dst st.items with
      | some (.call f' args' v _, items') => if f == f' then some (.v v, items', (.vals args, .vals args') :: st.need) else none
      | _ => none
    | _ => none
  else none

def semOf (ρ : Operand → Value) (o : Op) : Option (Sem Value) :=
  match o with
  | .binOp op t x y _ => some (do eqGuard op t x y (ρ x) (ρ y); binOp op t (ρ x) (ρ y))
  | .index t x i => some (Instr.index t (ρ x) (ρ i))
  | .indexAddr t x i => some (Instr.indexAt t (ρ x) (ρ i))
  | .slice t x lo hi mx => some (Instr.sliceAt t (ρ x) (lo.map ρ) (hi.map ρ) (mx.map ρ))
  | .load t x => some (Instr.loadAt t (ρ x))
  | .convert src dst x => some (convert src dst (ρ x))
  | .unOp op _ x => some (Op.unary op (ρ x))
  | _ => none
theorem semOf_exec {ρ : Operand → Value} {o : Oper} {s : Sem Value} (h : semOf ρ o.op = some s) : execOp ρ o = (do pure (.value (← s))) := by
  obtain ⟨dst, op, ty, pos, after, guard⟩ := o
  cases op <;> simp only [semOf, Option.some.injEq, reduceCtorEq] at h <;> (subst h; rfl)

def otherS (P : Program) (st : St P w0) (o : Oper) : Option (Out P w0) :=
  match takeAt o.dst st.items with
  | some (.sem s v _, it') => if allPlain st.tmps o then
      match semOf (rhoOf st.tmps) o.op with
      | some s' => some (.v v, it', (.sem s', .sem s) :: st.need)
      | none => none
    else none
  | _ => plainS P st o

def idxS (P : Program) (t : TypeId) (off len : Nat) (n : Int) : Option Nat :=
  match P.underlying t with
  | some (.slice e) => match P.info? e with
    | some i => if 0 ≤ n ∧ n < len then some (off + n.toNat * i.size) else none
    | none => none
  | _ => none

def calmS (P : Program) (st : St P w0) (o : Oper) : Option (Out P w0) :=
  match o.op with
  | .move x | .assign x => match svOf st.tmps x with
    | some s => some (s, st.items, st.need)
    | none => none
  | .load t x => match svOf st.tmps x with
    | some (.p j off) => match loadS P st.heap t j off with
      | some u => some (.v u, st.items, st.need)
      | none => none
    | _ => otherS P st o
  | .fieldAddr s x f => match svOf st.tmps x, fieldS P s f with
    | some (.p j off), some k => some (.p j (off + k), st.items, st.need)
    | _, _ => none
  | .indexAddr t x i => match svOf st.tmps x, plainOf st.tmps i with
    | some (.s j off len cap), some (.int _ n) => match idxS P t off len n with
      | some k => some (.p j k, st.items, st.need)
      | none => none
    | _, _ => otherS P st o
  | .convert src dst x => match svOf st.tmps x with
    | some (.s j off len cap) => match takeAt o.dst st.items, st.heap[j]? with
      | some (.conv src' dst' cs ty off' len' cap' v _, it'), some b => some (.v v, it', (.conv src dst b.cells b.ty off len cap, .conv src' dst' cs ty off' len' cap') :: st.need)
      | _, _ => none
    | _ => otherS P st o
  | .binOp op t x y _ => match takeAt o.dst st.items with
    | some (.bin op' t' a b v _, items') => match plainOf st.tmps x, plainOf st.tmps y with
      | some a', some b' => if op = op' ∧ t = t' then some (.v v, items', (.vals #[a', b'], .vals #[a, b]) :: st.need) else none
      | _, _ => none
    | _ => otherS P st o
  | _ => otherS P st o

theorem run_loadVar_blk {W : World} {g : Nat} {b : Blk} (hg : W.heap[g]? = some (.cells b.cells.toArray b.ty (0, 0))) {t : TypeId} {off : Nat} {u : Value} {heap : List Blk} {j : Nat} (hj : heap[j]? = some b)
    (h : loadS P heap t j off = some u) : (loadVar t ⟨g, off, none⟩).run P W = .ok u W := by
  unfold loadS at h
  rw [hj] at h
  cases hr : isRow P t with
  | none => rw [hr] at h; cases h
  | some r =>
    rw [hr] at h
    cases r with
    | true =>
      cases hi : P.info? t with
      | none => rw [hi] at h; cases h
      | some i =>
        rw [hi] at h
        simp only at h
        split at h
        · rename_i hle
          cases h
          have hd : ∃ d, P.underlying t = some d ∧ d.isRow = true := by
            unfold isRow at hr
            split at hr <;> first | (rename_i e; exact ⟨_, e, rfl⟩) | (simp at hr; done) | (cases hr; done)
          obtain ⟨d, hd1, hd2⟩ := hd
          refine run_loadVar_mid W g off t ((b.cells.drop off).take i.size) d (fun k v hv => ?_) hd1 hd2 ?_
          · rw [block_cell hg, List.getElem?_toArray]
            rw [List.getElem?_take] at hv
            split at hv
            · rw [List.getElem?_drop] at hv; exact hv
            · cases hv
          · rw [hi]; simp; omega
        · cases h
    | false =>
      simp only at h
      have hagg : (isAgg t).run P W = .ok false W := by
        unfold isRow at hr
        unfold isAgg
        cases hu : P.underlying t with
        | none => rw [hu] at hr; cases hr
        | some d =>
          rw [Sem.run_bind, run_underlying hu W]
          rw [hu] at hr
          cases d <;> simp_all
      have hc : W.cell? ⟨g, off, none⟩ = some u := by rw [block_cell hg, List.getElem?_toArray]; exact h
      unfold loadVar
      rw [Sem.run_bind, hagg]
      simp [hc]

theorem field_run {s : TypeId} {f k : Nat} (h : fieldS P s f = some k) (W : World) (g off : Nat) : (Instr.fieldAt s (.pointer (some ⟨g, off, none⟩)) f).run P W = .ok (.pointer (some ⟨g, off + k, none⟩)) W := by
  unfold fieldS at h
  split at h
  · rename_i fs hu
    split at h
    · rename_i fd hf
      split at h
      · rename_i i hi
        split at h
        · cases h
        · rename_i hz
          cases h
          have hadd : (⟨g, off, none⟩ : Addr).add fd.offset = ⟨g, off + fd.offset, none⟩ := Addr.add_mid g off fd.offset
          simp [Instr.fieldAt, run_underlying hu, hf, Instr.sureAddr, fieldPlace, sizeOf, typeInfo, hi, hz, hadd]
      · cases h
    · cases h
  · cases h

def Fits (nd : Needs) : Prop := ∀ r ∈ nd, r.1 = r.2

/-- What an operation that leaves memory alone comes to, in any world that the walk may stand in. -/
def Calm (P : Program) (w0 : World) (ν : Nat → Nat) (heap : List Blk) (o : Oper) (a : Act) (v : Value) : Prop :=
  ∀ W, Below w0.heap.size w0 W → HeapOk ν heap W → calmUpon P W v ((execOp a.eval o).run P W)

theorem plain_sound {ν : Nat → Nat} {st : St P w0} {o : Oper} {s : SV} {it : Items P w0} {nd : Needs} (h : plainS P st o = some (s, it, nd)) {a : Act} (ht : Holds ν st.tmps a) :
    (∃ l, nd = l ++ st.need) ∧ (∃ u, s = .v u) ∧ (Fits nd → Calm P w0 ν st.heap o a (s.to ν)) := by
  unfold plainS at h
  split at h
  · rename_i hp
    unfold Calm
    rw [allPlain_exec ht hp]
    split at h
    · rename_i u hu
      simp only [Option.some.injEq, Prod.mk.injEq] at h
      obtain ⟨rfl, rfl, rfl⟩ := h
      refine ⟨⟨[], rfl⟩, ⟨u, rfl⟩, fun _ W _ _ => ?_⟩
      rw [pureRun_run _ _ W hu]
      exact ⟨rfl, rfl⟩
    · rename_i f args hu
      split at h
      · rename_i f' args' v hv items' hk
        split at h
        · rename_i hf
          simp only [Option.some.injEq, Prod.mk.injEq] at h
          obtain ⟨rfl, rfl, rfl⟩ := h
          refine ⟨⟨[_], rfl⟩, ⟨v, rfl⟩, fun hn W hW _ => ?_⟩
          rw [pureRun_run _ _ W hu]
          have h1 := hn (.vals args, .vals args') (List.mem_cons_self ..)
          simp only [Req.vals.injEq] at h1
          have h2 : f = f' := by simpa using hf
          subst h1 h2
          exact ⟨rfl, hv.on hW⟩
        · cases h
      · cases h
    · cases h
  · cases h

theorem other_sound {ν : Nat → Nat} {st : St P w0} {o : Oper} {s : SV} {it : Items P w0} {nd : Needs} (h : otherS P st o = some (s, it, nd)) {a : Act} (ht : Holds ν st.tmps a) :
    (∃ l, nd = l ++ st.need) ∧ (∃ u, s = .v u) ∧ (Fits nd → Calm P w0 ν st.heap o a (s.to ν)) := by
  unfold otherS at h
  split at h
  · rename_i sm v hv it' hk
    split at h
    · rename_i hp
      split at h
      · rename_i s' hs
        simp only [Option.some.injEq, Prod.mk.injEq] at h
        obtain ⟨rfl, rfl, rfl⟩ := h
        refine ⟨⟨[_], rfl⟩, ⟨v, rfl⟩, fun hn W hB _ => ?_⟩
        have h1 := hn (.sem s', .sem sm) (List.mem_cons_self ..)
        simp only [Req.sem.injEq] at h1
        subst h1
        rw [allPlain_exec ht hp, semOf_exec hs, Sem.run_bind, hv W hB]
        exact ⟨rfl, rfl⟩
      · cases h
    · cases h
  · exact plain_sound h ht

theorem idx_run {t : TypeId} {off len n' : Nat} {n : Int} (h : idxS P t off len n = some n') (W : World) (g cap : Nat) (k : IntKind) :
    (Instr.indexAt t (.slice (some ⟨g, off, none⟩) len cap) (.int k n)).run P W = .ok (.pointer (some ⟨g, n', none⟩)) W := by
  unfold idxS at h
  split at h
  · rename_i e hu
    split at h
    · rename_i i hi
      split at h
      · rename_i hc
        cases h
        have hadd : (⟨g, off, none⟩ : Addr).add (n.toNat * i.size) = ⟨g, off + n.toNat * i.size, none⟩ := Addr.add_mid g off _
        simp [Instr.indexAt, asIntOf, run_underlying hu, sizeOf, typeInfo, hi, hc, hadd]
      · cases h
    · cases h
  · cases h

theorem calm_sound {ν : Nat → Nat} {st : St P w0} {o : Oper} {s : SV} {it : Items P w0} {nd : Needs} (h : calmS P st o = some (s, it, nd)) {a : Act} (ht : Holds ν st.tmps a)
    (wf : ∀ s ∈ st.tmps, s.lt st.heap.length) :
    (∃ l, nd = l ++ st.need) ∧ s.lt st.heap.length ∧ (Fits nd → Calm P w0 ν st.heap o a (s.to ν)) := by
  have hsv : ∀ {x s}, svOf st.tmps x = some s → s.lt st.heap.length := by
    intro x s hx
    rcases svOf_known hx with ⟨t, rfl, h1, h2⟩ | ⟨y, rfl, h1⟩
    · exact wf _ (List.mem_of_getElem? h1)
    · trivial
  have hother : otherS P st o = some (s, it, nd) → (∃ l, nd = l ++ st.need) ∧ s.lt st.heap.length ∧ (Fits nd → Calm P w0 ν st.heap o a (s.to ν)) := by
    intro hp
    obtain ⟨h1, ⟨u, h2⟩, h3⟩ := other_sound hp ht
    exact ⟨h1, by rw [h2]; trivial, h3⟩
  unfold calmS at h
  split at h
  case h_1 x ho =>
    split at h
    · rename_i s' hs
      simp only [Option.some.injEq, Prod.mk.injEq] at h
      obtain ⟨rfl, rfl, rfl⟩ := h
      refine ⟨⟨[], rfl⟩, hsv hs, fun _ W _ _ => ?_⟩
      unfold execOp
      simp only [ho, svOf_eval ht hs]
      exact ⟨rfl, rfl⟩
    · cases h
  case h_2 x ho =>
    split at h
    · rename_i s' hs
      simp only [Option.some.injEq, Prod.mk.injEq] at h
      obtain ⟨rfl, rfl, rfl⟩ := h
      refine ⟨⟨[], rfl⟩, hsv hs, fun _ W _ _ => ?_⟩
      unfold execOp
      simp only [ho, svOf_eval ht hs]
      exact ⟨rfl, rfl⟩
    · cases h
  case h_3 t x ho =>
    split at h
    · rename_i j off hs
      split at h
      · rename_i u hu
        simp only [Option.some.injEq, Prod.mk.injEq] at h
        obtain ⟨rfl, rfl, rfl⟩ := h
        refine ⟨⟨[], rfl⟩, trivial, fun _ W _ hW => ?_⟩
        have hb : ∃ b, st.heap[j]? = some b := by
          unfold loadS at hu
          cases hb : st.heap[j]? with
          | none => rw [hb] at hu; cases hu
          | some b => exact ⟨b, rfl⟩
        obtain ⟨b, hb⟩ := hb
        have hr := run_loadVar_blk (hW j b hb) hb hu
        unfold execOp
        simp only [ho, svOf_eval ht hs, SV.to, Instr.loadAt, Instr.sureAddr, Sem.run_bind, Sem.run_pure, Result.andThen_ok, hr]
        exact ⟨rfl, rfl⟩
      · cases h
    · exact hother h
  case h_4 sty x f ho =>
    split at h
    · rename_i j off k hs hk
      simp only [Option.some.injEq, Prod.mk.injEq] at h
      obtain ⟨rfl, rfl, rfl⟩ := h
      have hlt : (SV.p j off).lt st.heap.length := hsv hs
      refine ⟨⟨[], rfl⟩, hlt, fun _ W _ hW => ?_⟩
      unfold execOp
      simp only [ho, svOf_eval ht hs, SV.to, Sem.run_bind, Sem.run_pure, Result.andThen_ok, field_run hk]
      exact ⟨rfl, rfl⟩
    · cases h
  case h_5 t x i ho =>
    split at h
    · rename_i j off len cap k n hs hi
      split at h
      · rename_i n' hk
        simp only [Option.some.injEq, Prod.mk.injEq] at h
        obtain ⟨rfl, rfl, rfl⟩ := h
        have hlt : (SV.s j off len cap).lt st.heap.length := hsv hs
        refine ⟨⟨[], rfl⟩, hlt, fun _ W _ hW => ?_⟩
        unfold execOp
        simp only [ho, svOf_eval ht hs, plainOf_eval ht hi, SV.to, Sem.run_bind, Sem.run_pure, Result.andThen_ok, idx_run hk]
        exact ⟨rfl, rfl⟩
      · cases h
    · exact hother h
  case h_6 src dst x ho =>
    split at h
    · rename_i j off len cap hs
      split at h
      · rename_i src' dst' cs ty off' len' cap' v hv it' b hk hb
        simp only [Option.some.injEq, Prod.mk.injEq] at h
        obtain ⟨rfl, rfl, rfl⟩ := h
        refine ⟨⟨[_], rfl⟩, trivial, fun hn W _ hW => ?_⟩
        have h1 := hn (.conv src dst b.cells b.ty off len cap, .conv src' dst' cs ty off' len' cap') (List.mem_cons_self ..)
        simp only [Req.conv.injEq] at h1
        obtain ⟨rfl, rfl, h3, h4, rfl, rfl, rfl⟩ := h1
        subst h3 h4
        have h5 := hv W (ν j) (hW j b hb)
        unfold execOp
        simp only [ho, svOf_eval ht hs, SV.to, Sem.run_bind, Sem.run_pure, Result.andThen_ok, h5]
        exact ⟨rfl, rfl⟩
      · cases h
    · exact hother h
  case h_7 op t x y yt ho =>
    split at h
    · rename_i op' t' a1 b1 v hv items' hk
      split at h
      · rename_i a' b' hx hy
        split at h
        · rename_i he
          simp only [Option.some.injEq, Prod.mk.injEq] at h
          obtain ⟨rfl, rfl, rfl⟩ := h
          refine ⟨⟨[_], rfl⟩, trivial, fun hn W _ hW => ?_⟩
          obtain ⟨rfl, rfl⟩ := he
          have h1 := hn (.vals #[a', b'], .vals #[a1, b1]) (List.mem_cons_self ..)
          simp only [Req.vals.injEq, Array.mk.injEq, List.cons.injEq, and_true] at h1
          obtain ⟨rfl, rfl⟩ := h1
          have h2 := hv x y W
          unfold execOp
          simp only [ho, plainOf_eval ht hx, plainOf_eval ht hy, Sem.run_bind, Sem.run_pure, Result.andThen_ok] at h2 ⊢
          rw [h2]
          exact ⟨rfl, rfl⟩
        · cases h
      · cases h
    · exact hother h
  case h_8 => exact hother h

theorem calm_need {st : St P w0} {o : Oper} {s : SV} {it : Items P w0} {nd : Needs} (hc : calmS P st o = some (s, it, nd)) : ∃ l, nd = l ++ st.need := by
  have hother : otherS P st o = some (s, it, nd) → ∃ l, nd = l ++ st.need := by
    intro h
    unfold otherS plainS at h
    repeat' split at h
    all_goals first
      | (cases h; done)
      | (simp only [Option.some.injEq, Prod.mk.injEq] at h; obtain ⟨-, -, rfl⟩ := h; first | exact ⟨[], rfl⟩ | exact ⟨[_], rfl⟩)
  unfold calmS at hc
  repeat' split at hc
  all_goals first
    | (cases hc; done)
    | exact hother hc
    | (simp only [Option.some.injEq, Prod.mk.injEq] at hc; obtain ⟨-, -, rfl⟩ := hc; first | exact ⟨[], rfl⟩ | exact ⟨[_], rfl⟩)

def putS (tmps : List SV) (dst : Option Tmp) (s : SV) : List SV :=
  match dst with
  | some d => tmps.set d s
  | none => tmps
theorem putS_len (tmps : List SV) (dst : Option Tmp) (s : SV) : (putS tmps dst s).length = tmps.length := by cases dst <;> simp [putS]
theorem put_size (a : Act) (dst : Option Tmp) (v : Value) : (a.put dst v).tmps.size = a.tmps.size := by cases dst <;> simp [Act.put]
theorem putS_holds {ν : Nat → Nat} {tmps : List SV} {a : Act} (hz : a.tmps.size = tmps.length) (ht : Holds ν tmps a) (dst : Option Tmp) {s : SV} {v : Value} (hs : s.is ν v) : Holds ν (putS tmps dst s) (a.put dst v) := by
  cases dst with
  | none => exact ht
  | some d =>
    intro t s' h
    simp only [putS] at h
    by_cases e : d = t
    · subst e
      have hl : d < tmps.length := by
        have := (List.getElem?_eq_some_iff.1 h).1
        simpa using this
      rw [List.getElem?_set_self hl] at h
      cases h
      refine ⟨v, ?_, hs⟩
      have hd : d < a.tmps.size := by rw [hz]; exact hl
      simp only [Act.put]
      rw [Array.getElem?_setIfInBounds_self_of_lt hd]
    · rw [List.getElem?_set_ne e] at h
      obtain ⟨u, hu, h2⟩ := ht t s' h
      refine ⟨u, ?_, h2⟩
      simp only [Act.put]
      rw [Array.getElem?_setIfInBounds_ne e]
      exact hu
theorem putS_wf {tmps : List SV} {n : Nat} (wf : ∀ s ∈ tmps, s.lt n) (dst : Option Tmp) {s : SV} (hs : s.lt n) : ∀ x ∈ putS tmps dst s, x.lt n := by
  cases dst with
  | none => exact wf
  | some d =>
    intro x hx
    rcases List.mem_or_eq_of_mem_set hx with h | h
    · exact wf x h
    · subst h; exact hs
theorem SV.is_self (ν : Nat → Nat) (s : SV) : s.is ν (s.to ν) := fun _ => rfl

def zeroS (P : Program) (t : TypeId) : Option (List Value) :=
  match P.info? t with
  | some i => match i.zero with
    | some z => some z.cells.toList
    | none => none
  | none => none
theorem zero_run {t : TypeId} {cs : List Value} (h : zeroS P t = some cs) (W : World) : (Instr.alloc t true (.tuple #[])).run P W = .ok (newPtr W.heap.size) (W.alloc (.cells cs.toArray t (0, 0))) := by
  unfold zeroS at h
  split at h
  · rename_i i hi
    split at h
    · rename_i z hz
      cases h
      simp [Instr.alloc, zeroValue, typeInfo, hi, hz, newVar, newRow, newPtr]
    · cases h
  · cases h

def storeS (P : Program) (heap : List Blk) (t : TypeId) (j off : Nat) (v : Value) : Option (List Blk) :=
  match heap[j]?, P.info? t with
  | some b, some i => if v.cells.toList.length = i.size ∧ off + v.cells.toList.length ≤ b.cells.length ∧ v.cells.toList.all (·.oneCell') = true ∧ b.own = true then
      some (heap.set j { b with cells := b.cells.take off ++ v.cells.toList ++ b.cells.drop (off + v.cells.toList.length) }) else none
  | _, _ => none

/-- A row that is written out: its cells. -/
def rowS (P : Program) (t : TypeId) (len : Nat) (parts : List (Nat × Value)) : Option (List Value × TypeId) :=
  match P.underlying t with
  | some (.slice e) => match P.info? e with
    | some i => match i.zero with
      | some z => if len * i.size > 2 ^ 24 then none else if len * i.size = 0 then none else
        match Instr.fill (fun k => some (k * i.size, i.size)) ((Array.range (len * i.size)).map (z.cells[· % z.cells.size]!)) parts with
        | some cs => some (cs.toList, e)
        | none => none
      | none => none
    | none => none
  | _ => none
theorem row_run {t : TypeId} {len : Nat} {parts : Array (Nat × Value)} {cs : List Value} {e : TypeId} (h : rowS P t len parts.toList = some (cs, e)) (W : World) :
    (Instr.buildSlice t len parts).run P W = .ok (.slice (some ⟨W.heap.size, 0, none⟩) len len) (W.alloc (.cells cs.toArray e (0, 0))) := by
  unfold rowS at h
  split at h
  · rename_i e' hu
    split at h
    · rename_i i hi
      split at h
      · rename_i z hz
        split at h
        · cases h
        · rename_i h1
          split at h
          · cases h
          · rename_i h2
            split at h
            · rename_i cs' hf
              simp only [Option.some.injEq, Prod.mk.injEq] at h
              obtain ⟨rfl, rfl⟩ := h
              simp [Instr.buildSlice, run_underlying hu, sizeOf, typeInfo, hi, h1, h2, zeroValue, hz, hf, newRow]
            · cases h
      · cases h
    · cases h
  · cases h

def yieldedS (ops : Array Oper) (tmps : List SV) (j : Nat) : Option Bool :=
  match ((ops[j]?).bind (·.dst)).bind (tmps[·]?) with
  | some (.v (.bool b)) => some b
  | _ => none
/-- Whether the guard's slot is known. -/
def sureS (ops : Array Oper) (tmps : List SV) (o : Oper) : Bool :=
  match o.guard with
  | none => true
  | some (j, _) => match ((ops[j]?).bind (·.dst)).bind (tmps[·]?) with
    | some s => s.known
    | none => true
theorem wantedS_eq {ν : Nat → Nat} {tmps : List SV} {a : Act} (hz : a.tmps.size = tmps.length) (ht : Holds ν tmps a) (ops : Array Oper) {o : Oper} (h : sureS ops tmps o = true) :
    Region.wanted o (yielded ops a.tmps) = Region.wanted o (yieldedS ops tmps) := by
  unfold sureS at h
  unfold Region.wanted
  split
  · rfl
  · rename_i j w hg
    rw [hg] at h
    dsimp only at h
    congr 1
    unfold yielded yieldedS
    cases hd : (ops[j]?).bind (·.dst) with
    | none => rfl
    | some t =>
      rw [hd] at h
      simp only [Option.bind_some] at h ⊢
      cases hs : tmps[t]? with
      | none =>
        have : ¬ t < tmps.length := fun hlt => by rw [List.getElem?_eq_getElem hlt] at hs; cases hs
        have hn : a.tmps[t]? = none := Array.getElem?_eq_none (by rw [hz]; exact Nat.le_of_not_lt this)
        rw [hn]
      | some s =>
        rw [hs] at h
        obtain ⟨u, hu, h2⟩ := ht t s hs
        rw [hu, h2 h]
        cases s with
        | v x => cases x <;> rfl
        | p j off => rfl
        | s j off l c => rfl
        | no => cases h

def newS (st : St P w0) (dst : Option Tmp) (s : SV) (cs : List Value) (t : TypeId) : St P w0 :=
  { st with tmps := putS st.tmps dst s, heap := st.heap ++ [⟨cs, t, true⟩] }

def stepS (P : Program) (ops : Array Oper) (st : St P w0) (o : Oper) : Option (St P w0) :=
  if sureS ops st.tmps o then
  if Region.wanted o (yieldedS ops st.tmps) then
    match o.op with
    | .alloc t => match zeroS P t with
      | some cs => some (newS st o.dst (.p st.heap.length 0) cs t)
      | none => none
    | .box t x => match plainOf st.tmps x with
      | some v => some (newS st o.dst (.p st.heap.length 0) v.cells.toList t)
      | none => none
    | .buildSlice t len parts => if allPlain st.tmps o then
        match rowS P t len (parts.map fun (i, x) => (i, rhoOf st.tmps x)).toList with
        | some (cs, e) => some (newS st o.dst (.s st.heap.length 0 len len) cs e)
        | none => none
      else none
    | .store t a x => match svOf st.tmps a, plainOf st.tmps x with
      | some (.p j off), some v => match storeS P st.heap t j off v with
        | some h => some { st with tmps := putS st.tmps o.dst (.v undef), heap := h }
        | none => none
      | _, _ => none
    | _ => match calmS P st o with
      | some (s, it, nd) => some { st with tmps := putS st.tmps o.dst s, items := it, need := nd }
      | none => none
  else some { st with tmps := putS st.tmps o.dst (.v undef) }
  else none

theorem SV.to_ext {ν ν' : Nat → Nat} {s : SV} {n : Nat} (h : s.lt n) (e : ∀ j, j < n → ν' j = ν j) : s.to ν' = s.to ν := by
  cases s with
  | v y => rfl
  | p j off => simp only [SV.to]; rw [e j h]
  | s j off l c => simp only [SV.to]; rw [e j h]
  | no => rfl
theorem SV.lt_mono {s : SV} {n m : Nat} (h : s.lt n) (hm : n ≤ m) : s.lt m := by
  cases s with
  | v y => trivial
  | p j off => exact Nat.lt_of_lt_of_le h hm
  | s j off l c => exact Nat.lt_of_lt_of_le h hm
  | no => trivial
theorem holds_ext {ν ν' : Nat → Nat} {tmps : List SV} {a : Act} {n : Nat} (h : Holds ν tmps a) (wf : ∀ s ∈ tmps, s.lt n) (e : ∀ j, j < n → ν' j = ν j) : Holds ν' tmps a := by
  intro t s hs
  obtain ⟨u, hu, h2⟩ := h t s hs
  exact ⟨u, hu, fun hk => by rw [SV.to_ext (wf s (List.mem_of_getElem? hs)) e]; exact h2 hk⟩

theorem HeapOk.on {ν : Nat → Nat} {heap : List Blk} {W W' : World} (h : HeapOk ν heap W) (hb : Below W.heap.size W W') : HeapOk ν heap W' :=
  fun j b hj => by rw [hb.block _ (block_lt (h j b hj))]; exact h j b hj
theorem Rep.on {ν : Nat → Nat} {st : Tm} {a : Act} {W W' : World} (R : Rep w0 ν st a W) (hb : Below W.heap.size W W') : Rep w0 ν st a W' :=
  ⟨R.size, R.tmps, R.defers, R.below.trans (hb.mono R.below.size), R.heap.on hb, R.new, R.inj, R.wf⟩
theorem put_defers (a : Act) (dst : Option Tmp) (v : Value) : (a.put dst v).defers = a.defers := by cases dst <;> rfl
theorem Rep.put {ν : Nat → Nat} {st : Tm} {a : Act} {W : World} (R : Rep w0 ν st a W) (dst : Option Tmp) {s : SV} (hs : s.lt st.heap.length) :
    Rep w0 ν ⟨putS st.tmps dst s, st.heap⟩ (a.put dst (s.to ν)) W :=
  ⟨by rw [put_size, putS_len]; exact R.size, putS_holds R.size R.tmps dst (s.is_self ν), by rw [put_defers]; exact R.defers, R.below, R.heap, R.new, R.inj, putS_wf R.wf dst hs⟩

/-- A new block, known under the number behind the last. -/
theorem Rep.newBlk {ν : Nat → Nat} {st : Tm} {a : Act} {W : World} (R : Rep w0 ν st a W) (dst : Option Tmp) (s : SV) (hs : s.lt (st.heap.length + 1)) (cs : List Value) (t : TypeId) {g : Nat}
    (hg : W.heap[g]? = some (.cells cs.toArray t (0, 0))) (h0 : w0.heap.size ≤ g) (hne : ∀ j, j < st.heap.length → ν j ≠ g) {u : Value} (hu : ∀ ν' : Nat → Nat, ν' st.heap.length = g → s.to ν' = u) :
    ∃ ν', Ext st.heap.length ν ν' ∧ ν' st.heap.length = g ∧ Rep w0 ν' ⟨putS st.tmps dst s, st.heap ++ [⟨cs, t, true⟩]⟩ (a.put dst u) W := by
  let ν' : Nat → Nat := fun j => if j = st.heap.length then g else ν j
  have e : ∀ j, j < st.heap.length → ν' j = ν j := fun j hj => if_neg (by omega)
  have e2 : ν' st.heap.length = g := if_pos rfl
  have hlen : (st.heap ++ [(⟨cs, t, true⟩ : Blk)]).length = st.heap.length + 1 := by simp
  refine ⟨ν', e, e2, ?_⟩
  have hlook : ∀ (j : Nat) (b : Blk), (st.heap ++ [(⟨cs, t, true⟩ : Blk)])[j]? = some b → (j < st.heap.length ∧ st.heap[j]? = some b) ∨ (j = st.heap.length ∧ b = ⟨cs, t, true⟩) := by
    intro j b hj
    rcases Nat.lt_trichotomy j st.heap.length with h | h | h
    · rw [List.getElem?_append_left h] at hj; exact .inl ⟨h, hj⟩
    · subst h
      rw [List.getElem?_append_right (Nat.le_refl _)] at hj
      simp at hj; exact .inr ⟨rfl, hj.symm⟩
    · rw [List.getElem?_eq_none (by simp; omega)] at hj; cases hj
  refine ⟨by rw [put_size, putS_len]; exact R.size, ?_, by rw [put_defers]; exact R.defers, R.below, ?_, ?_, ?_, ?_⟩
  · rw [← hu ν' e2]
    exact putS_holds R.size (holds_ext R.tmps R.wf e) dst (s.is_self ν')
  · intro j b hj
    rcases hlook j b hj with ⟨h, h2⟩ | ⟨h, h2⟩
    · rw [e j h]; exact R.heap j b h2
    · subst h h2; rw [e2]; exact hg
  · intro j b hj ho
    rcases hlook j b hj with ⟨h, h2⟩ | ⟨h, h2⟩
    · rw [e j h]; exact R.new j b h2 ho
    · subst h h2; rw [e2]; exact h0
  · intro i j hi hj hij
    simp only [hlen] at hi hj
    by_cases h1 : i = st.heap.length
    · by_cases h2 : j = st.heap.length
      · rw [h1, h2]
      · exfalso
        subst h1
        rw [e2, e j (by omega)] at hij
        exact hne j (by omega) hij.symm
    · by_cases h2 : j = st.heap.length
      · exfalso
        subst h2
        rw [e2, e i (by omega)] at hij
        exact hne i (by omega) hij
      · rw [e i (by omega), e j (by omega)] at hij
        exact R.inj i j (by omega) (by omega) hij
  · simp only [hlen]
    exact putS_wf (fun s hs => SV.lt_mono (R.wf s hs) (Nat.le_succ _)) dst hs

theorem lt_of_heap {ν : Nat → Nat} {heap : List Blk} {W : World} (h : HeapOk ν heap W) {j : Nat} (hj : j < heap.length) : ν j < W.heap.size :=
  block_lt (h j heap[j] (by simp [hj]))

theorem calm_wp {o : Oper} {a : Act} {W : World} {v : Value} {K : Act → World → Prop} {Q : Exit → Act → World → Prop} (h : calmUpon P W v ((execOp a.eval o).run P W))
    (hK : ∀ W', Below W.heap.size W W' → K (a.put o.dst v) W') : o.wp P a W K Q := by
  unfold Oper.wp
  generalize (execOp a.eval o).run P W = r at h
  cases r with
  | ok nx w' =>
    cases nx <;> simp only [calmUpon] at h <;> simp only [Oper.upon]
    case value u => obtain ⟨rfl, rfl⟩ := h; exact hK _ (Below.refl _ _)
    case skip => obtain ⟨rfl, rfl⟩ := h; exact hK _ (Below.refl _ _)
    case enter f args =>
      obtain ⟨rfl, hp⟩ := h
      exact hp.here.mono fun e w'' ⟨he, hb⟩ => by subst he; exact hK _ hb
  | halt x w' => simp only [calmUpon] at h

theorem store_sound {ν : Nat → Nat} {st : Tm} {a : Act} {W : World} (R : Rep w0 ν st a W) {t : TypeId} {j off : Nat} {v : Value} {h' : List Blk} (h : storeS P st.heap t j off v = some h') (dst : Option Tmp) :
    ∃ W', (Instr.storeAt t (.pointer (some ⟨ν j, off, none⟩)) v).run P W = .ok () W' ∧ Rep w0 ν ⟨putS st.tmps dst (.v undef), h'⟩ (a.put dst undef) W' := by
  unfold storeS at h
  split at h
  · rename_i b i hb hi
    split at h
    · rename_i hc
      obtain ⟨c1, c2, c3, c4⟩ := hc
      cases h
      have hg := R.heap j b hb
      have hjl : j < st.heap.length := (List.getElem?_eq_some_iff.1 hb).1
      have hr := run_storeCells_at (P := P) (ν j) off b.ty v.cells.toList 0 b.cells.toArray W hg (by simpa using c2) (fun x hx => List.all_eq_true.1 c3 x hx)
      refine ⟨W.setRow (ν j) (List.take (off + 0) b.cells.toArray.toList ++ v.cells.toList ++ List.drop (off + 0 + v.cells.toList.length) b.cells.toArray.toList).toArray, ?_, ⟨?_, ?_, ?_, ?_, ?_, ?_, ?_, ?_⟩⟩
      · have hs : v.cells.size = i.size := by simpa using c1
        simp only [Instr.storeAt, Instr.sureAddr, storeVar, sizeOf, typeInfo, Sem.run_bind, Sem.run_pure, Result.andThen_ok, run_program, hi, hs, ne_eq, not_true_eq_false, if_false]
        exact hr
      · rw [put_size, putS_len]; exact R.size
      · exact putS_holds R.size R.tmps dst (s := .v undef) (fun _ => rfl)
      · rw [put_defers]; exact R.defers
      · exact below_setRow R.below (R.new j b hb c4) _
      · intro k c hk
        simp only at hk
        by_cases e : k = j
        · subst e
          rw [List.getElem?_set_self hjl] at hk
          cases hk
          have := setRow_heap W (ν k) b.cells.toArray (List.take (off + 0) b.cells.toArray.toList ++ v.cells.toList ++ List.drop (off + 0 + v.cells.toList.length) b.cells.toArray.toList).toArray b.ty (0, 0) hg
          simpa using this
        · rw [List.getElem?_set_ne (Ne.symm e)] at hk
          have hkl : k < st.heap.length := (List.getElem?_eq_some_iff.1 hk).1
          rw [setRow_other W (ν j) (ν k) _ (fun h => e (R.inj k j hkl hjl h))]
          exact R.heap k c hk
      · intro k c hk ho
        simp only at hk
        by_cases e : k = j
        · subst e; exact R.new k b hb c4
        · rw [List.getElem?_set_ne (Ne.symm e)] at hk; exact R.new k c hk ho
      · intro x y hx hy
        simp only [List.length_set] at hx hy
        exact R.inj x y hx hy
      · simp only [List.length_set]
        exact putS_wf R.wf dst trivial
    · cases h
  · cases h

theorem heap_len_new (st : St P w0) (dst : Option Tmp) (s : SV) (cs : List Value) (t : TypeId) : (newS st dst s cs t).heap.length = st.heap.length + 1 := by simp [newS]

theorem step_sound {ops : Array Oper} {st st' : St P w0} {o : Oper} (h : stepS P ops st o = some st') :
    (∃ l, st'.need = l ++ st.need) ∧ st.heap.length ≤ st'.heap.length ∧ (Fits st'.need →
      ∀ {ν : Nat → Nat} {a : Act} {W : World} {Q : Exit → Act → World → Prop} {rest : List Oper}, Rep w0 ν st.toTm a W →
        (∀ ν' a' W', Ext st.heap.length ν ν' → Rep w0 ν' st'.toTm a' W' → wpList P ops Q rest a' W') → wpList P ops Q (o :: rest) a W) := by
  unfold stepS at h
  split at h
  case isFalse => cases h
  rename_i hsure
  have wd : ∀ {ν : Nat → Nat} {a : Act} {W : World}, Rep w0 ν st.toTm a W → Region.wanted o (yielded ops a.tmps) = Region.wanted o (yieldedS ops st.tmps) := fun R => wantedS_eq R.size R.tmps ops hsure
  split at h
  · rename_i hw
    have want : ∀ {ν : Nat → Nat} {a : Act} {W : World}, Rep w0 ν st.toTm a W → Region.wanted o (yielded ops a.tmps) = true := fun R => by
      rw [wd R]; exact hw
    split at h
    case h_1 t ho =>
      split at h
      · rename_i cs hz
        cases h
        refine ⟨⟨[], rfl⟩, by rw [heap_len_new]; omega, fun hn ν a W Q rest R hK => ?_⟩
        refine wpList_step fun K hk => ?_
        rw [if_pos (want R)]
        unfold Oper.wp execOp
        simp only [ho, Sem.run_bind, zero_run hz, Result.andThen_ok, Sem.run_pure]
        have R2 : Rep w0 ν st.toTm a (W.alloc (.cells cs.toArray t (0, 0))) := R.on ((Below.refl _ _).alloc (Nat.le_refl _) _)
        obtain ⟨ν', h1, h2, h3⟩ := R2.newBlk o.dst (.p st.heap.length 0) (Nat.lt_succ_self _) cs t (g := W.heap.size) (alloc_here rfl) R.below.size (fun j hj => Nat.ne_of_lt (lt_of_heap R.heap hj))
          (u := newPtr W.heap.size) (fun ν' e => by simp only [SV.to, newPtr, e])
        exact hk _ _ (hK ν' _ _ h1 h3)
      · cases h
    case h_2 t x ho =>
      split at h
      · rename_i v hv
        cases h
        refine ⟨⟨[], rfl⟩, by rw [heap_len_new]; omega, fun hn ν a W Q rest R hK => ?_⟩
        refine wpList_step fun K hk => ?_
        rw [if_pos (want R)]
        unfold Oper.wp execOp
        simp only [ho, plainOf_eval R.tmps hv]
        have hrun : (Instr.box t v).run P W = .ok (newPtr W.heap.size) (W.alloc (.cells v.cells.toList.toArray t (0, 0))) := by
          simp [Instr.box, newVar, newRow, newPtr]
        simp only [Sem.run_bind, hrun, Result.andThen_ok, Sem.run_pure]
        have R2 : Rep w0 ν st.toTm a (W.alloc (.cells v.cells.toList.toArray t (0, 0))) := R.on ((Below.refl _ _).alloc (Nat.le_refl _) _)
        obtain ⟨ν', h1, h2, h3⟩ := R2.newBlk o.dst (.p st.heap.length 0) (Nat.lt_succ_self _) v.cells.toList t (g := W.heap.size) (alloc_here rfl) R.below.size (fun j hj => Nat.ne_of_lt (lt_of_heap R.heap hj))
          (u := newPtr W.heap.size) (fun ν' e => by simp only [SV.to, newPtr, e])
        exact hk _ _ (hK ν' _ _ h1 h3)
      · cases h
    case h_3 t len parts ho =>
      split at h
      · rename_i hp
        split at h
        · rename_i cs e hr
          cases h
          refine ⟨⟨[], rfl⟩, by rw [heap_len_new]; omega, fun hn ν a W Q rest R hK => ?_⟩
          refine wpList_step fun K hk => ?_
          rw [if_pos (want R)]
          unfold Oper.wp
          rw [allPlain_exec R.tmps hp]
          unfold execOp
          simp only [ho, Sem.run_bind, row_run hr, Result.andThen_ok, Sem.run_pure]
          have R2 : Rep w0 ν st.toTm a (W.alloc (.cells cs.toArray e (0, 0))) := R.on ((Below.refl _ _).alloc (Nat.le_refl _) _)
          obtain ⟨ν', h1, h2, h3⟩ := R2.newBlk o.dst (.s st.heap.length 0 len len) (Nat.lt_succ_self _) cs e (g := W.heap.size) (alloc_here rfl) R.below.size (fun j hj => Nat.ne_of_lt (lt_of_heap R.heap hj))
            (u := .slice (some ⟨W.heap.size, 0, none⟩) len len) (fun ν' e => by simp only [SV.to, e])
          exact hk _ _ (hK ν' _ _ h1 h3)
        · cases h
      · cases h
    case h_4 t x y ho =>
      split at h
      · rename_i j off v hx hy
        split at h
        · rename_i hp hs
          cases h
          have hlen : hp.length = st.heap.length := by
            unfold storeS at hs
            split at hs
            · split at hs
              · cases hs; simp
              · cases hs
            · cases hs
          refine ⟨⟨[], rfl⟩, by simp only [hlen]; omega, fun hn ν a W Q rest R hK => ?_⟩
          refine wpList_step fun K hk => ?_
          rw [if_pos (want R)]
          obtain ⟨W', h1, h2⟩ := store_sound R hs o.dst
          unfold Oper.wp execOp
          simp only [ho, svOf_eval R.tmps hx, plainOf_eval R.tmps hy, SV.to, Sem.run_bind, h1, Result.andThen_ok, Sem.run_pure]
          exact hk _ _ (hK ν _ _ (fun _ _ => rfl) h2)
        · cases h
      · cases h
    case h_5 =>
      split at h
      · rename_i s it nd hc
        cases h
        refine ⟨calm_need hc, Nat.le_refl _, fun hn ν a W Q rest R hK => ?_⟩
        refine wpList_step fun K hk => ?_
        rw [if_pos (want R)]
        obtain ⟨-, hlt, hcalm⟩ := calm_sound hc R.tmps R.wf
        exact calm_wp (hcalm hn W R.below R.heap) fun W' hb => hk _ _ (hK ν _ _ (fun _ _ => rfl) ((R.on hb).put o.dst hlt))
      · cases h
  · rename_i hw
    cases h
    refine ⟨⟨[], rfl⟩, Nat.le_refl _, fun hn ν a W Q rest R hK => ?_⟩
    refine wpList_step fun K hk => ?_
    rw [if_neg (by rw [wd R]; exact hw)]
    exact hk _ _ (hK ν _ _ (fun _ _ => rfl) (R.put o.dst (s := .v undef) trivial))

def runL (P : Program) (ops : Array Oper) : List Oper → St P w0 → Option (St P w0)
  | [], st => some st
  | o :: l, st => match stepS P ops st o with
    | some st' => runL P ops l st'
    | none => none

theorem Ext.trans {n n' : Nat} {ν ν' ν'' : Nat → Nat} (h : Ext n ν ν') (hl : n ≤ n') (h' : Ext n' ν' ν'') : Ext n ν ν'' :=
  fun j hj => (h' j (Nat.lt_of_lt_of_le hj hl)).trans (h j hj)

theorem needs_of {nd nd' : Needs} (h : ∃ l, nd' = l ++ nd) (hn : Fits nd') : Fits nd := by
  obtain ⟨l, rfl⟩ := h
  exact fun r hr => hn r (List.mem_append_right _ hr)
theorem needs_trans {a b c : Needs} (h : ∃ l, b = l ++ a) (k : ∃ l, c = l ++ b) : ∃ l, c = l ++ a := by
  obtain ⟨l, rfl⟩ := h
  obtain ⟨m, rfl⟩ := k
  exact ⟨m ++ l, by simp⟩

theorem run_sound {ops : Array Oper} : ∀ (l : List Oper) {st st' : St P w0}, runL P ops l st = some st' →
    (∃ l, st'.need = l ++ st.need) ∧ st.heap.length ≤ st'.heap.length ∧ (Fits st'.need →
      ∀ {ν : Nat → Nat} {a : Act} {W : World} {Q : Exit → Act → World → Prop}, Rep w0 ν st.toTm a W →
        (∀ ν' a' W', Ext st.heap.length ν ν' → Rep w0 ν' st'.toTm a' W' → Q .normal a' W') → wpList P ops Q l a W)
  | [], st, st', h => by
    cases h
    exact ⟨⟨[], rfl⟩, Nat.le_refl _, fun hn ν a W Q R hK => wpList_nil (hK ν a W (fun _ _ => rfl) R)⟩
  | o :: l, st, st', h => by
    unfold runL at h
    split at h
    · rename_i st1 h1
      obtain ⟨n1, e1, s1⟩ := step_sound h1
      obtain ⟨n2, e2, s2⟩ := run_sound l h
      refine ⟨needs_trans n1 n2, Nat.le_trans e1 e2, fun hn ν a W Q R hK => ?_⟩
      exact s1 (needs_of n2 hn) R fun ν1 a1 W1 x1 R1 => s2 hn R1 fun ν2 a2 W2 x2 R2 => hK ν2 a2 W2 (x1.trans e1 x2) R2
    · cases h

/-- Operations that leave memory as it is, in the text's order. -/
def calmL (P : Program) (ops : Array Oper) : List Oper → St P w0 → Option (St P w0)
  | [], st => some st
  | o :: l, st =>
    if sureS ops st.tmps o then
    if Region.wanted o (yieldedS ops st.tmps) then
      match calmS P st o with
      | some (s, it, nd) => calmL P ops l { st with tmps := putS st.tmps o.dst s, items := it, need := nd }
      | none => none
    else calmL P ops l { st with tmps := putS st.tmps o.dst (.v undef) }
    else none

theorem calmL_sound {ops : Array Oper} : ∀ (l : List Oper) {st st' : St P w0}, calmL P ops l st = some st' →
    (∃ l, st'.need = l ++ st.need) ∧ st'.heap = st.heap ∧ (Fits st'.need →
      ∀ {ν : Nat → Nat} {a : Act} {W : World} {Q : Act → Prop}, Rep w0 ν st.toTm a W → (∀ a', Rep w0 ν st'.toTm a' W → Q a') → wpCalm P ops W Q l a)
  | [], st, st', h => by
    cases h
    exact ⟨⟨[], rfl⟩, rfl, fun hn ν a W Q R hK => wpCalm_nil (hK a R)⟩
  | o :: l, st, st', h => by
    unfold calmL at h
    split at h
    case isFalse => cases h
    rename_i hsure
    split at h
    · rename_i hw
      split at h
      · rename_i s it nd hc
        obtain ⟨n2, e2, s2⟩ := calmL_sound l h
        refine ⟨needs_trans (calm_need hc) n2, e2, fun hn ν a W Q R hK => ?_⟩
        obtain ⟨-, hlt, hcalm⟩ := calm_sound hc R.tmps R.wf
        unfold wpCalm
        rw [if_pos (by rw [wantedS_eq R.size R.tmps ops hsure]; exact hw)]
        exact ⟨s.to ν, fun x => hcalm (needs_of n2 hn) _ (R.below.trans ((later_below W x).mono R.below.size)) (R.heap.on (later_below W x)), s2 hn (R.put o.dst hlt) hK⟩
      · cases h
    · rename_i hw
      obtain ⟨n2, e2, s2⟩ := calmL_sound l h
      refine ⟨n2, e2, fun hn ν a W Q R hK => ?_⟩
      unfold wpCalm
      rw [if_neg (by rw [wantedS_eq R.size R.tmps ops hsure]; exact hw)]
      exact s2 hn (R.put o.dst (s := .v undef) trivial) hK

theorem calm_quiet {ops : Array Oper} {W : World} {Q : Act → Prop} : ∀ (l : List Oper) {a : Act}, wpCalm P ops W Q l a → wpQuiet P ops (fun w' => ∃ x, w' = later W x) Q l a
  | [], a, h => h
  | o :: l, a, h => by
    unfold wpCalm at h
    unfold wpQuiet
    split
    · rename_i hw
      rw [if_pos hw] at h
      obtain ⟨v, h1, h2⟩ := h
      refine ⟨v, ?_, calm_quiet l h2⟩
      rintro w' ⟨x, rfl⟩
      have h3 := h1 x
      unfold Oper.quietAt
      generalize (execOp a.eval o).run P (later W x) = r at h3
      cases r with
      | ok nx w' =>
        cases nx <;> simp only [calmUpon] at h3 <;> simp only [Oper.quietUpon]
        case value u => exact h3
        case skip => exact h3
        case enter f args =>
          obtain ⟨rfl, hp⟩ := h3
          refine ⟨rfl, hp.here.mono fun e w'' ⟨he, hb⟩ => ⟨he, ?_⟩⟩
          exact exists_later ((later_below W x).trans (hb.mono (size_later W x)))
      | halt x w' => simp only [calmUpon] at h3
    · rename_i hw
      rw [if_neg hw] at h
      exact calm_quiet l h

def objOf (P : Program) (l : List Oper) (i : Nat) : Obj :=
  match l[i]? with
  | some o => match o.op with
    | .alloc t => .cells ((zeroS P t).getD []).toArray t (0, 0)
    | _ => .cells #[] 0 (0, 0)
  | none => .cells #[] 0 (0, 0)
def addNew (P : Program) (l : List Oper) : List Nat → St P w0 → Option (St P w0)
  | [], st => some st
  | i :: al, st => match l[i]? with
    | some o => match o.op with
      | .alloc t => match zeroS P t with
        | some cs => addNew P l al (newS st o.dst (.p st.heap.length 0) cs t)
        | none => none
      | _ => none
    | none => none

theorem addNew_keeps {l : List Oper} : ∀ (al : List Nat) {st st' : St P w0}, addNew P l al st = some st' → st'.need = st.need ∧ st.heap.length ≤ st'.heap.length ∧
    (∀ i ∈ al, ∀ o, l[i]? = some o → ∀ ρ W, (execOp ρ o).run P W = .ok (.value (newPtr W.heap.size)) (W.alloc (objOf P l i)))
  | [], st, st', h => by cases h; exact ⟨rfl, Nat.le_refl _, fun i hi => (by cases hi)⟩
  | i :: al, st, st', h => by
    unfold addNew at h
    split at h
    · rename_i o ho
      split at h
      · rename_i t hop
        split at h
        · rename_i cs hz
          obtain ⟨h1, h2, h3⟩ := addNew_keeps al h
          refine ⟨h1, by rw [heap_len_new] at h2; omega, fun k hk o' ho' ρ W => ?_⟩
          rcases List.mem_cons.1 hk with rfl | hk
          · rw [ho] at ho'; cases ho'
            unfold execOp objOf
            simp only [ho, hop, Sem.run_bind, zero_run hz, Result.andThen_ok, Sem.run_pure, hz, Option.getD_some]
          · exact h3 k hk o' ho' ρ W
        · cases h
      · cases h
    · cases h

theorem addNew_sound {l : List Oper} {νr : Nat → Nat} {W : World} : ∀ (al : List Nat) {st st' : St P w0} {ν : Nat → Nat} {a : Act}, addNew P l al st = some st' → Rep w0 ν st.toTm a W →
    (∀ i ∈ al, W.heap[νr i]? = some (objOf P l i)) → (∀ i ∈ al, w0.heap.size ≤ νr i) → (∀ i ∈ al, ∀ j, j < st.heap.length → ν j ≠ νr i) → al.Nodup → (∀ i ∈ al, ∀ j ∈ al, i ≠ j → νr i ≠ νr j) →
    ∃ ν', Ext st.heap.length ν ν' ∧ Rep w0 ν' st'.toTm (withNew (dstOf l.toArray) (fun _ => true) νr al a) W
  | [], st, st', ν, a, h, R, _, _, _, _, _ => by cases h; exact ⟨ν, fun _ _ => rfl, R⟩
  | i :: al, st, st', ν, a, h, R, hb, hw, hne, hnd, hap => by
    unfold addNew at h
    split at h
    · rename_i o ho
      split at h
      · rename_i t hop
        split at h
        · rename_i cs hz
          have hobj : objOf P l i = .cells cs.toArray t (0, 0) := by
            unfold objOf
            simp only [ho, hop, hz, Option.getD_some]
          have hg := hb i (List.mem_cons_self ..)
          rw [hobj] at hg
          obtain ⟨ν1, x1, y1, R1⟩ := R.newBlk o.dst (.p st.heap.length 0) (Nat.lt_succ_self _) cs t hg (hw i (List.mem_cons_self ..)) (fun j hj => hne i (List.mem_cons_self ..) j hj)
            (u := newPtr (νr i)) (fun ν' e => by simp only [SV.to, newPtr, e])
          rw [List.nodup_cons] at hnd
          have hdst : dstOf l.toArray i = o.dst := by simp [dstOf, ho]
          obtain ⟨ν2, x2, R2⟩ := addNew_sound (νr := νr) al h R1 (fun k hk => hb k (List.mem_cons_of_mem _ hk)) (fun k hk => hw k (List.mem_cons_of_mem _ hk)) (fun k hk j hj => by
            rw [heap_len_new] at hj
            by_cases e : j = st.heap.length
            · subst e; rw [y1]
              exact hap i (List.mem_cons_self ..) k (List.mem_cons_of_mem _ hk) (fun e => hnd.1 (e ▸ hk))
            · rw [x1 j (by omega)]; exact hne k (List.mem_cons_of_mem _ hk) j (by omega)) hnd.2
            (fun k hk j hj => hap k (List.mem_cons_of_mem _ hk) j (List.mem_cons_of_mem _ hj))
          refine ⟨ν2, fun j hj => ?_, ?_⟩
          · rw [x2 j (by rw [heap_len_new]; omega)]; exact x1 j hj
          · unfold withNew
            simp only [if_true]
            rw [hdst]
            exact R2
        · cases h
      · cases h
    · cases h

def isAlloc (o : Oper) : Bool := match o.op with
  | .alloc _ => true
  | _ => false
def isMem (o : Oper) : Bool := match o.op with
  | .alloc _ | .box .. | .store .. | .buildSlice .. => true
  | _ => false
def isStore (o : Oper) : Bool := match o.op with
  | .store .. => true
  | _ => false
/-- How many operations stand ahead of the stores at the end. -/
def headLen (l : List Oper) : Nat := l.length - (l.reverse.takeWhile isStore).length
def whichB (p : Oper → Bool) : Nat → List Oper → List Nat
  | _, [] => []
  | i, o :: l => if p o then i :: whichB p (i + 1) l else whichB p (i + 1) l

def orderKey : Nat := 1000001
def isRowOp (o : Oper) : Bool := match o.op with
  | .buildSlice .. => true
  | _ => false
/-- The operations that stand behind a row that is written out. -/
def lateOf : List Oper → Nat → List Nat → List Nat
  | [], _, acc => acc
  | o :: l, i, acc => lateOf l (i + 1) (if isRowOp o || o.after.any (fun e => acc.contains e.on) then acc ++ [i] else acc)
def orderOf (l : List Oper) : List Nat := (List.range l.length).filter (fun i => !(lateOf l 0 []).contains i) ++ lateOf l 0 []
def drawRowS (P : Program) (l l' : List Oper) (ord : List Nat) (st : St P w0) : Option (St P w0) :=
  let n := l.length - (lateOf l 0 []).length
  let al := whichB isAlloc 0 (l'.take n)
  let idx := whichB (fun o => !isAlloc o) 0 (l'.take n)
  if renumB l.toArray ord && newTailB .any l'.toArray idx al n then
    match calmL P l'.toArray (picks l' idx) st with
    | some st1 => match addNew P l' al st1 with
      | some st2 => runL P l'.toArray (l'.drop n) st2
      | none => none
    | none => none
  else none
/-- A move that waits for nothing, behind a row that is written out: it is taken ahead of the row. -/
def freeOf (l : List Oper) : Option (Nat × Nat) :=
  match whichB isRowOp 0 l with
  | j :: _ => match (whichB isFreeMove 0 l).filter (fun i => decide (j < i)) with
    | i :: _ => some (i, j)
    | [] => none
  | [] => none
def drawS (P : Program) (l : List Oper) (st : St P w0) : Option (St P w0) :=
  if l.any isRowOp then
    match freeOf l with
    | some (i, j) => if freeB l.toArray i j then drawRowS P (edged l.toArray i j).toList (permOps (edged l.toArray i j).toList.toArray (orderOf (edged l.toArray i j).toList)).toList (orderOf (edged l.toArray i j).toList) st else none
    | none => drawRowS P l (permOps l.toArray (orderOf l)).toList (orderOf l) st
  else if l.any isMem then
    let n := headLen l
    let al := whichB isAlloc 0 (l.take n)
    let idx := whichB (fun o => !isAlloc o) 0 (l.take n)
    if newTailB .any l.toArray idx al n then
      match calmL P l.toArray (picks l idx) st with
      | some st1 => match addNew P l al st1 with
        | some st2 => runL P l.toArray (l.drop n) st2
        | none => none
      | none => none
    else none
  else match takeItem orderKey st.items with
    | some (.order ops _, it') => calmL P l.toArray l { st with items := it', need := (.order l.toArray, .order ops) :: st.need }
    | _ => if Region.lexB .any l.toArray then calmL P l.toArray l st else none

theorem drawRow_sound {l : List Oper} {st st' : St P w0} (h : drawRowS P l (permOps l.toArray (orderOf l)).toList (orderOf l) st = some st') :
    (∃ l, st'.need = l ++ st.need) ∧ st.heap.length ≤ st'.heap.length ∧ (Fits st'.need →
      ∀ {ν : Nat → Nat} {a : Act} {W : World} {Q : Exit → Act → World → Prop}, Rep w0 ν st.toTm a W →
        (∀ ν' a' W', Ext st.heap.length ν ν' → Rep w0 ν' st'.toTm a' W' → Q .normal a' W') → wpAny P .any l.toArray Q l.toArray.size (Array.replicate l.toArray.size false) a { W with drawn := W.drawn + 1 }) := by
  unfold drawRowS at h
  dsimp only at h
  split at h
  · rename_i hBB
    rw [Bool.and_eq_true] at hBB
    obtain ⟨hR, hB⟩ := hBB
    split at h
    · rename_i st1 h1
      split at h
      · rename_i st2 h2
        obtain ⟨n1, e1, s1⟩ := calmL_sound _ h1
        obtain ⟨n2, e2, hal⟩ := addNew_keeps _ h2
        obtain ⟨n3, e3, s3⟩ := run_sound _ h
        rw [n2] at n3
        have el : st1.heap.length = st.heap.length := by rw [e1]
        refine ⟨needs_trans n1 n3, by omega, fun hn ν a W Q R hK => ?_⟩
        have hn1 := needs_of n3 hn
        refine region_perm_any (orderOf l) hR ?_
        have hz : l.toArray.size = (permOps l.toArray (orderOf l)).toList.toArray.size := by
          rw [(renum_of hR).size.symm]
        have hl : permOps l.toArray (orderOf l) = (permOps l.toArray (orderOf l)).toList.toArray := by simp
        have H := region_new_any (P := P) (Q := Q) _ _ _ (objOf P (permOps l.toArray (orderOf l)).toList) hB hal (s1 hn1 R fun a1 R1 νr W' hN => (by
          have R2 : Rep w0 ν st1.toTm a1 W' := R1.on hN.below
          obtain ⟨T, -, -, -⟩ := newTail_of hB
          obtain ⟨ν3, x3, R3⟩ := addNew_sound (νr := νr) _ h2 R2 (fun i hi => hN.block i hi rfl) (fun i hi => Nat.le_trans R.below.size (hN.new i hi rfl)) (fun i hi j hj => by
              have h5 := lt_of_heap R1.heap hj
              have h6 := hN.new i hi rfl
              omega) T.nodup (fun i hi j hj hne => hN.apart i hi j hj rfl rfl hne)
          exact s3 hn R3 fun ν4 a4 W4 x4 R4 => hK ν4 a4 W4 (fun j hj => by rw [x4 j (by omega), x3 j (by omega)]) R4))
        rw [← hz, ← hl] at H
        exact H
      · cases h
    · cases h
  · cases h
theorem draw_sound {id : Nat} {l : List Oper} {st st' : St P w0} (hm : P.follows .mixedOrders = true) (h : drawS P l st = some st') :
    (∃ l, st'.need = l ++ st.need) ∧ st.heap.length ≤ st'.heap.length ∧ (Fits st'.need →
      ∀ {ν : Nat → Nat} {a : Act} {W : World} {Q : Exit → Act → World → Prop}, Rep w0 ν st.toTm a W →
        (∀ ν' a' W', Ext st.heap.length ν ν' → Rep w0 ν' st'.toTm a' W' → Q .normal a' W') → (Code.region id l.toArray true).wp P Q a W) := by
  unfold drawS at h
  split at h
  · split at h
    · rename_i i j hfr
      split at h
      · rename_i hF
        obtain ⟨n1, e1, s1⟩ := drawRow_sound h
        refine ⟨n1, e1, fun hn ν a W Q R hK => region_edge i j hm hF ?_⟩
        have H := s1 hn (Q := only Q) R fun ν' a' W' x R' => ⟨rfl, hK ν' a' W' x R'⟩
        have hl : (edged l.toArray i j).toList.toArray = edged l.toArray i j := by simp
        rw [hl, edged_size] at H
        exact H
      · cases h
    · obtain ⟨n1, e1, s1⟩ := drawRow_sound h
      exact ⟨n1, e1, fun hn ν a W Q R hK => wp_region_any hm (s1 hn R hK)⟩
  split at h
  · dsimp only at h
    split at h
    · rename_i hB
      split at h
      · rename_i st1 h1
        split at h
        · rename_i st2 h2
          obtain ⟨n1, e1, s1⟩ := calmL_sound _ h1
          obtain ⟨n2, e2, hal⟩ := addNew_keeps _ h2
          obtain ⟨n3, e3, s3⟩ := run_sound _ h
          rw [n2] at n3
          have el : st1.heap.length = st.heap.length := by rw [e1]
          refine ⟨needs_trans n1 n3, by omega, fun hn ν a W Q R hK => ?_⟩
          have hn1 := needs_of n3 hn
          refine region_new _ _ _ (objOf P l) hm hB hal (s1 hn1 R fun a1 R1 νr W' hN => ?_)
          have R2 : Rep w0 ν st1.toTm a1 W' := R1.on hN.below
          obtain ⟨T, -, -, -⟩ := newTail_of hB
          obtain ⟨ν3, x3, R3⟩ := addNew_sound (νr := νr) _ h2 R2 (fun i hi => hN.block i hi rfl) (fun i hi => Nat.le_trans R.below.size (hN.new i hi rfl)) (fun i hi j hj => by
              have h5 := lt_of_heap R1.heap hj
              have h6 := hN.new i hi rfl
              omega) T.nodup (fun i hi j hj hne => hN.apart i hi j hj rfl rfl hne)
          exact s3 hn R3 fun ν4 a4 W4 x4 R4 => hK ν4 a4 W4 (fun j hj => by rw [x4 j (by omega), x3 j (by omega)]) R4
        · cases h
      · cases h
    · cases h
  · split at h
    · rename_i ops hB it' hk
      obtain ⟨n1, e1, s1⟩ := calmL_sound _ h
      refine ⟨needs_trans ⟨[_], rfl⟩ n1, by rw [e1]; simp, fun hn ν a W Q R hK => ?_⟩
      have h1 := needs_of n1 hn (.order l.toArray, .order ops) (List.mem_cons_self ..)
      simp only [Req.order.injEq] at h1
      subst h1
      refine region_pure hm hB (calm_quiet l (s1 hn R fun a1 R1 x => hK ν a1 _ (fun _ _ => rfl) (R1.on (later_below W x))))
    · split at h
      · rename_i hB
        obtain ⟨n1, e1, s1⟩ := calmL_sound _ h
        refine ⟨n1, by rw [e1]; omega, fun hn ν a W Q R hK => ?_⟩
        refine region_pure hm hB (calm_quiet l (s1 hn R fun a1 R1 x => hK ν a1 _ (fun _ _ => rfl) (R1.on (later_below W x))))
      · cases h

def loopS {α : Type} (g : α → Option (XExit × α)) : Nat → α → Option (XExit × α)
  | 0, _ => none
  | n + 1, s => match g s with
    | some (.normal, s') => loopS g n s'
    | r => r
def loopKey : Nat := 1000000

/-- With fuel 0 the run stops at a loop that nothing is given for. -/
def runC (P : Program) (fuel : Nat) : Code → St P w0 → Option (XExit × St P w0)
  | .skip, st => some (.normal, st)
  | .region _ ops d, st =>
    match (if d then drawS P ops.toList st else runL P ops ops.toList st) with
    | some st' => some (.normal, st')
    | none => none
  | .seq a b, st => match runC P fuel a st with
    | some (.normal, st') => runC P fuel b st'
    | r => r
  | .cond c a b, st => match plainOf st.tmps c with
    | some (.bool t) => if t then runC P fuel a st else runC P fuel b st
    | _ => none
  | .block id b, st => match runC P fuel b st with
    | some (.exit id', st') => if id' = id then some (.normal, st') else some (.exit id', st')
    | r => r
  | .loop b, st => match takeItem loopKey st.items with
    | some (.loop c tm e tm' _, items') => if st.heap.length ≤ tm'.heap.length then some (e, ⟨tm', items', (.loop b st.toTm, .loop c tm) :: st.need⟩) else none
    | _ => match fuel with
      | 0 => some (.stop b, st)
      | n + 1 => loopS (runC P fuel b) (n + 1) st
  | .exit id, st => some (.exit id, st)
  | .label _, st => some (.normal, st)
  | .ret, st => some (.ret, st)
  | _, _ => none

def XExit.runs : XExit → Prop
  | .stop _ => False
  | _ => True

/-- What a run of a piece of code tells of the code. -/
def Says (P : Program) (w0 : World) (c : Code) (st : St P w0) (e : XExit) (st' : St P w0) : Prop :=
  (∃ l, st'.need = l ++ st.need) ∧ st.heap.length ≤ st'.heap.length ∧ (e.runs → Fits st'.need → Leads P w0 c st.toTm e st'.toTm)

theorem loop_says {c : Code} {g : St P w0 → Option (XExit × St P w0)} (hg : ∀ st e st', g st = some (e, st') → Says P w0 c st e st') :
    ∀ (n : Nat) {st : St P w0} {e : XExit} {st' : St P w0}, loopS g n st = some (e, st') →
      (∃ l, st'.need = l ++ st.need) ∧ st.heap.length ≤ st'.heap.length ∧ (e.runs → Fits st'.need →
        ∀ {ν : Nat → Nat} {a : Act} {W : World} {Q : Exit → Act → World → Prop}, Rep w0 ν st.toTm a W →
          (∀ ν' a' W', Ext st.heap.length ν ν' → Rep w0 ν' st'.toTm a' W' → Q e.to a' W') →
          ∀ (b : Frame) (k : List Go.Item) (cs : List Frame), ∃ e a' w', Q e a' w' ∧ Arrives P (lone (b.at a (.code c :: .inLoop c :: k)) cs W) b k cs e a' w')
  | 0, st, e, st', h => by cases h
  | n + 1, st, e, st', h => by
    unfold loopS at h
    split at h
    · rename_i st1 h1
      obtain ⟨n1, e1, s1⟩ := hg _ _ _ h1
      obtain ⟨n2, e2, s2⟩ := loop_says hg n h
      refine ⟨needs_trans n1 n2, Nat.le_trans e1 e2, fun he hn ν a W Q R hK b k cs => ?_⟩
      obtain ⟨e', a', w', hq, harr⟩ := s1 trivial (needs_of n2 hn) (Q := fun e a' W' => e = .normal ∧ ∃ ν', Ext st.heap.length ν ν' ∧ Rep w0 ν' st1.toTm a' W') R (fun ν' a' W' x R' => ⟨rfl, ν', x, R'⟩) b (.inLoop c :: k) cs
      obtain ⟨rfl, ν1, x1, R1⟩ := hq
      obtain ⟨e2', a2, w2, hq2, harr2⟩ := s2 he hn R1 (fun ν2 a2 W2 x2 R2 => hK ν2 a2 W2 (x1.trans e1 x2) R2) b k cs
      exact ⟨e2', a2, w2, hq2, .of_steps (Steps.trans harr (.one step_inLoop)) harr2⟩
    · rename_i r hr
      obtain ⟨n1, e1, s1⟩ := hg _ _ _ h
      refine ⟨n1, e1, fun he hn ν a W Q R hK b k cs => ?_⟩
      obtain ⟨e', a', w', hq, harr⟩ := s1 he hn (Q := fun e' a' W' => e' = e.to ∧ ∃ ν', Ext st.heap.length ν ν' ∧ Rep w0 ν' st'.toTm a' W') R (fun ν' a' W' x R' => ⟨rfl, ν', x, R'⟩) b (.inLoop c :: k) cs
      obtain ⟨rfl, ν1, x1, R1⟩ := hq
      refine ⟨_, a', w', hK ν1 a' w' x1 R1, ?_⟩
      cases e with
      | normal => exact absurd h (hr st')
      | exit id => exact .pass (x := .inLoop c) rfl (fun _ _ => .inl (by simp [XExit.to])) harr
      | ret => exact .pass (x := .inLoop c) rfl (fun _ _ => .inl (by simp [XExit.to])) harr
      | stop c => exact he.elim

theorem says_code (hm : P.follows .mixedOrders = true) {fuel : Nat} : ∀ (c : Code) {st : St P w0} {e : XExit} {st' : St P w0}, runC P fuel c st = some (e, st') → Says P w0 c st e st' := by
  intro c
  induction c with
  | skip =>
    intro st e st' h
    simp only [runC, Option.some.injEq, Prod.mk.injEq] at h
    obtain ⟨rfl, rfl⟩ := h
    exact ⟨⟨[], rfl⟩, Nat.le_refl _, fun _ hn ν a W Q R hK => wp_skip (hK ν a W (fun _ _ => rfl) R)⟩
  | region id ops d =>
    intro st e st' h
    simp only [runC] at h
    split at h
    · rename_i st1 h1
      simp only [Option.some.injEq, Prod.mk.injEq] at h
      obtain ⟨rfl, rfl⟩ := h
      cases d with
      | true =>
        simp only [if_true] at h1
        obtain ⟨n1, e1, s1⟩ := draw_sound (id := id) hm h1
        refine ⟨n1, e1, fun _ hn ν a W Q R hK => ?_⟩
        have := s1 hn (Q := Q) R hK
        rwa [show ops.toList.toArray = ops from by simp] at this
      | false =>
        simp only [Bool.false_eq_true, if_false] at h1
        obtain ⟨n1, e1, s1⟩ := run_sound _ h1
        exact ⟨n1, e1, fun _ hn ν a W Q R hK => wp_region_list (s1 hn R hK)⟩
    · cases h
  | seq x y ihx ihy =>
    intro st e st' h
    simp only [runC] at h
    split at h
    · rename_i st1 h1
      obtain ⟨n1, e1, s1⟩ := ihx h1
      obtain ⟨n2, e2, s2⟩ := ihy h
      refine ⟨needs_trans n1 n2, Nat.le_trans e1 e2, fun he hn ν a W Q R hK => ?_⟩
      exact wp_seq (s1 trivial (needs_of n2 hn) R fun ν1 a1 W1 x1 R1 => s2 he hn R1 fun ν2 a2 W2 x2 R2 => hK ν2 a2 W2 (x1.trans e1 x2) R2)
    · rename_i r hr
      obtain ⟨n1, e1, s1⟩ := ihx h
      refine ⟨n1, e1, fun he hn ν a W Q R hK => ?_⟩
      refine wp_seq (s1 he hn R fun ν1 a1 W1 x1 R1 => ?_)
      have := hK ν1 a1 W1 x1 R1
      cases e with
      | normal => exact absurd h (hr st')
      | exit id => exact this
      | ret => exact this
      | stop c => exact he.elim
  | cond c x y ihx ihy =>
    intro st e st' h
    simp only [runC] at h
    split at h
    · rename_i t hc
      cases t with
      | true =>
        simp only [if_true] at h
        obtain ⟨n1, e1, s1⟩ := ihx h
        exact ⟨n1, e1, fun he hn ν a W Q R hK => wp_cond_true (plainOf_eval R.tmps hc) (s1 he hn R hK)⟩
      | false =>
        simp only [Bool.false_eq_true, if_false] at h
        obtain ⟨n1, e1, s1⟩ := ihy h
        exact ⟨n1, e1, fun he hn ν a W Q R hK => wp_cond_false (plainOf_eval R.tmps hc) (s1 he hn R hK)⟩
    · cases h
  | block id b ih =>
    intro st e st' h
    simp only [runC] at h
    split at h
    · rename_i id' st1 h1
      obtain ⟨n1, e1, s1⟩ := ih h1
      split at h
      · rename_i hid
        simp only [Option.some.injEq, Prod.mk.injEq] at h
        obtain ⟨rfl, rfl⟩ := h
        refine ⟨n1, e1, fun he hn ν a W Q R hK => wp_block (s1 trivial hn R fun ν1 a1 W1 x1 R1 => ?_)⟩
        simp only [XExit.to, Exit.inBlock, hid, if_true]
        exact hK ν1 a1 W1 x1 R1
      · rename_i hid
        simp only [Option.some.injEq, Prod.mk.injEq] at h
        obtain ⟨rfl, rfl⟩ := h
        refine ⟨n1, e1, fun he hn ν a W Q R hK => wp_block (s1 trivial hn R fun ν1 a1 W1 x1 R1 => ?_)⟩
        simp only [XExit.to, Exit.inBlock, hid, if_false]
        exact hK ν1 a1 W1 x1 R1
    · rename_i r hr
      obtain ⟨n1, e1, s1⟩ := ih h
      refine ⟨n1, e1, fun he hn ν a W Q R hK => wp_block (s1 he hn R fun ν1 a1 W1 x1 R1 => ?_)⟩
      have := hK ν1 a1 W1 x1 R1
      cases e with
      | normal => exact this
      | exit id' => exact absurd h (hr id' st')
      | ret => exact this
      | stop c => exact he.elim
  | loop b ih =>
    intro st e st' h
    simp only [runC] at h
    split at h
    · rename_i c tm e' tm' hL items' hk
      split at h
      · rename_i hle
        simp only [Option.some.injEq, Prod.mk.injEq] at h
        obtain ⟨rfl, rfl⟩ := h
        refine ⟨⟨[_], rfl⟩, hle, fun he hn => ?_⟩
        have h1 := hn (.loop b st.toTm, .loop c tm) (List.mem_cons_self ..)
        simp only [Req.loop.injEq] at h1
        obtain ⟨rfl, h2⟩ := h1
        subst h2
        exact @hL
      · cases h
    · split at h
      · simp only [Option.some.injEq, Prod.mk.injEq] at h
        obtain ⟨rfl, rfl⟩ := h
        exact ⟨⟨[], rfl⟩, Nat.le_refl _, fun he => he.elim⟩
      · obtain ⟨n1, e1, s1⟩ := loop_says (fun st e st' h => ih h) _ h
        refine ⟨n1, e1, fun he hn ν a W Q R hK b' k cs => ?_⟩
        obtain ⟨e', a', w', hq, harr⟩ := s1 he hn (Q := Q) R hK b' k cs
        exact ⟨e', a', w', hq, .of_steps (.one step_loop) harr⟩
  | exit id =>
    intro st e st' h
    simp only [runC, Option.some.injEq, Prod.mk.injEq] at h
    obtain ⟨rfl, rfl⟩ := h
    exact ⟨⟨[], rfl⟩, Nat.le_refl _, fun _ hn ν a W Q R hK => wp_exit (hK ν a W (fun _ _ => rfl) R)⟩
  | label l =>
    intro st e st' h
    simp only [runC, Option.some.injEq, Prod.mk.injEq] at h
    obtain ⟨rfl, rfl⟩ := h
    exact ⟨⟨[], rfl⟩, Nat.le_refl _, fun _ hn ν a W Q R hK => wp_label (hK ν a W (fun _ _ => rfl) R)⟩
  | ret =>
    intro st e st' h
    simp only [runC, Option.some.injEq, Prod.mk.injEq] at h
    obtain ⟨rfl, rfl⟩ := h
    exact ⟨⟨[], rfl⟩, Nat.le_refl _, fun _ hn ν a W Q R hK => wp_ret (hK ν a W (fun _ _ => rfl) R)⟩
  | _ => intro st e st' h; simp [runC] at h

def forget (hs : List Nat) (tm : Tm) : Tm := { tm with tmps := hs.foldl (fun l i => l.set i .no) tm.tmps }
theorem Rep.forgetOne {ν : Nat → Nat} {tmps : List SV} {heap : List Blk} {a : Act} {W : World} (R : Rep w0 ν ⟨tmps, heap⟩ a W) (i : Nat) : Rep w0 ν ⟨tmps.set i .no, heap⟩ a W := by
  refine ⟨by rw [List.length_set]; exact R.size, fun t s hs => ?_, R.defers, R.below, R.heap, R.new, R.inj, fun s hs => ?_⟩
  · by_cases e : i = t
    · subst e
      have hl : i < tmps.length := by
        have := (List.getElem?_eq_some_iff.1 hs).1
        simpa using this
      rw [List.getElem?_set_self hl] at hs
      cases hs
      obtain ⟨u, hu, -⟩ := R.tmps i tmps[i] (List.getElem?_eq_getElem hl)
      exact ⟨u, hu, fun h => by cases h⟩
    · rw [List.getElem?_set_ne e] at hs
      exact R.tmps t s hs
  · rcases List.mem_or_eq_of_mem_set hs with h | h
    · exact R.wf s h
    · subst h; trivial
theorem Rep.forget {ν : Nat → Nat} {a : Act} {W : World} : ∀ (hs : List Nat) {tm : Tm}, Rep w0 ν tm a W → Rep w0 ν (forget hs tm) a W
  | [], tm, R => R
  | i :: hs, tm, R => Rep.forget hs (tm := ⟨tm.tmps.set i .no, tm.heap⟩) (R.forgetOne i)

def ask (r : Option (XExit × St P w0)) (hs : List Nat) : List Req × XExit × Tm :=
  match r with
  | some (e, st) => (st.need.map (·.1), e, forget hs st.toTm)
  | none => ([], .ret, ⟨[], []⟩)
def told (r : Option (XExit × St P w0)) (e : XExit) (tm : Tm) : List Req × XExit × Tm :=
  match r with
  | some (_, st) => (st.need.map (·.2), e, tm)
  | none => ([.sem (Sem.pure undef)], e, tm)
/-- The piece of code, run with these things given, ends so, in that state (but for what is forgotten). -/
def Ends (P : Program) (fuel : Nat) (c : Code) (tm : Tm) (its : Items P w0) (hs : List Nat) (e : XExit) (tm' : Tm) : Prop :=
  ask (runC P fuel c ⟨tm, its, []⟩) hs = told (runC P fuel c ⟨tm, its, []⟩) e tm'

theorem map_eq_all : ∀ {nd : Needs}, nd.map (·.1) = nd.map (·.2) → Fits nd
  | [], _, r, hr => by cases hr
  | x :: nd, h, r, hr => by
    simp only [List.map_cons, List.cons.injEq] at h
    rcases List.mem_cons.1 hr with rfl | hr
    · exact h.1
    · exact map_eq_all h.2 r hr

theorem leads_of_ends (hm : P.follows .mixedOrders = true) {fuel : Nat} {c : Code} {tm tm' : Tm} {its : Items P w0} {hs : List Nat} {e : XExit} (he : e.runs) (h : Ends P fuel c tm its hs e tm') :
    tm.heap.length ≤ tm'.heap.length ∧ Leads P w0 c tm e tm' := by
  unfold Ends at h
  generalize hr : runC P fuel c ⟨tm, its, []⟩ = r at h
  cases r with
  | none => simp [ask, told] at h
  | some r =>
    obtain ⟨e1, st⟩ := r
    simp only [ask, told, Prod.mk.injEq] at h
    obtain ⟨h1, rfl, rfl⟩ := h
    obtain ⟨-, hl, hs1⟩ := says_code hm c hr
    refine ⟨hl, fun {ν a W Q} R hK => ?_⟩
    exact hs1 he (map_eq_all h1) R fun ν' a' W' x R' => hK ν' a' W' x (R'.forget hs)

def endOf (r : Option (XExit × St P w0)) : Tm := match r with
  | some (_, st) => st.toTm
  | none => ⟨[], []⟩
def bodyOf (P : Program) (f : FuncId) : Code :=
  match P.funcs[f]? with
  | some fn => match fn.body with
    | some c => c
    | none => .skip
  | none => .skip
def resS (P : Program) (rs : Array ResultVar) (st : Tm) : Option Value :=
  match rs.toList with
  | [.tmp t] => plainOf st.tmps (.tmp t)
  | [.cell t ty] => match svOf st.tmps (.tmp t) with
    | some (.p j off) => loadS P st.heap ty j off
    | _ => none
  | _ => none

theorem res_run {ν : Nat → Nat} {st : Tm} {a : Act} {W : World} (R : Rep w0 ν st a W) {fn : Func} {u : Value} (h : resS P fn.results st = some u) : (results fn a.tmps).run P W = .ok u W := by
  unfold resS at h
  split at h
  · rename_i t ht
    have he : fn.results = #[.tmp t] := by
      have h9 := congrArg List.toArray ht
      simpa using h9
    have h2 : a.eval (.tmp t) = u := plainOf_eval R.tmps h
    rw [results_tmp he]
    exact congrArg (fun v => Result.ok v W) h2
  · rename_i t ty ht
    have he : fn.results = #[.cell t ty] := by
      have h9 := congrArg List.toArray ht
      simpa using h9
    split at h
    · rename_i j off hs
      have h2 : a.eval (.tmp t) = .pointer (some ⟨ν j, off, none⟩) := svOf_eval R.tmps hs
      have hb : ∃ b, st.heap[j]? = some b := by
        unfold loadS at h
        cases hb : st.heap[j]? with
        | none => rw [hb] at h; cases h
        | some b => exact ⟨b, rfl⟩
      obtain ⟨b, hb⟩ := hb
      have hr := run_loadVar_blk (R.heap j b hb) hb h
      have h3 : a.tmps.getD t undef = .pointer (some ⟨ν j, off, none⟩) := h2
      have h4 : a.tmps[t]?.getD undef = .pointer (some ⟨ν j, off, none⟩) := by rw [← Array.getD_eq_getD_getElem?]; exact h3
      simp only [results, he]
      simp [h4, asAddr, hr]
    · cases h
  · cases h

def initTm (fn : Func) (args : List Value) : Tm := ⟨args.map .v ++ List.replicate (fn.ntmps - args.length) (.v undef), []⟩
def runF (P : Program) (fuel : Nat) (f : FuncId) (args : List Value) (items : Items P w0) : Option (Needs × Value) :=
  match P.funcs[f]? with
  | none => none
  | some fn => match fn.body with
    | none => none
    | some c => match runC P fuel c ⟨initTm fn args, items, []⟩ with
      | some (.ret, st) => match resS P fn.results st.toTm with
        | some v => some (st.need, v)
        | none => none
      | some (.normal, st) => match resS P fn.results st.toTm with
        | some v => some (st.need, v)
        | none => none
      | _ => none

def got (v : Value) : Option (Needs × Value) → List Req × Value
  | some (nd, u) => (nd.map (·.1), u)
  | none => ([], undef)
def want (v : Value) : Option (Needs × Value) → List Req × Value
  | some (nd, _) => (nd.map (·.2), v)
  | none => ([.sem (Sem.pure undef)], v)

theorem rep_init (w : World) (fn : Func) (args : List Value) : Rep w (fun _ => 0) (initTm fn args) { tmps := args.toArray ++ Array.replicate (fn.ntmps - args.toArray.size) undef, defers := [] } w := by
  refine ⟨by simp [initTm], fun t s hs => ?_, rfl, Below.refl _ _, fun j b h => (by simp [initTm] at h), fun j b h => (by simp [initTm] at h), fun i j h => (by simp [initTm] at h), fun s hs => ?_⟩
  · have e : ((args.toArray ++ Array.replicate (fn.ntmps - args.toArray.size) undef : Array Value)) = (((initTm fn args).tmps.map (SV.to fun _ => 0))).toArray := by
      have e : (SV.to fun _ => 0) ∘ SV.v = id := rfl
      simp [initTm, List.map_append, List.map_map, e, SV.to]
    refine ⟨s.to fun _ => 0, ?_, s.is_self _⟩
    simp only [e, List.getElem?_toArray, List.getElem?_map, hs, Option.map_some]
  · rcases List.mem_append.1 hs with h | h
    · obtain ⟨x, -, rfl⟩ := List.mem_map.1 h; trivial
    · rw [List.eq_of_mem_replicate h]; trivial

/-- THE LAW, at one world: the run goes through, what was given fits, and 'v' comes out. -/
theorem calls_of_run (hm : P.follows .mixedOrders = true) {f : FuncId} {args : List Value} {v : Value} (fuel : Nat) (w : World) (items : Items P w)
    (h2 : got v (runF P fuel f args items) = want v (runF P fuel f args items)) : Calls P f args.toArray w fun e w' => e = .returned v ∧ Below w.heap.size w w' := by
  unfold runF at h2
  split at h2
  · simp [got, want] at h2
  · rename_i fn hf
    split at h2
    · simp [got, want] at h2
    · rename_i c hb
      refine calls_of_wp hf hb ?_
      have fin : ∀ (e : XExit) (st : St P w), (e = .ret ∨ e = .normal) → runC P fuel c ⟨initTm fn args, items, []⟩ = some (e, st) → Fits st.need → resS P fn.results st.toTm = some v →
          c.wp P (bodyPost P fn fun e w' => e = .returned v ∧ Below w.heap.size w w') { tmps := args.toArray ++ Array.replicate (fn.ntmps - args.toArray.size) undef, defers := [] } w := by
        intro e st he hrun hn hres
        obtain ⟨-, -, s1⟩ := says_code hm (w0 := w) c hrun
        refine s1 (by rcases he with rfl | rfl <;> trivial) hn (rep_init w fn args) fun ν' a' W' x R => ?_
        rcases he with rfl | rfl
        · exact ⟨R.defers, v, res_run R hres, rfl, R.below⟩
        · exact ⟨R.defers, v, res_run R hres, rfl, R.below⟩
      split at h2
      · rename_i st hrun
        split at h2
        · rename_i u hu
          simp only [got, want, Prod.mk.injEq] at h2
          exact fin .ret st (.inl rfl) hrun (map_eq_all h2.1) (by rw [hu, h2.2])
        · simp [got, want] at h2
      · rename_i st hrun
        split at h2
        · rename_i u hu
          simp only [got, want, Prod.mk.injEq] at h2
          exact fin .normal st (.inr rfl) hrun (map_eq_all h2.1) (by rw [hu, h2.2])
        · simp [got, want] at h2
      · simp [got, want] at h2
end
end Go.Ev


set_option linter.unusedSimpArgs false
set_option linter.unusedVariables false
namespace Go.Ev
open Go.RowKit Go.Eng

section
end
end Go.Ev


set_option linter.unusedSimpArgs false
set_option linter.unusedVariables false
namespace Go.Proofs.Ytcfimlllgkknhaa
open Go.RowKit Go.Eng Go.Ev

theorem toList_beq (l v : ByteArray) : (l.toList == v.toList) = decide (l = v) := by
  rw [ByteArray.toList_eq, ByteArray.toList_eq, Bool.eq_iff_iff, beq_iff_eq, decide_eq_true_iff]
  exact ⟨fun h => ByteArray.ext (Array.toList_inj.1 h), fun h => by rw [h]⟩
theorem mixed : Try.prog.follows .mixedOrders = true := by kernel_rfl
abbrev TI (w : World) := Go.Ev.Item Try.prog w
def C {w : World} {f : FuncId} {args : Array Value} {v : Value} (h : PureAt Try.prog w f args v) : TI w := .call f args v h

theorem boon_bin (s t : Bool) (x y : Operand) (W : World) : (do eqGuard .neq 4 x y (.bool s) (.bool t); binOp .neq 4 (.bool s) (.bool t) : Sem Value).run Try.prog W = .ok (.bool (!decide (s = t))) W := by
  have e : (s == t) = decide (s = t) := by cases s <;> cases t <;> rfl
  have h := run_neq_bool (P := Try.prog) W 4 s t Try.underlying4
  simp only [eqGuard, Sem.run_bind, Sem.run_pure, Result.andThen_ok]
  rw [← e]
  exact h
def NB {w : World} (s t : Bool) {b : Bool} (h : decide (s = t) = b) : TI w := .bin .neq 4 (.bool s) (.bool t) (.bool (!b)) (by subst h; exact boon_bin s t)
theorem same {α : Type} [DecidableEq α] (x : α) : decide (x = x) = true := decide_eq_true rfl

theorem strn_bin (s t : ByteArray) (x y : Operand) (W : World) : (do eqGuard .neq 9 x y (.string s) (.string t); binOp .neq 9 (.string s) (.string t) : Sem Value).run Try.prog W = .ok (.bool (!decide (s = t))) W := by
  simp [eqGuard, binOp, Op.stringOp, beq_toListBytes, toList_beq]
def NS {w : World} (s t : ByteArray) {b : Bool} (h : decide (s = t) = b) : TI w := .bin .neq 9 (.string s) (.string t) (.bool (!b)) (by subst h; exact strn_bin s t)

theorem lss_bin (k : IntKind) (t : TypeId) (a b : Int) (x y : Operand) (W : World) : (do eqGuard .lss t x y (.int k a) (.int k b); binOp .lss t (.int k a) (.int k b) : Sem Value).run Try.prog W = .ok (.bool (decide (a < b))) W := by
  simp [eqGuard, binOp, Op.intCmp]
theorem gtr_bin (k : IntKind) (t : TypeId) (a b : Int) (x y : Operand) (W : World) : (do eqGuard .gtr t x y (.int k a) (.int k b); binOp .gtr t (.int k a) (.int k b) : Sem Value).run Try.prog W = .ok (.bool (decide (b < a))) W := by
  simp [eqGuard, binOp, Op.intCmp]
def LT {w : World} (k : IntKind) (t : TypeId) (a b : Int) {c : Bool} (h : decide (a < b) = c) : TI w := .bin .lss t (.int k a) (.int k b) (.bool c) (by subst h; exact lss_bin k t a b)
def GT {w : World} (k : IntKind) (t : TypeId) (a b : Int) {c : Bool} (h : decide (b < a) = c) : TI w := .bin .gtr t (.int k a) (.int k b) (.bool c) (by subst h; exact gtr_bin k t a b)

theorem add_bin' (k : IntKind) (t : TypeId) (a b : Int) (x y : Operand) (W : World) : (do eqGuard .add t x y (.int k a) (.int k b); binOp .add t (.int k a) (.int k b) : Sem Value).run Try.prog W = .ok (.int k (k.wrap (a + b))) W := by
  simp [eqGuard, binOp, Op.intArith]
theorem eqi_bin (k : IntKind) (t : TypeId) (a b : Int) (x y : Operand) (W : World) : (do eqGuard .eql t x y (.int k a) (.int k b); binOp .eql t (.int k a) (.int k b) : Sem Value).run Try.prog W = .ok (.bool (decide (a = b))) W := by
  have e : (a == b) = decide (a = b) := by rw [Bool.eq_iff_iff]; simp
  simp [eqGuard, binOp, Op.intCmp, e]
def PI {w : World} (k : IntKind) (t : TypeId) (a b c : Int) (h : k.wrap (a + b) = c) : TI w := .bin .add t (.int k a) (.int k b) (.int k c) (by subst h; exact add_bin' k t a b)
def EI {w : World} (k : IntKind) (t : TypeId) (a b : Int) {c : Bool} (h : decide (a = b) = c) : TI w := .bin .eql t (.int k a) (.int k b) (.bool c) (by subst h; exact eqi_bin k t a b)

end Go.Proofs.Ytcfimlllgkknhaa


set_option linter.unusedSimpArgs false
set_option linter.unusedVariables false
namespace Go.Ev
open Go.Eng Go.RowKit

section
variable {P : Program} {w0 : World}
def spine : Nat → Code → Code
  | 0, c => c
  | n + 1, .seq _ b => spine n b
  | _ + 1, _ => .skip
def runS (P : Program) (fuel : Nat) : Nat → Code → St P w0 → Option (St P w0)
  | 0, _, st => some st
  | n + 1, .seq a b, st => match runC P fuel a st with
    | some (.normal, st') => runS P fuel n b st'
    | _ => none
  | _ + 1, _, _ => none

theorem spine_sound (hm : P.follows .mixedOrders = true) {fuel : Nat} : ∀ (n : Nat) (c : Code) {st st' : St P w0}, runS P fuel n c st = some st' →
    (∃ l, st'.need = l ++ st.need) ∧ st.heap.length ≤ st'.heap.length ∧ (Fits st'.need →
      ∀ {ν : Nat → Nat} {a : Act} {W : World} {Q : Exit → Act → World → Prop}, Rep w0 ν st.toTm a W →
        (∀ ν' a' W', Ext st.heap.length ν ν' → Rep w0 ν' st'.toTm a' W' → (spine n c).wp P Q a' W') → c.wp P Q a W) := by
  intro n
  induction n with
  | zero =>
    intro c st st' h
    simp only [runS, Option.some.injEq] at h
    subst h
    exact ⟨⟨[], rfl⟩, Nat.le_refl _, fun _ ν a W Q R hK => hK ν a W (fun _ _ => rfl) R⟩
  | succ n ih =>
    intro c st st' h
    cases c with
    | seq a b =>
      simp only [runS] at h
      split at h
      · rename_i st1 h1
        obtain ⟨n1, e1, s1⟩ := says_code hm a h1
        obtain ⟨n2, e2, s2⟩ := ih b h
        refine ⟨needs_trans n1 n2, Nat.le_trans e1 e2, fun hn ν a W Q R hK => ?_⟩
        exact wp_seq (s1 trivial (needs_of n2 hn) R fun ν1 a1 W1 x1 R1 => s2 hn R1 fun ν2 a2 W2 x2 R2 => hK ν2 a2 W2 (x1.trans e1 x2) R2)
      · cases h
    | _ => simp [runS] at h

def withN (r : Option (St P w0)) : Option (XExit × St P w0) := r.map fun s => (.normal, s)
/-- The first n parts, run with these things given, come to that state (but for what is forgotten). -/
theorem wp_spine (hm : P.follows .mixedOrders = true) {fuel n : Nat} {c : Code} {tm tm' : Tm} {its : Items P w0} (hs : List Nat)
    (h : ask (withN (runS P fuel n c ⟨tm, its, []⟩)) hs = told (withN (runS P fuel n c ⟨tm, its, []⟩)) .normal tm') {ν : Nat → Nat} {a : Act} {W : World} {Q : Exit → Act → World → Prop} (R : Rep w0 ν tm a W)
    (hK : ∀ ν' a' W', Ext tm.heap.length ν ν' → Rep w0 ν' tm' a' W' → (spine n c).wp P Q a' W') : c.wp P Q a W := by
  generalize hr : runS P fuel n c ⟨tm, its, []⟩ = r at h
  cases r with
  | none => simp [ask, told, withN] at h
  | some st =>
    simp only [ask, told, withN, Option.map_some, Prod.mk.injEq] at h
    obtain ⟨h1, -, rfl⟩ := h
    obtain ⟨-, hl, hs1⟩ := spine_sound hm n c hr
    exact hs1 (map_eq_all h1) R fun ν' a' W' x R' => hK ν' a' W' x (R'.forget hs)

/-- A whole piece of code to its end, in a call of 'fn'. -/
theorem wp_ends (hm : P.follows .mixedOrders = true) {fuel : Nat} {fn : Func} {c : Code} {tm tm' : Tm} {its : Items P w0} {v : Value}
    (h : ask (runC P fuel c ⟨tm, its, []⟩) [] = told (runC P fuel c ⟨tm, its, []⟩) .ret tm') (hr : resS P fn.results tm' = some v) {ν : Nat → Nat} {a : Act} {W : World} {post : Ending → World → Prop} (R : Rep w0 ν tm a W)
    (hK : ∀ W', Below w0.heap.size w0 W' → post (.returned v) W') : c.wp P (bodyPost P fn post) a W := by
  obtain ⟨-, hL⟩ := leads_of_ends hm (hs := []) (e := .ret) trivial h
  exact hL R fun ν' a' W' x R' => ⟨R'.defers, v, res_run R' hr, hK W' R'.below⟩
end
end Go.Ev
namespace Go.Proofs.Ytcfimlllgkknhaa
open Go.RowKit Go.Eng Go.Ev
end Go.Proofs.Ytcfimlllgkknhaa

