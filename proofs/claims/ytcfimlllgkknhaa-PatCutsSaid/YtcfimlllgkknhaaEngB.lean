/-
  A region that draws its order and holds calls AND new variables: whichever order is picked, the new variables are new blocks, apart from each other, and everything else is as the text's own order has it.
-/
import Derived.Test.YtcfimlllgkknhaaEng
set_option linter.unusedSimpArgs false
set_option linter.unusedVariables false
namespace Go.Eng
open Go.RowKit

section
variable {P : Program} {ops : Array Oper} {md : Region.Mode}

/-- What is asked of an operation's outcome in the world 'w': the value 'v', the world unturned; or a call that hands back 'v' and turns nothing. -/
def calmUpon (P : Program) (w : World) (v : Value) : Result Next → Prop
  | .ok (.value u) w' => w' = w ∧ u = v
  | .ok .skip w' => w' = w ∧ v = undef
  | .ok (.enter f args) w' => w' = w ∧ PureAt P w f args v
  | _ => False
/-- One value, in every world in which all that 'w0' holds stands. -/
def calm (P : Program) (w0 : World) (o : Oper) (a : Act) (next : Act → Prop) : Prop :=
  ∃ v, (∀ x, calmUpon P (later w0 x) v ((execOp a.eval o).run P (later w0 x))) ∧ next (a.put o.dst v)
attribute [go_sem] calmUpon calm

def wpCalm (P : Program) (ops : Array Oper) (w0 : World) (Q : Act → Prop) : List Oper → Act → Prop
  | [], a => Q a
  | o :: rest, a => if Region.wanted o (yielded ops a.tmps) then calm P w0 o a (wpCalm P ops w0 Q rest) else wpCalm P ops w0 Q rest (a.put o.dst undef)
theorem wpCalm_nil {w0 : World} {Q : Act → Prop} {a : Act} (h : Q a) : wpCalm P ops w0 Q [] a := h
theorem wpCalm_step {w0 : World} {Q : Act → Prop} {a : Act} {o : Oper} {rest : List Oper}
    (h : ∀ K : Act → Prop, (∀ a, wpCalm P ops w0 Q rest a → K a) → if Region.wanted o (yielded ops a.tmps) then calm P w0 o a K else K (a.put o.dst undef)) : wpCalm P ops w0 Q (o :: rest) a :=
  h _ (fun _ h => h)

/-- Operation 'o' leaves 'v' in its temporary. -/
def Gives (P : Program) (ops : Array Oper) (w0 : World) (o : Oper) (v : Value) (a : Act) : Prop :=
  (Region.wanted o (yielded ops a.tmps) = true ∧ ∀ x, calmUpon P (later w0 x) v ((execOp a.eval o).run P (later w0 x))) ∨
  (Region.wanted o (yielded ops a.tmps) = false ∧ v = undef)
theorem Gives.of_same {w0 : World} {o : Oper} {v : Value} {a a' : Act} (hy : Gives P ops w0 o v a) (he : execOp a'.eval o = execOp a.eval o)
    (hw : Region.wanted o (yielded ops a'.tmps) = Region.wanted o (yielded ops a.tmps)) : Gives P ops w0 o v a' := by
  unfold Gives at *
  rw [he, hw]
  exact hy
theorem Gives.put {w0 : World} {oi : Oper} {v : Value} {a : Act} (hs : ∀ cs b, oi.op ≠ .select cs b) (dst : Option Tmp) (u : Value) (h : ∀ d, dst = some d → d ∉ oi.looksAt ops) :
    Gives P ops w0 oi v (a.put dst u) ↔ Gives P ops w0 oi v a := by
  unfold Gives
  rw [execOp_put oi hs a dst u h, wanted_put oi a dst u h]

/-- Whatever order is picked of the operations that are not listed yet, 'k' of them. -/
def anyCalm (P : Program) (md : Region.Mode) (ops : Array Oper) (w0 : World) (n : Nat) (L : Array Bool → Act → Prop) : Nat → Array Bool → Act → Prop
  | 0, listed, a => L listed a
  | k + 1, listed, a => Region.ready md ops listed ≠ [] ∧
      ∀ i ∈ Region.ready md ops listed, i < n ∧ ∃ o v, ops[i]? = some o ∧ Gives P ops w0 o v a ∧ anyCalm P md ops w0 n L k (listed.setIfInBounds i true) (a.put o.dst v)

theorem anyCalm_first {w0 : World} {n i : Nat} {oi : Oper} {v : Value} {L : Array Bool → Act → Prop} (hi : ops[i]? = some oi)
    (hsel : ∀ (j : Nat) (o : Oper) cs b, ops[j]? = some o → o.op ≠ .select cs b) (hin : i < n)
    (hready : ∀ (listed : Array Bool), HeadInv md ops n listed → listed.getD i true = false → ∀ j ∈ Region.ready md ops listed, j < n)
    (hdone : ∀ listed a, L listed a → ∀ j ∈ Region.ready md ops listed, n ≤ j) :
    ∀ (k : Nat) (listed : Array Bool) (a : Act), HeadInv md ops n listed →
      (∀ j oj, ops[j]? = some oj → j ≠ i → listed.getD j true = false → (∀ e ∈ oj.after, Region.binds md e = true → e.on ≠ i) → oi.apart ops oj = true) →
      i ∈ Region.ready md ops listed → Gives P ops w0 oi v a →
      anyCalm P md ops w0 n L k (listed.setIfInBounds i true) (a.put oi.dst v) → anyCalm P md ops w0 n L (k + 1) listed a := by
  intro k
  induction k with
  | zero =>
    intro listed a inv _ hr hy H
    have hun := (mem_ready.1 hr).1
    refine ⟨fun h => (by rw [h] at hr; cases hr), fun j hj => ?_⟩
    have hjn := hready listed inv hun j hj
    refine ⟨hjn, ?_⟩
    by_cases hji : j = i
    · subst hji; exact ⟨oi, v, hi, hy, H⟩
    · have h2 := hdone _ _ H j (ready_mono hj hji)
      omega
  | succ k ih =>
    intro listed a inv hfree hr hy H
    have hun := (mem_ready.1 hr).1
    refine ⟨fun h => (by rw [h] at hr; cases hr), fun j hj => ?_⟩
    have hjn := hready listed inv hun j hj
    refine ⟨hjn, ?_⟩
    by_cases hji : j = i
    · subst hji; exact ⟨oi, v, hi, hy, H⟩
    · obtain ⟨-, oj, u, hoj, hgj, hK⟩ := H.2 j (ready_mono hj hji)
      obtain ⟨hjun, oj', hoj', hall⟩ := mem_ready.1 hj
      obtain rfl : oj' = oj := Option.some.inj (hoj'.symm.trans hoj)
      have hnot : ∀ e ∈ oj'.after, Region.binds md e = true → e.on ≠ i := fun e he hb heq => by
        have h3 := hall e he hb
        rw [heq, getD_both hun] at h3
        cases h3
      obtain ⟨h1, h2, h3⟩ := Oper.apart_spec (hfree j oj' hoj hji hjun hnot)
      refine ⟨oj', u, hoj, (Gives.put (fun cs b => hsel j oj' cs b hoj) oi.dst v h1).1 hgj, ?_⟩
      refine ih (listed.setIfInBounds j true) (a.put oj'.dst u) (inv.set hj hjn) (fun l ol hl hli hunl hno => ?_) (ready_mono hr (Ne.symm hji)) ((Gives.put (fun cs b => hsel i oi cs b hi) oj'.dst u h3).2 hy) ?_
      · refine hfree l ol hl hli ?_ hno
        by_cases hjl : j = l
        · subst hjl; exact hjun
        · rw [getD_set_ne true hjl] at hunl; exact hunl
      · rw [Array.setIfInBounds_comm _ _ hji, ← Act.put_comm a v u h2]
        exact hK

/-- The operations of these numbers. -/
def picks (l : List Oper) (idx : List Nat) : List Oper := idx.filterMap (l[·]?)
def lexPicks (md : Region.Mode) (ops : Array Oper) (n g : Nat) : List Nat → Array Bool → Bool
  | [], listed => Region.seqB md ops g n listed
  | i :: idx, listed => decide (i < n) && (Region.ready md ops listed).contains i && Region.free md ops listed i && lexPicks md ops n g idx (listed.setIfInBounds i true)

theorem anyCalm_lex {w0 : World} {n g : Nat} {Lq : Act → Prop} (hsel : Region.noSelect ops = true)
    (hready : ∀ (i : Nat), i < n → ∀ (listed : Array Bool), HeadInv md ops n listed → listed.getD i true = false → ∀ j ∈ Region.ready md ops listed, j < n) :
    ∀ (idx : List Nat) (listed : Array Bool) (a : Act), HeadInv md ops n listed → lexPicks md ops n g idx listed = true → wpCalm P ops w0 Lq (picks ops.toList idx) a →
    anyCalm P md ops w0 n (fun listed' a' => Region.seqB md ops g n listed' = true ∧ Lq a') idx.length listed a := by
  intro idx
  induction idx with
  | nil => intro listed a _ hB h; exact ⟨hB, h⟩
  | cons i idx ih =>
    intro listed a inv hB h
    simp only [lexPicks, Bool.and_eq_true, decide_eq_true_eq] at hB
    obtain ⟨⟨⟨hin, hr⟩, hf⟩, hB'⟩ := hB
    have hr' : i ∈ Region.ready md ops listed := by simpa using hr
    obtain ⟨hun, oi, hoi, -⟩ := mem_ready.1 hr'
    have hl : ops.toList[i]? = some oi := by simpa using hoi
    have hp : picks ops.toList (i :: idx) = oi :: picks ops.toList idx := by
      unfold picks
      rw [List.filterMap_cons, hl]
    rw [hp] at h
    have hv : ∃ v, Gives P ops w0 oi v a ∧ wpCalm P ops w0 Lq (picks ops.toList idx) (a.put oi.dst v) := by
      unfold wpCalm at h
      by_cases hw : Region.wanted oi (yielded ops a.tmps) = true
      · rw [if_pos hw] at h
        obtain ⟨v, h1, h2⟩ := h
        exact ⟨v, .inl ⟨hw, h1⟩, h2⟩
      · rw [if_neg hw] at h
        exact ⟨undef, .inr ⟨by simpa using hw, rfl⟩, h⟩
    obtain ⟨v, hy, hK⟩ := hv
    exact anyCalm_first hoi (Region.noSelect_spec hsel) hin (hready i hin) (fun listed' a' hL => seqB_ready hL.1) idx.length listed a inv (Region.free_spec hoi hf) hr' hy
      (ih _ _ (inv.set hr' hin) hB' hK)

/-! The new variables. -/
def newPtr (b : Nat) : Value := .pointer (some ⟨b, 0, none⟩)
/-- A frame with the new variables that are there. -/
def withNew (dst : Nat → Option Tmp) (D : Nat → Bool) (ν : Nat → Nat) : List Nat → Act → Act
  | [], a => a
  | i :: al, a => withNew dst D ν al (if D i then a.put (dst i) (newPtr (ν i)) else a)

theorem withNew_put {dst : Nat → Option Tmp} {D : Nat → Bool} {ν : Nat → Nat} {d : Option Tmp} (v : Value) : ∀ (al : List Nat) (a : Act), (∀ i ∈ al, ∀ x, dst i = some x → d ≠ some x) →
    withNew dst D ν al (a.put d v) = (withNew dst D ν al a).put d v
  | [], a, _ => rfl
  | i :: al, a, h => by
    unfold withNew
    have h1 := h i (List.mem_cons_self ..)
    have h2 : ∀ j ∈ al, ∀ x, dst j = some x → d ≠ some x := fun j hj => h j (List.mem_cons_of_mem _ hj)
    cases hD : D i
    · simp only [Bool.false_eq_true, if_false]; exact withNew_put v al a h2
    · simp only [if_true]
      rw [← Act.put_comm a (newPtr (ν i)) v (fun x hx => h1 x hx)]
      exact withNew_put v al _ h2
theorem withNew_congr {dst : Nat → Option Tmp} {D D' : Nat → Bool} {ν ν' : Nat → Nat} : ∀ (al : List Nat) (a : Act), (∀ i ∈ al, D i = D' i) → (∀ i ∈ al, D i = true → ν i = ν' i) → withNew dst D ν al a = withNew dst D' ν' al a
  | [], a, _, _ => rfl
  | i :: al, a, h1, h2 => by
    unfold withNew
    have e := h1 i (List.mem_cons_self ..)
    have ih := fun b => withNew_congr (dst := dst) al b (fun j hj => h1 j (List.mem_cons_of_mem _ hj)) (fun j hj => h2 j (List.mem_cons_of_mem _ hj))
    cases hD : D i
    · rw [← e, hD]; exact ih _
    · rw [← e, hD, h2 i (List.mem_cons_self ..) hD]; exact ih _
/-- One more new variable. -/
theorem withNew_add {dst : Nat → Option Tmp} {D : Nat → Bool} {ν : Nat → Nat} {j b : Nat} : ∀ (al : List Nat) (a : Act), al.Nodup → j ∈ al → D j = false → (∀ i ∈ al, i ≠ j → ∀ x, dst i = some x → dst j ≠ some x) →
    withNew dst (fun i => if i = j then true else D i) (fun i => if i = j then b else ν i) al a = (withNew dst D ν al a).put (dst j) (newPtr b)
  | [], _, _, h, _, _ => by cases h
  | i :: al, a, hn, hj, hD, hd => by
    rw [List.nodup_cons] at hn
    by_cases hij : i = j
    · subst hij
      have e1 : withNew dst (fun k => if k = i then true else D k) (fun k => if k = i then b else ν k) (i :: al) a = withNew dst (fun k => if k = i then true else D k) (fun k => if k = i then b else ν k) al (a.put (dst i) (newPtr b)) := by
        conv => lhs; unfold withNew
        simp only [if_true]
      have e2 : withNew dst D ν (i :: al) a = withNew dst D ν al a := by
        conv => lhs; unfold withNew
        simp only [hD, Bool.false_eq_true, if_false]
      rw [e1, e2, withNew_put _ _ _ (fun k hk => hd k (List.mem_cons_of_mem _ hk) (fun h : k = i => hn.1 (h ▸ hk)))]
      congr 1
      exact withNew_congr al a (fun k hk => if_neg (fun h : k = i => hn.1 (h ▸ hk))) (fun k hk _ => if_neg (fun h : k = i => hn.1 (h ▸ hk)))
    · have hj' : j ∈ al := by
        rcases List.mem_cons.1 hj with h | h
        · exact absurd h.symm hij
        · exact h
      unfold withNew
      rw [if_neg hij, if_neg hij]
      exact withNew_add al _ hn.2 hj' hD (fun k hk => hd k (List.mem_cons_of_mem _ hk))
theorem withNew_look {dst : Nat → Option Tmp} {D : Nat → Bool} {ν : Nat → Nat} {o : Oper} (hs : ∀ cs b, o.op ≠ .select cs b) : ∀ (al : List Nat) (a : Act), (∀ i ∈ al, ∀ x, dst i = some x → x ∉ o.looksAt ops) →
    execOp (withNew dst D ν al a).eval o = execOp a.eval o ∧ Region.wanted o (yielded ops (withNew dst D ν al a).tmps) = Region.wanted o (yielded ops a.tmps)
  | [], a, _ => ⟨rfl, rfl⟩
  | i :: al, a, h => by
    unfold withNew
    have ih := fun b => withNew_look (dst := dst) (D := D) (ν := ν) hs al b (fun j hj => h j (List.mem_cons_of_mem _ hj))
    have h1 := h i (List.mem_cons_self ..)
    cases hD : D i
    · simp only [Bool.false_eq_true, if_false]; exact ih a
    · simp only [if_true]
      rw [(ih _).1, (ih _).2]
      exact ⟨execOp_put o hs a _ _ h1, wanted_put o a _ _ h1⟩

/-- A world behind new variables: all of 'w0' stands; each new variable is a block of its own. -/
structure HasNew (w0 : World) (obj : Nat → Obj) (al : List Nat) (D : Nat → Bool) (ν : Nat → Nat) (w : World) : Prop where
  below : Below w0.heap.size w0 w
  block : ∀ i ∈ al, D i = true → w.heap[ν i]? = some (obj i)
  new : ∀ i ∈ al, D i = true → w0.heap.size ≤ ν i
  apart : ∀ i ∈ al, ∀ j ∈ al, D i = true → D j = true → i ≠ j → ν i ≠ ν j
theorem HasNew.on {w0 : World} {obj : Nat → Obj} {al : List Nat} {D : Nat → Bool} {ν : Nat → Nat} {w w' : World} (h : HasNew w0 obj al D ν w) (hb : Below w.heap.size w w') : HasNew w0 obj al D ν w' :=
  ⟨h.below.trans (hb.mono h.below.size), fun i hi hD => by rw [hb.block _ (block_lt (h.block i hi hD))]; exact h.block i hi hD, h.new, h.apart⟩
theorem HasNew.add {w0 : World} {obj : Nat → Obj} {al : List Nat} {D : Nat → Bool} {ν : Nat → Nat} {w : World} (h : HasNew w0 obj al D ν w) (j : Nat) :
    HasNew w0 obj al (fun i => if i = j then true else D i) (fun i => if i = j then w.heap.size else ν i) (w.alloc (obj j)) := by
  refine ⟨h.below.alloc h.below.size _, fun i hi hD => ?_, fun i hi hD => ?_, fun i hi k hk hDi hDk hne => ?_⟩
  · by_cases e : i = j
    · subst e; simp only [if_true]; exact alloc_here rfl
    · simp only [if_neg e] at hD ⊢
      have h1 := h.block i hi hD
      rw [alloc_old (block_lt h1)]; exact h1
  · by_cases e : i = j
    · simp only [if_pos e]; exact h.below.size
    · simp only [if_neg e] at hD ⊢; exact h.new i hi hD
  · have lt : ∀ x ∈ al, x ≠ j → (if x = j then true else D x) = true → ν x < w.heap.size := fun x hx e hD => by
      simp only [if_neg e] at hD; exact block_lt (h.block x hx hD)
    by_cases e : i = j
    · have e2 : k ≠ j := fun e2 => hne (e.trans e2.symm)
      simp only [if_pos e, if_neg e2]
      have h3 := lt k hk e2 hDk
      exact fun h4 => by rw [h4] at h3; exact Nat.lt_irrefl _ h3
    · by_cases e2 : k = j
      · simp only [if_neg e, if_pos e2]
        exact Nat.ne_of_lt (lt i hi e hDi)
      · simp only [if_neg e, if_neg e2] at hDi hDk ⊢
        exact h.apart i hi k hk hDi hDk hne

/-- 'listed', with the new variables as if they were there. -/
def marked (al : List Nat) (listed : Array Bool) : Array Bool := al.foldl (fun l i => l.setIfInBounds i true) listed
theorem marked_size (al : List Nat) : ∀ listed : Array Bool, (marked al listed).size = listed.size := by
  induction al with
  | nil => intro _; rfl
  | cons i al ih => intro listed; show (marked al (listed.setIfInBounds i true)).size = _; rw [ih]; simp
theorem marked_get (al : List Nat) : ∀ (listed : Array Bool) (j : Nat) (d : Bool), (marked al listed).getD j d = if j ∈ al ∧ j < listed.size then true else listed.getD j d := by
  induction al with
  | nil => intro listed j d; simp [marked]
  | cons i al ih =>
    intro listed j d
    show (marked al (listed.setIfInBounds i true)).getD j d = _
    rw [ih]
    simp only [Array.size_setIfInBounds, List.mem_cons]
    by_cases hj : j < listed.size
    · by_cases hij : i = j
      · subst hij; simp [hj]
      · rw [getD_set_ne d hij]
        have : ¬ j = i := fun e => hij e.symm
        simp [hj, this]
    · simp [hj, Array.getElem?_eq_none (Nat.le_of_not_lt hj)]

def newTailB (md : Region.Mode) (ops : Array Oper) (idx al : List Nat) (n : Nat) : Bool :=
  Region.noSelect ops && decide (n < ops.size) && Region.sinkB md ops n && Region.chainB md ops n &&
  al.all (fun i => decide (i < n) && match ops[i]? with | some o => o.after.isEmpty && o.guard.isNone | none => false) &&
  decide al.Nodup && decide (al.length + idx.length = n) &&
  al.all (fun i => (List.range n).all fun j => j == i || match ops[i]?, ops[j]? with | some oi, some oj => oi.apart ops oj | _, _ => false) &&
  lexPicks md ops n (ops.size - n) idx (marked al (Array.replicate ops.size false))

structure NewTail (md : Region.Mode) (ops : Array Oper) (al : List Nat) (n : Nat) : Prop where
  sel : ∀ (j : Nat) (o : Oper) cs b, ops[j]? = some o → o.op ≠ .select cs b
  lt : n < ops.size
  waits : ∀ (listed : Array Bool), HeadInv md ops n listed → ∀ i, i < n → listed.getD i true = false → ∀ t, n ≤ t → t ∉ Region.ready md ops listed
  fresh : ∀ i ∈ al, i < n ∧ ∃ o, ops[i]? = some o ∧ o.after = #[] ∧ o.guard = none
  nodup : al.Nodup
  apart : ∀ i ∈ al, ∀ j, j < n → j ≠ i → ∀ oi oj, ops[i]? = some oi → ops[j]? = some oj → oi.apart ops oj = true

def dstOf (ops : Array Oper) (i : Nat) : Option Tmp := (ops[i]?).bind (·.dst)

theorem ext_getD {x y : Array Bool} (hs : x.size = y.size) (h : ∀ j, j < y.size → x.getD j false = y.getD j false) : x = y :=
  Array.ext hs fun j h1 h2 => by have h3 := h j h2; simpa [h1, h2] using h3
theorem marked_same {al : List Nat} {listed : Array Bool} (h : ∀ i ∈ al, i < listed.size → listed.getD i false = true) : marked al listed = listed := by
  refine ext_getD (marked_size _ _) fun j hj => ?_
  rw [marked_get]
  by_cases h1 : j ∈ al ∧ j < listed.size
  · rw [if_pos h1]; exact (h j h1.1 h1.2).symm
  · rw [if_neg h1]
theorem marked_set {al : List Nat} {listed : Array Bool} {j : Nat} : marked al (listed.setIfInBounds j true) = (marked al listed).setIfInBounds j true := by
  induction al generalizing listed with
  | nil => rfl
  | cons i al ih =>
    show marked al ((listed.setIfInBounds j true).setIfInBounds i true) = (marked al (listed.setIfInBounds i true)).setIfInBounds j true
    rw [← ih]
    by_cases h : i = j
    · subst h; rfl
    · rw [Array.setIfInBounds_comm _ _ (fun e => h e.symm)]
theorem marked_set_in {al : List Nat} {listed : Array Bool} {j : Nat} (hj : j ∈ al) : marked al (listed.setIfInBounds j true) = marked al listed := by
  refine ext_getD (by rw [marked_size, marked_size]; simp) fun i hi => ?_
  rw [marked_get, marked_get]
  by_cases e : j = i
  · subst e
    by_cases hs : j < listed.size
    · simp [hj, hs]
    · rw [marked_size] at hi; exact absurd hi hs
  · rw [getD_set_ne false e]
    simp
theorem ready_marked {al : List Nat} {listed : Array Bool} {j : Nat} (hj : j ∈ Region.ready md ops listed) (hna : j ∉ al) : j ∈ Region.ready md ops (marked al listed) := by
  obtain ⟨h1, o, ho, h2⟩ := mem_ready.1 hj
  refine mem_ready.2 ⟨?_, o, ho, fun e he hb => ?_⟩
  · rw [marked_get]; simp only [hna, false_and, if_false]; exact h1
  · rw [marked_get]; split
    · rfl
    · exact h2 e he hb

theorem wpAny_mix {w0 : World} {n g : Nat} {al : List Nat} {obj : Nat → Obj} {L : Array Bool → Act → Prop} {Q : Exit → Act → World → Prop} (T : NewTail md ops al n)
    (hal : ∀ i ∈ al, ∀ o, ops[i]? = some o → ∀ ρ W, (execOp ρ o).run P W = .ok (.value (newPtr W.heap.size)) (W.alloc (obj i)))
    (hdone : ∀ listed a, L listed a → ∀ j ∈ Region.ready md ops listed, n ≤ j)
    (hL : ∀ listed a ν w, L listed a → HasNew w0 obj al (fun _ => true) ν w → wpAny P md ops Q g listed (withNew (dstOf ops) (fun _ => true) ν al a) w) :
    ∀ (s m k : Nat) (listed : Array Bool) (a : Act) (ν : Nat → Nat) (w : World), m + k = s → m = al.countP (fun i => !listed.getD i false) → HeadInv md ops n listed →
      HasNew w0 obj al (fun i => listed.getD i false) ν w → anyCalm P md ops w0 n L k (marked al listed) a →
      wpAny P md ops Q (s + g) listed (withNew (dstOf ops) (fun i => listed.getD i false) ν al a) w := by
  intro s
  induction s with
  | zero =>
    intro m k listed a ν w hs hm inv hw H
    obtain rfl : m = 0 := by omega
    obtain rfl : k = 0 := by omega
    have hall : ∀ i ∈ al, listed.getD i false = true := fun i hi => by
      have h1 := List.countP_eq_zero.1 hm.symm i hi
      simpa using h1
    rw [marked_same (fun i hi _ => hall i hi)] at H
    rw [Nat.zero_add, withNew_congr (D' := fun _ => true) (ν' := ν) al a hall (fun _ _ _ => rfl)]
    exact hL listed a ν w H ⟨hw.below, fun i hi _ => hw.block i hi (hall i hi), fun i hi _ => hw.new i hi (hall i hi), fun i hi j hj _ _ => hw.apart i hi j hj (hall i hi) (hall j hj)⟩
  | succ s ih =>
    intro m k listed a ν w hs hm inv hw H
    -- some operation of the head is not listed, and some is ready
    have hhead : ∃ i, i < n ∧ listed.getD i true = false ∧ Region.ready md ops listed ≠ [] := by
      by_cases hm0 : m = 0
      · have hall : ∀ i ∈ al, listed.getD i false = true := fun i hi => by
          have h1 := List.countP_eq_zero.1 (hm0 ▸ hm).symm i hi
          simpa using h1
        obtain ⟨k', rfl⟩ : ∃ k', k = k' + 1 := ⟨k - 1, by omega⟩
        rw [marked_same (fun i hi _ => hall i hi)] at H
        obtain ⟨h1, h2⟩ := H
        obtain ⟨i, hi⟩ := List.exists_mem_of_ne_nil _ h1
        exact ⟨i, (h2 i hi).1, (mem_ready.1 hi).1, h1⟩
      · have hpos : 0 < al.countP (fun i => !listed.getD i false) := by omega
        obtain ⟨i, hi, hun⟩ := List.countP_pos_iff.1 hpos
        obtain ⟨hin, o, ho, ha, -⟩ := T.fresh i hi
        have hun' : listed.getD i false = false := by simpa using hun
        have hun2 : listed.getD i true = false := getD_in (by rw [inv.size]; have := T.lt; omega) hun'
        have hr : i ∈ Region.ready md ops listed := mem_ready.2 ⟨hun2, o, ho, fun e he => by rw [ha] at he; simp at he⟩
        exact ⟨i, hin, hun2, fun h => (by rw [h] at hr; cases hr)⟩
    obtain ⟨i0, hi0, hu0, hne⟩ := hhead
    have e : s + 1 + g = (s + g) + 1 := by omega
    rw [e]
    refine ⟨fun h0 => absurd h0 hne, fun j hj => ?_⟩
    have hjn : j < n := by
      rcases Nat.lt_or_ge j n with h | h
      · exact h
      · exact absurd hj (T.waits listed inv i0 hi0 hu0 j h)
    obtain ⟨hjun, oj, hoj, -⟩ := mem_ready.1 hj
    have hjs : j < listed.size := by rw [inv.size]; exact (Array.getElem?_eq_some_iff.1 hoj).1
    unfold wpOp
    simp only [hoj]
    by_cases hja : j ∈ al
    · -- a new variable
      obtain ⟨-, o, ho, -, hg⟩ := T.fresh j hja
      obtain rfl : oj = o := Option.some.inj (hoj.symm.trans ho)
      have hwant : ∀ f, Region.wanted oj f = true := fun f => by simp [Region.wanted, hg]
      rw [if_pos (hwant _)]
      refine .inl ?_
      unfold Oper.wp
      rw [hal j hja oj hoj, Oper.upon_value]
      have hDj : listed.getD j false = false := getD_both hjun
      have hdst : dstOf ops j = oj.dst := by simp [dstOf, hoj]
      have hset : ∀ i, (listed.setIfInBounds j true).getD i false = if i = j then true else listed.getD i false := fun i => by
        by_cases e : i = j
        · subst e; rw [if_pos rfl, Array.getD_eq_getD_getElem?, Array.getElem?_setIfInBounds_self_of_lt hjs]; rfl
        · rw [if_neg e, getD_set_ne false (fun h => e h.symm)]
      have hadd := withNew_add (dst := dstOf ops) (D := fun i => listed.getD i false) (ν := ν) (j := j) (b := w.heap.size) al a T.nodup hja hDj (fun i hi hij x hx => by
        obtain ⟨hin, oi, hoi, -⟩ := T.fresh i hi
        have h1 := T.apart j hja i hin hij oj oi hoj hoi
        have h2 := (Oper.apart_spec h1).2.1
        rw [hdst]
        intro h3
        have h4 : dstOf ops i = oi.dst := by simp [dstOf, hoi]
        rw [h4] at hx
        exact h2 x h3 hx)
      rw [← hdst, ← hadd, withNew_congr (D' := fun i => (listed.setIfInBounds j true).getD i false) (ν' := fun i => if i = j then w.heap.size else ν i) al a (fun i _ => (hset i).symm) (fun _ _ _ => rfl)]
      have hcount : al.countP (fun i => !(listed.setIfInBounds j true).getD i false) + 1 = al.countP (fun i => !listed.getD i false) := by
        have hnd := T.nodup
        clear hadd H hw hm ih
        have aux : ∀ l : List Nat, l.Nodup → (j ∈ l → l.countP (fun i => !(listed.setIfInBounds j true).getD i false) + 1 = l.countP (fun i => !listed.getD i false)) ∧
            (j ∉ l → l.countP (fun i => !(listed.setIfInBounds j true).getD i false) = l.countP (fun i => !listed.getD i false)) := by
          intro l
          induction l with
          | nil => intro _; exact ⟨fun h => (by cases h), fun _ => rfl⟩
          | cons x l ihl =>
            intro hn
            rw [List.nodup_cons] at hn
            obtain ⟨i1, i2⟩ := ihl hn.2
            simp only [List.countP_cons, hset]
            simp only [hset] at i1 i2
            by_cases hx : x = j
            · subst hx
              refine ⟨fun _ => ?_, fun h => absurd (List.mem_cons_self ..) h⟩
              have h5 := i2 hn.1
              rw [h5, hDj]
              simp
            · refine ⟨fun h => ?_, fun h => ?_⟩
              · have hjl : j ∈ l := by
                  rcases List.mem_cons.1 h with h | h
                  · exact absurd h.symm hx
                  · exact h
                have h5 := i1 hjl
                simp only [if_neg hx]
                omega
              · have hjl : j ∉ l := fun h6 => h (List.mem_cons_of_mem _ h6)
                have h5 := i2 hjl
                simp only [if_neg hx]
                omega
        exact (aux al hnd).1 hja
      refine ih (m - 1) k _ a _ _ (by omega) (by omega) (inv.set hj hjn) ?_ (by rw [marked_set_in hja]; exact H)
      have h6 := hw.add j
      refine ⟨h6.below, fun i hi hD => h6.block i hi ?_, fun i hi hD => h6.new i hi ?_, fun i hi x hx h1 h2 => h6.apart i hi x hx ?_ ?_⟩
      · rw [hset] at hD; exact hD
      · rw [hset] at hD; exact hD
      · rw [hset] at h1; exact h1
      · rw [hset] at h2; exact h2
    · -- one of the others
      have hr := ready_marked hj hja
      obtain ⟨k', rfl⟩ : ∃ k', k = k' + 1 := by
        rcases Nat.eq_zero_or_pos k with h | h
        · subst h
          have h1 := hdone _ _ H j hr
          omega
        · exact ⟨k - 1, by omega⟩
      obtain ⟨-, o, v, ho, hgv, hK⟩ := H.2 j hr
      obtain rfl : oj = o := Option.some.inj (hoj.symm.trans ho)
      have hlook : ∀ i ∈ al, ∀ x, dstOf ops i = some x → x ∉ oj.looksAt ops := fun i hi x hx => by
        obtain ⟨hin, oi, hoi, -⟩ := T.fresh i hi
        have h1 := T.apart i hi j hjn (fun h : j = i => hja (h ▸ hi)) oi oj hoi hoj
        have h4 : dstOf ops i = oi.dst := by simp [dstOf, hoi]
        rw [h4] at hx
        exact (Oper.apart_spec h1).1 x hx
      have hdd : ∀ i ∈ al, ∀ x, dstOf ops i = some x → oj.dst ≠ some x := fun i hi x hx => by
        obtain ⟨hin, oi, hoi, -⟩ := T.fresh i hi
        have h1 := T.apart i hi j hjn (fun h : j = i => hja (h ▸ hi)) oi oj hoi hoj
        have h4 : dstOf ops i = oi.dst := by simp [dstOf, hoi]
        rw [h4] at hx
        exact (Oper.apart_spec h1).2.1 x hx
      obtain ⟨l1, l2⟩ := withNew_look (ops := ops) (dst := dstOf ops) (D := fun i => listed.getD i false) (ν := ν) (o := oj) (fun cs b => T.sel j oj cs b hoj) al a hlook
      have hset : ∀ i ∈ al, listed.getD i false = (listed.setIfInBounds j true).getD i false := fun i hi => by
        rw [getD_set_ne false (fun h : j = i => hja (h ▸ hi))]
      have next : ∀ w', HasNew w0 obj al (fun i => listed.getD i false) ν w' → wpAny P md ops Q (s + g) (listed.setIfInBounds j true) ((withNew (dstOf ops) (fun i => listed.getD i false) ν al a).put oj.dst v) w' := by
        intro w' hw'
        rw [← withNew_put v al a hdd, withNew_congr (D' := fun i => (listed.setIfInBounds j true).getD i false) (ν' := ν) al _ hset (fun _ _ _ => rfl)]
        refine ih m k' _ _ ν w' (by omega) ?_ (inv.set hj hjn) ?_ ?_
        · rw [hm]
          apply List.countP_congr
          intro i hi
          rw [hset i hi]
        · exact ⟨hw'.below, fun i hi hD => hw'.block i hi ((hset i hi).trans hD), fun i hi hD => hw'.new i hi ((hset i hi).trans hD), fun i hi x hx h1 h2 => hw'.apart i hi x hx ((hset i hi).trans h1) ((hset x hx).trans h2)⟩
        · rw [marked_set]; exact hK
      rw [l2]
      rcases hgv with ⟨hwt, hc⟩ | ⟨hwt, rfl⟩
      · rw [if_pos hwt]
        refine .inl ?_
        obtain ⟨x, hx⟩ := exists_later hw.below
        have h7 := hc x
        rw [← hx] at h7
        unfold Oper.wp
        rw [l1]
        generalize (execOp a.eval oj).run P w = r at h7
        cases r with
        | ok nx w' =>
          cases nx <;> simp only [calmUpon] at h7 <;> simp only [Oper.upon]
          case value u => obtain ⟨rfl, rfl⟩ := h7; exact next _ hw
          case skip => obtain ⟨rfl, rfl⟩ := h7; exact next _ hw
          case enter f args =>
            obtain ⟨rfl, hp⟩ := h7
            exact hp.here.mono fun e w'' ⟨he, hb⟩ => by subst he; exact next _ (hw.on hb)
        | halt x w' => simp only [calmUpon] at h7
      · rw [if_neg (by rw [hwt]; exact Bool.false_ne_true)]
        exact next _ hw

theorem newTail_of {idx al : List Nat} {n : Nat} (hB : newTailB md ops idx al n = true) :
    NewTail md ops al n ∧ Region.noSelect ops = true ∧ al.length + idx.length = n ∧ lexPicks md ops n (ops.size - n) idx (marked al (Array.replicate ops.size false)) = true := by
  simp only [newTailB, Bool.and_eq_true, decide_eq_true_eq] at hB
  obtain ⟨⟨⟨⟨⟨⟨⟨⟨h1, h2⟩, h3⟩, h4⟩, h5⟩, h6⟩, h7⟩, h8⟩, h9⟩ := hB
  refine ⟨⟨Region.noSelect_spec h1, h2, fun listed inv i hi hun t ht => tail_waits h3 h4 h2 inv _ i rfl hi hun t ht, fun i hi => ?_, h6, fun i hi j hj hji oi oj hoi hoj => ?_⟩, h1, h7, h9⟩
  · have h := List.all_eq_true.1 h5 i hi
    simp only [Bool.and_eq_true, decide_eq_true_eq] at h
    refine ⟨h.1, ?_⟩
    cases ho : ops[i]? with
    | none => rw [ho] at h; exact absurd h.2 Bool.false_ne_true
    | some o =>
      rw [ho] at h
      have h' := h.2
      simp only [Bool.and_eq_true] at h'
      exact ⟨o, rfl, by simpa using h'.1, by simpa using h'.2⟩
  · have h := List.all_eq_true.1 (List.all_eq_true.1 h8 i hi) j (List.mem_range.2 hj)
    rw [hoi, hoj] at h
    simpa [hji] using h

theorem marked_inv {al : List Nat} {n : Nat} (T : NewTail md ops al n) : HeadInv md ops n (marked al (Array.replicate ops.size false)) := by
  refine ⟨by rw [marked_size]; simp, fun j oj hj hl e he hb => ?_, fun t ht ht' => ?_⟩
  · rw [marked_get] at hl
    by_cases h : j ∈ al ∧ j < (Array.replicate ops.size false).size
    · obtain ⟨-, o, ho, ha, -⟩ := T.fresh j h.1
      obtain rfl : oj = o := Option.some.inj (hj.symm.trans ho)
      rw [ha] at he; simp at he
    · rw [if_neg h, getD_replicate_false] at hl; cases hl
  · rw [marked_get, if_neg]
    · exact getD_in (by simpa using ht') (getD_replicate_false _ _)
    · intro h
      have := (T.fresh t h.1).1
      omega

/-- A REGION THAT DRAWS, with new variables 'al' among its first 'n' operations: the others are walked in the text's order; behind them the tail, in whatever world has the new variables. -/
theorem region_new {id : Nat} {Q : Exit → Act → World → Prop} {a : Act} {w : World} {l : List Oper} (n : Nat) (idx al : List Nat) (obj : Nat → Obj)
    (hm : P.follows .mixedOrders = true) (hB : newTailB .any l.toArray idx al n = true)
    (hal : ∀ i ∈ al, ∀ o, l[i]? = some o → ∀ ρ W, (execOp ρ o).run P W = .ok (.value (newPtr W.heap.size)) (W.alloc (obj i)))
    (h : wpCalm P l.toArray w (fun a' => ∀ ν W, HasNew w obj al (fun _ => true) ν W → wpList P l.toArray Q (l.drop n) (withNew (dstOf l.toArray) (fun _ => true) ν al a') W) (picks l idx) a) :
    (Code.region id l.toArray true).wp P Q a w := by
  obtain ⟨T, hsel, hlen, hlex⟩ := newTail_of hB
  have hn' : n < l.length := by simpa using T.lt
  have hdl : (l.drop n).length = l.toArray.size - n := by simp
  have H := anyCalm_lex (P := P) (md := .any) (w0 := w) (g := l.toArray.size - n) hsel (fun i hi listed inv hun j hj => by
      rcases Nat.lt_or_ge j n with h | h
      · exact h
      · exact absurd hj (T.waits listed inv i hi hun j h)) idx (marked al (Array.replicate l.toArray.size false)) a (marked_inv T) hlex (by simpa using h)
  refine wp_region_any hm ?_
  have inv0 : HeadInv .any l.toArray n (Array.replicate l.toArray.size false) :=
    ⟨by simp, fun j oj _ hl => (by rw [getD_replicate_false] at hl; cases hl), fun t _ ht => getD_in (by simpa using ht) (getD_replicate_false _ _)⟩
  have hunl : ∀ i : Nat, (Array.replicate l.toArray.size false).getD i false = false := fun i => getD_replicate_false _ _
  have hcnt : al.length = al.countP (fun i => !(Array.replicate l.toArray.size false).getD i false) := by
    symm
    rw [List.countP_eq_length]
    intro i _
    rw [hunl]; rfl
  have hnew : HasNew w obj al (fun i => (Array.replicate l.toArray.size false).getD i false) (fun _ => 0) w.drew :=
    ⟨(Below.refl _ _).drew, fun i _ hD => (by rw [hunl] at hD; cases hD), fun i _ hD => (by rw [hunl] at hD; cases hD), fun i _ j _ hD _ _ => (by rw [hunl] at hD; cases hD)⟩
  have h6 := wpAny_mix (P := P) (md := .any) (Q := Q) (g := l.toArray.size - n) (obj := obj) T (fun i hi o ho => hal i hi o (by simpa using ho)) (fun listed' a' hL => seqB_ready hL.1)
    (fun listed' a' ν w' hL hw' => by
      have h7 := wpAny_of_seq (md := .any) (Q' := Q) (l.drop n) n listed' _ w' (fun j => by simp [List.getElem?_drop]) (by rw [hdl]; exact hL.1) (hL.2 ν w' hw')
      rwa [hdl] at h7)
    (al.length + idx.length) al.length idx.length _ a (fun _ => 0) w.drew rfl hcnt inv0 hnew H
  have e1 : withNew (dstOf l.toArray) (fun i => (Array.replicate l.toArray.size false).getD i false) (fun _ => 0) al a = a := by
    have aux : ∀ (al : List Nat) (b : Act), withNew (dstOf l.toArray) (fun i => (Array.replicate l.toArray.size false).getD i false) (fun _ => 0) al b = b := by
      intro al
      induction al with
      | nil => intro b; rfl
      | cons i al ih => intro b; unfold withNew; rw [hunl]; exact ih b
    exact aux al a
  rw [e1] at h6
  have e2 : al.length + idx.length + (l.toArray.size - n) = l.toArray.size := by have := T.lt; omega
  rw [e2] at h6
  exact h6
end
/-- A world under a name of its own: what is known of it, and no more. -/
theorem world_gen {Q : World → Prop} {S : World} (F : World → Prop) (hF : F S) (h : ∀ wr, F wr → Q wr) : Q S := h S hF
section
variable {P : Program}
theorem later_drew_on (w x : World) : ∃ y, ({ later w x with drawn := (later w x).drawn + 1 } : World) = later w y :=
  exists_later ((later_below w x).trans (((Below.refl (later w x).heap.size (later w x)).drew).mono (size_later w x)))
/-- 'region_pure' in a world that stands behind others: the class is still that of the first. -/
theorem region_pure_on {id : Nat} {Q : Exit → Act → World → Prop} {a : Act} {w x : World} {l : List Oper} (hm : P.follows .mixedOrders = true) (hB : Region.lexB .any l.toArray = true)
    (h : wpQuiet P l.toArray (fun w' => ∃ y, w' = later w y) (fun a' => ∀ y, Q .normal a' (later w y)) l a) : (Code.region id l.toArray true).wp P Q a (later w x) := by
  refine wp_region_quiet (C := fun w' => ∃ y, w' = later w y) hm hB (later_drew_on w x) ?_
  have e : (fun a' => ∀ y, Q .normal a' (later w y)) = (fun a' => ∀ w', (∃ y, w' = later w y) → Q .normal a' w') := by
    funext a'; apply propext; constructor
    · rintro h _ ⟨y, rfl⟩; exact h y
    · intro h y; exact h _ ⟨y, rfl⟩
  rw [← e]
  exact h
theorem region_pure_tail_on {id : Nat} {Q : Exit → Act → World → Prop} {a : Act} {w x : World} {l : List Oper} (n : Nat) (hm : P.follows .mixedOrders = true) (hB : Region.lexTailB .any l.toArray n = true)
    (h : wpQuiet P l.toArray (fun w' => ∃ y, w' = later w y) (fun a' => ∀ y, wpList P l.toArray Q (l.drop n) a' (later w y)) (l.take n) a) : (Code.region id l.toArray true).wp P Q a (later w x) := by
  refine region_tail (C := fun w' => ∃ y, w' = later w y) n hm hB (later_drew_on w x) ?_
  have e : (fun a' => ∀ y, wpList P l.toArray Q (l.drop n) a' (later w y)) = (fun a' => ∀ w', (∃ y, w' = later w y) → wpList P l.toArray Q (l.drop n) a' w') := by
    funext a'; apply propext; constructor
    · rintro h _ ⟨y, rfl⟩; exact h y
    · intro h y; exact h _ ⟨y, rfl⟩
  rw [← e]
  exact h
end
end Go.Eng
