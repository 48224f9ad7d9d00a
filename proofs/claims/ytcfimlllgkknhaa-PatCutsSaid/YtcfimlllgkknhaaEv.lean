/-
  A walk that is computed: 'runF' runs a function of the program over plain values and blocks of its own, with what its calls hand back (and what its comparisons yield) given ahead; if it runs through and what was given fits, the call hands back what it computed and turns nothing that existed.
-/
import Derived.Test.YtcfimlllgkknhaaEvE
import Derived.Laws.CopyRow
import Derived.Laws.CopyOwn
import Derived.Deep.MidRow
set_option linter.unusedSimpArgs false
set_option linter.unusedVariables false
namespace Go.Ev
open Go.Eng Go.RowKit

/-- A value of the walk: plain, or a pointer into one of the walk's blocks, or a slice of one; 'no': nothing is known. -/
inductive SV where
  | v (x : Value)
  | p (j off : Nat)
  | s (j off len cap : Nat)
  | no

def SV.to (ν : Nat → Nat) : SV → Value
  | .v x => x
  | .p j off => .pointer (some ⟨ν j, off, none⟩)
  | .s j off len cap => .slice (some ⟨ν j, off, none⟩) len cap
  | .no => undef
def SV.lt (n : Nat) : SV → Prop
  | .v _ => True
  | .p j _ => j < n
  | .s j _ _ _ => j < n
  | .no => True
def SV.known : SV → Bool
  | .no => false
  | _ => true
/-- The slot holds it. -/
def SV.is (ν : Nat → Nat) (s : SV) (u : Value) : Prop := s.known = true → u = s.to ν

structure Blk where
  cells : List Value
  ty : TypeId
  own : Bool

/-- What is given ahead: what a call hands back; what a comparison yields. -/
structure Tm where
  tmps : List SV
  heap : List Blk

def HeapOk (ν : Nat → Nat) (heap : List Blk) (W : World) : Prop := ∀ (j : Nat) (b : Blk), heap[j]? = some b → W.heap[ν j]? = some (.cells b.cells.toArray b.ty (0, 0))

/-- The frame and the world are as the walk has them. -/
structure Rep (w0 : World) (ν : Nat → Nat) (st : Tm) (a : Act) (W : World) : Prop where
  size : a.tmps.size = st.tmps.length
  tmps : ∀ (t : Nat) (s : SV), st.tmps[t]? = some s → ∃ u, a.tmps[t]? = some u ∧ s.is ν u
  defers : a.defers = []
  below : Below w0.heap.size w0 W
  heap : HeapOk ν st.heap W
  new : ∀ (j : Nat) (b : Blk), st.heap[j]? = some b → b.own = true → w0.heap.size ≤ ν j
  inj : ∀ i j, i < st.heap.length → j < st.heap.length → ν i = ν j → i = j
  wf : ∀ s ∈ st.tmps, s.lt st.heap.length

inductive XExit where
  | normal
  | exit (id : Nat)
  | ret
  | stop (c : Code)
def XExit.to : XExit → Exit
  | .normal => .normal
  | .exit id => .exit id
  | .ret => .ret
  | .stop _ => .outgrown

def Ext (n : Nat) (ν ν' : Nat → Nat) : Prop := ∀ j, j < n → ν' j = ν j

/-- What a piece of code comes to. -/
def Leads (P : Program) (w0 : World) (c : Code) (st : Tm) (e : XExit) (st' : Tm) : Prop :=
  ∀ {ν : Nat → Nat} {a : Act} {W : World} {Q : Exit → Act → World → Prop}, Rep w0 ν st a W →
    (∀ ν' a' W', Ext st.heap.length ν ν' → Rep w0 ν' st' a' W' → Q e.to a' W') → c.wp P Q a W

inductive Item (P : Program) (w0 : World) where
  | call (f : FuncId) (args : Array Value) (v : Value) (h : PureAt P w0 f args v)
  | bin (op : BinOp) (t : TypeId) (a b v : Value) (h : ∀ x y W, (do eqGuard op t x y a b; binOp op t a b : Sem Value).run P W = .ok v W)
  | sem (s : Sem Value) (v : Value) (h : ∀ W, Below w0.heap.size w0 W → s.run P W = .ok v W)
  | conv (src dst : TypeId) (cs : List Value) (ty : TypeId) (off len cap : Nat) (v : Value)
      (h : ∀ W g, W.heap[g]? = some (.cells cs.toArray ty (0, 0)) → (convert src dst (.slice (some ⟨g, off, none⟩) len cap)).run P W = .ok v W)
  | loop (c : Code) (st : Tm) (e : XExit) (st' : Tm) (h : Leads P w0 (.loop c) st e st')
  | order (ops : Array Oper) (h : Region.lexB .any ops = true)

abbrev Items (P : Program) (w0 : World) := List (Nat × Item P w0)
inductive Req where
  | vals (xs : Array Value)
  | sem (s : Sem Value)
  | conv (src dst : TypeId) (cs : List Value) (ty : TypeId) (off len cap : Nat)
  | loop (c : Code) (st : Tm)
  | order (ops : Array Oper)
abbrev Needs := List (Req × Req)

structure St (P : Program) (w0 : World) extends Tm where
  items : Items P w0
  need : Needs

section
variable {P : Program} {w0 : World}

def pureRun {α : Type} (P : Program) : Sem α → Option α
  | .pure a => some a
  | .program k => pureRun P (k P)
  | .mark _ k => pureRun P k
  | _ => none

theorem pureRun_run {α : Type} (s : Sem α) (a : α) (W : World) (h : pureRun P s = some a) : s.run P W = .ok a W := by
  induction s with
  | pure b => simp [pureRun] at h; subst h; rfl
  | program k ih => exact ih P h
  | mark m k ih => exact ih h
  | _ => simp [pureRun] at h

def svOf (tmps : List SV) : Operand → Option SV
  | .tmp t => match tmps[t]? with
    | some .no => none
    | some s => some s
    | none => none
  | .const x => some (.v x)
  | .global _ => none
  | .func f => some (.v (.func (.func f) #[] #[]))
def plainOf (tmps : List SV) (x : Operand) : Option Value :=
  match svOf tmps x with
  | some (.v y) => some y
  | _ => none
def rhoOf (tmps : List SV) (x : Operand) : Value := (plainOf tmps x).getD undef
def noSel : Op → Bool
  | .select .. => false
  | _ => true
def allPlain (tmps : List SV) (o : Oper) : Bool := noSel o.op && o.op.operands.all (fun x => (plainOf tmps x).isSome)

theorem svOf_known {tmps : List SV} {x : Operand} {s : SV} (h : svOf tmps x = some s) : (∃ t, x = .tmp t ∧ tmps[t]? = some s ∧ s.known = true) ∨ (∃ y, s = .v y ∧ ∀ a : Act, a.eval x = y) := by
  cases x with
  | tmp t =>
    simp only [svOf] at h
    split at h
    · cases h
    · rename_i s' hs hne
      cases h
      refine .inl ⟨t, rfl, hne, ?_⟩
      cases s <;> first | rfl | exact absurd rfl hs
    · cases h
  | const x => simp only [svOf, Option.some.injEq] at h; exact .inr ⟨x, h.symm, fun _ => rfl⟩
  | global g => simp [svOf] at h
  | func f => simp only [svOf, Option.some.injEq] at h; exact .inr ⟨_, h.symm, fun _ => rfl⟩
/-- What is asked of a frame. -/
def Holds (ν : Nat → Nat) (tmps : List SV) (a : Act) : Prop := ∀ (t : Nat) (s : SV), tmps[t]? = some s → ∃ u, a.tmps[t]? = some u ∧ s.is ν u
theorem svOf_eval {ν : Nat → Nat} {tmps : List SV} {a : Act} (ht : Holds ν tmps a) {x : Operand} {s : SV} (h : svOf tmps x = some s) : a.eval x = s.to ν := by
  rcases svOf_known h with ⟨t, rfl, h1, h2⟩ | ⟨y, rfl, h1⟩
  · obtain ⟨u, hu, hs⟩ := ht t s h1
    show a.tmps.getD t undef = _
    rw [Array.getD_eq_getD_getElem?, hu]
    exact hs h2
  · exact h1 a
theorem plainOf_sv {tmps : List SV} {x : Operand} {y : Value} (h : plainOf tmps x = some y) : svOf tmps x = some (.v y) := by
  unfold plainOf at h
  split at h
  · rename_i z hz
    simp only [Option.some.injEq] at h
    rw [hz, h]
  · cases h
theorem plainOf_eval {ν : Nat → Nat} {tmps : List SV} {a : Act} (ht : Holds ν tmps a) {x : Operand} {y : Value} (h : plainOf tmps x = some y) : a.eval x = y :=
  svOf_eval ht (plainOf_sv h)

theorem allPlain_exec {ν : Nat → Nat} {tmps : List SV} {a : Act} (ht : Holds ν tmps a) {o : Oper} (h : allPlain tmps o = true) : execOp a.eval o = execOp (rhoOf tmps) o := by
  simp only [allPlain, Bool.and_eq_true] at h
  refine execOp_congr o (fun cs b e => ?_) (fun x hx => ?_)
  · rw [e] at h; exact absurd h.1 Bool.false_ne_true
  · have h2 := Array.all_eq_true_iff_forall_mem.1 h.2 x hx
    cases h3 : plainOf tmps x with
    | none => rw [h3] at h2; cases h2
    | some y =>
      rw [plainOf_eval ht h3]
      simp [rhoOf, h3]

def takeItem (k : Nat) : Items P w0 → Option (Item P w0 × Items P w0)
  | [] => none
  | (k', it) :: l => if k' == k then some (it, l) else
    match takeItem k l with
    | some (i, l') => some (i, (k', it) :: l')
    | none => none
def takeAt (dst : Option Tmp) (l : Items P w0) : Option (Item P w0 × Items P w0) :=
  match dst with
  | some k => takeItem k l
  | none => none

def isRow (P : Program) (t : TypeId) : Option Bool :=
  match P.underlying t with
  | some (.struct _) => some true
  | some (.array _ _) => some true
  | some _ => some false
  | none => none

def loadS (P : Program) (heap : List Blk) (t : TypeId) (j off : Nat) : Option Value :=
  match heap[j]?, isRow P t, P.info? t with
  | some b, some true, some i => if off + i.size ≤ b.cells.length then some (.agg ((b.cells.drop off).take i.size).toArray) else none
  | some b, some false, _ => b.cells[off]?
  | _, _, _ => none

def fieldS (P : Program) (s : TypeId) (f : Nat) : Option Nat :=
  match P.underlying s with
  | some (.struct fs) => match fs[f]? with
    | some fd => match P.info? fd.type with
      | some i => if i.size = 0 then none else some fd.offset
      | none => none
    | none => none
  | _ => none

abbrev Out (P : Program) (w0 : World) := SV × Items P w0 × Needs

/-- Any operation on plain values that leaves memory alone; a call. -/
def plainS (P : Program) (st : St P w0) (o : Oper) : Option (Out P w0) :=
  if allPlain st.tmps o then
    match pureRun P (execOp (rhoOf st.tmps) o) with
    | some (.value u) => some (.v u, st.items, st.need)
    | some (.enter f args) =>
      match takeAt o.dst st.items with
      | some (.call f' args' v _, items') => if f == f' then some (.v v, items', (.vals args, .vals args') :: st.need) else none
      | _ => none
    | _ => none
  else none

def semOf (ρ : Operand → Value) (o : Op) : Option (Sem Value) :=
  match o with
  | .binOp op t x y _ => some (do eqGuard op t x y (ρ x) (ρ y); binOp op t (ρ x) (ρ y))
  | .index t x i => some (Instr.index t (ρ x) (ρ i))
  | .indexAddr t x i => some (Instr.indexAt t (ρ x) (ρ i))
  | .slice t x lo hi mx => some (Instr.sliceAt t (ρ x) (lo.map ρ) (hi.map ρ) (mx.map ρ))
  | .load t x => some (Instr.loadAt t (ρ x))
  | .convert src dst x => some (convert src dst (ρ x))
  | .unOp op _ x => some (Op.unary op (ρ x))
  | _ => none
theorem semOf_exec {ρ : Operand → Value} {o : Oper} {s : Sem Value} (h : semOf ρ o.op = some s) : execOp ρ o = (do pure (.value (← s))) := by
  obtain ⟨dst, op, ty, pos, after, guard⟩ := o
  cases op <;> simp only [semOf, Option.some.injEq, reduceCtorEq] at h <;> (subst h; rfl)

def otherS (P : Program) (st : St P w0) (o : Oper) : Option (Out P w0) :=
  match takeAt o.dst st.items with
  | some (.sem s v _, it') => if allPlain st.tmps o then
      match semOf (rhoOf st.tmps) o.op with
      | some s' => some (.v v, it', (.sem s', .sem s) :: st.need)
      | none => none
    else none
  | _ => plainS P st o

def idxS (P : Program) (t : TypeId) (off len : Nat) (n : Int) : Option Nat :=
  match P.underlying t with
  | some (.slice e) => match P.info? e with
    | some i => if 0 ≤ n ∧ n < len then some (off + n.toNat * i.size) else none
    | none => none
  | _ => none

def calmS (P : Program) (st : St P w0) (o : Oper) : Option (Out P w0) :=
  match o.op with
  | .move x | .assign x => match svOf st.tmps x with
    | some s => some (s, st.items, st.need)
    | none => none
  | .load t x => match svOf st.tmps x with
    | some (.p j off) => match loadS P st.heap t j off with
      | some u => some (.v u, st.items, st.need)
      | none => none
    | _ => otherS P st o
  | .fieldAddr s x f => match svOf st.tmps x, fieldS P s f with
    | some (.p j off), some k => some (.p j (off + k), st.items, st.need)
    | _, _ => none
  | .indexAddr t x i => match svOf st.tmps x, plainOf st.tmps i with
    | some (.s j off len cap), some (.int _ n) => match idxS P t off len n with
      | some k => some (.p j k, st.items, st.need)
      | none => none
    | _, _ => otherS P st o
  | .convert src dst x => match svOf st.tmps x with
    | some (.s j off len cap) => match takeAt o.dst st.items, st.heap[j]? with
      | some (.conv src' dst' cs ty off' len' cap' v _, it'), some b => some (.v v, it', (.conv src dst b.cells b.ty off len cap, .conv src' dst' cs ty off' len' cap') :: st.need)
      | _, _ => none
    | _ => otherS P st o
  | .binOp op t x y _ => match takeAt o.dst st.items with
    | some (.bin op' t' a b v _, items') => match plainOf st.tmps x, plainOf st.tmps y with
      | some a', some b' => if op = op' ∧ t = t' then some (.v v, items', (.vals #[a', b'], .vals #[a, b]) :: st.need) else none
      | _, _ => none
    | _ => otherS P st o
  | _ => otherS P st o

theorem run_loadVar_blk {W : World} {g : Nat} {b : Blk} (hg : W.heap[g]? = some (.cells b.cells.toArray b.ty (0, 0))) {t : TypeId} {off : Nat} {u : Value} {heap : List Blk} {j : Nat} (hj : heap[j]? = some b)
    (h : loadS P heap t j off = some u) : (loadVar t ⟨g, off, none⟩).run P W = .ok u W := by
  unfold loadS at h
  rw [hj] at h
  cases hr : isRow P t with
  | none => rw [hr] at h; cases h
  | some r =>
    rw [hr] at h
    cases r with
    | true =>
      cases hi : P.info? t with
      | none => rw [hi] at h; cases h
      | some i =>
        rw [hi] at h
        simp only at h
        split at h
        · rename_i hle
          cases h
          have hd : ∃ d, P.underlying t = some d ∧ d.isRow = true := by
            unfold isRow at hr
            split at hr <;> first | (rename_i e; exact ⟨_, e, rfl⟩) | (simp at hr; done) | (cases hr; done)
          obtain ⟨d, hd1, hd2⟩ := hd
          refine run_loadVar_mid W g off t ((b.cells.drop off).take i.size) d (fun k v hv => ?_) hd1 hd2 ?_
          · rw [block_cell hg, List.getElem?_toArray]
            rw [List.getElem?_take] at hv
            split at hv
            · rw [List.getElem?_drop] at hv; exact hv
            · cases hv
          · rw [hi]; simp; omega
        · cases h
    | false =>
      simp only at h
      have hagg : (isAgg t).run P W = .ok false W := by
        unfold isRow at hr
        unfold isAgg
        cases hu : P.underlying t with
        | none => rw [hu] at hr; cases hr
        | some d =>
          rw [Sem.run_bind, run_underlying hu W]
          rw [hu] at hr
          cases d <;> simp_all
      have hc : W.cell? ⟨g, off, none⟩ = some u := by rw [block_cell hg, List.getElem?_toArray]; exact h
      unfold loadVar
      rw [Sem.run_bind, hagg]
      simp [hc]

theorem field_run {s : TypeId} {f k : Nat} (h : fieldS P s f = some k) (W : World) (g off : Nat) : (Instr.fieldAt s (.pointer (some ⟨g, off, none⟩)) f).run P W = .ok (.pointer (some ⟨g, off + k, none⟩)) W := by
  unfold fieldS at h
  split at h
  · rename_i fs hu
    split at h
    · rename_i fd hf
      split at h
      · rename_i i hi
        split at h
        · cases h
        · rename_i hz
          cases h
          have hadd : (⟨g, off, none⟩ : Addr).add fd.offset = ⟨g, off + fd.offset, none⟩ := Addr.add_mid g off fd.offset
          simp [Instr.fieldAt, run_underlying hu, hf, Instr.sureAddr, fieldPlace, sizeOf, typeInfo, hi, hz, hadd]
      · cases h
    · cases h
  · cases h

def Fits (nd : Needs) : Prop := ∀ r ∈ nd, r.1 = r.2

/-- What an operation that leaves memory alone comes to, in any world that the walk may stand in. -/
def Calm (P : Program) (w0 : World) (ν : Nat → Nat) (heap : List Blk) (o : Oper) (a : Act) (v : Value) : Prop :=
  ∀ W, Below w0.heap.size w0 W → HeapOk ν heap W → calmUpon P W v ((execOp a.eval o).run P W)

theorem plain_sound {ν : Nat → Nat} {st : St P w0} {o : Oper} {s : SV} {it : Items P w0} {nd : Needs} (h : plainS P st o = some (s, it, nd)) {a : Act} (ht : Holds ν st.tmps a) :
    (∃ l, nd = l ++ st.need) ∧ (∃ u, s = .v u) ∧ (Fits nd → Calm P w0 ν st.heap o a (s.to ν)) := by
  unfold plainS at h
  split at h
  · rename_i hp
    unfold Calm
    rw [allPlain_exec ht hp]
    split at h
    · rename_i u hu
      simp only [Option.some.injEq, Prod.mk.injEq] at h
      obtain ⟨rfl, rfl, rfl⟩ := h
      refine ⟨⟨[], rfl⟩, ⟨u, rfl⟩, fun _ W _ _ => ?_⟩
      rw [pureRun_run _ _ W hu]
      exact ⟨rfl, rfl⟩
    · rename_i f args hu
      split at h
      · rename_i f' args' v hv items' hk
        split at h
        · rename_i hf
          simp only [Option.some.injEq, Prod.mk.injEq] at h
          obtain ⟨rfl, rfl, rfl⟩ := h
          refine ⟨⟨[_], rfl⟩, ⟨v, rfl⟩, fun hn W hW _ => ?_⟩
          rw [pureRun_run _ _ W hu]
          have h1 := hn (.vals args, .vals args') (List.mem_cons_self ..)
          simp only [Req.vals.injEq] at h1
          have h2 : f = f' := by simpa using hf
          subst h1 h2
          exact ⟨rfl, hv.on hW⟩
        · cases h
      · cases h
    · cases h
  · cases h

theorem other_sound {ν : Nat → Nat} {st : St P w0} {o : Oper} {s : SV} {it : Items P w0} {nd : Needs} (h : otherS P st o = some (s, it, nd)) {a : Act} (ht : Holds ν st.tmps a) :
    (∃ l, nd = l ++ st.need) ∧ (∃ u, s = .v u) ∧ (Fits nd → Calm P w0 ν st.heap o a (s.to ν)) := by
  unfold otherS at h
  split at h
  · rename_i sm v hv it' hk
    split at h
    · rename_i hp
      split at h
      · rename_i s' hs
        simp only [Option.some.injEq, Prod.mk.injEq] at h
        obtain ⟨rfl, rfl, rfl⟩ := h
        refine ⟨⟨[_], rfl⟩, ⟨v, rfl⟩, fun hn W hB _ => ?_⟩
        have h1 := hn (.sem s', .sem sm) (List.mem_cons_self ..)
        simp only [Req.sem.injEq] at h1
        subst h1
        rw [allPlain_exec ht hp, semOf_exec hs, Sem.run_bind, hv W hB]
        exact ⟨rfl, rfl⟩
      · cases h
    · cases h
  · exact plain_sound h ht

theorem idx_run {t : TypeId} {off len n' : Nat} {n : Int} (h : idxS P t off len n = some n') (W : World) (g cap : Nat) (k : IntKind) :
    (Instr.indexAt t (.slice (some ⟨g, off, none⟩) len cap) (.int k n)).run P W = .ok (.pointer (some ⟨g, n', none⟩)) W := by
  unfold idxS at h
  split at h
  · rename_i e hu
    split at h
    · rename_i i hi
      split at h
      · rename_i hc
        cases h
        have hadd : (⟨g, off, none⟩ : Addr).add (n.toNat * i.size) = ⟨g, off + n.toNat * i.size, none⟩ := Addr.add_mid g off _
        simp [Instr.indexAt, asIntOf, run_underlying hu, sizeOf, typeInfo, hi, hc, hadd]
      · cases h
    · cases h
  · cases h

theorem calm_sound {ν : Nat → Nat} {st : St P w0} {o : Oper} {s : SV} {it : Items P w0} {nd : Needs} (h : calmS P st o = some (s, it, nd)) {a : Act} (ht : Holds ν st.tmps a)
    (wf : ∀ s ∈ st.tmps, s.lt st.heap.length) :
    (∃ l, nd = l ++ st.need) ∧ s.lt st.heap.length ∧ (Fits nd → Calm P w0 ν st.heap o a (s.to ν)) := by
  have hsv : ∀ {x s}, svOf st.tmps x = some s → s.lt st.heap.length := by
    intro x s hx
    rcases svOf_known hx with ⟨t, rfl, h1, h2⟩ | ⟨y, rfl, h1⟩
    · exact wf _ (List.mem_of_getElem? h1)
    · trivial
  have hother : otherS P st o = some (s, it, nd) → (∃ l, nd = l ++ st.need) ∧ s.lt st.heap.length ∧ (Fits nd → Calm P w0 ν st.heap o a (s.to ν)) := by
    intro hp
    obtain ⟨h1, ⟨u, h2⟩, h3⟩ := other_sound hp ht
    exact ⟨h1, by rw [h2]; trivial, h3⟩
  unfold calmS at h
  split at h
  case h_1 x ho =>
    split at h
    · rename_i s' hs
      simp only [Option.some.injEq, Prod.mk.injEq] at h
      obtain ⟨rfl, rfl, rfl⟩ := h
      refine ⟨⟨[], rfl⟩, hsv hs, fun _ W _ _ => ?_⟩
      unfold execOp
      simp only [ho, svOf_eval ht hs]
      exact ⟨rfl, rfl⟩
    · cases h
  case h_2 x ho =>
    split at h
    · rename_i s' hs
      simp only [Option.some.injEq, Prod.mk.injEq] at h
      obtain ⟨rfl, rfl, rfl⟩ := h
      refine ⟨⟨[], rfl⟩, hsv hs, fun _ W _ _ => ?_⟩
      unfold execOp
      simp only [ho, svOf_eval ht hs]
      exact ⟨rfl, rfl⟩
    · cases h
  case h_3 t x ho =>
    split at h
    · rename_i j off hs
      split at h
      · rename_i u hu
        simp only [Option.some.injEq, Prod.mk.injEq] at h
        obtain ⟨rfl, rfl, rfl⟩ := h
        refine ⟨⟨[], rfl⟩, trivial, fun _ W _ hW => ?_⟩
        have hb : ∃ b, st.heap[j]? = some b := by
          unfold loadS at hu
          cases hb : st.heap[j]? with
          | none => rw [hb] at hu; cases hu
          | some b => exact ⟨b, rfl⟩
        obtain ⟨b, hb⟩ := hb
        have hr := run_loadVar_blk (hW j b hb) hb hu
        unfold execOp
        simp only [ho, svOf_eval ht hs, SV.to, Instr.loadAt, Instr.sureAddr, Sem.run_bind, Sem.run_pure, Result.andThen_ok, hr]
        exact ⟨rfl, rfl⟩
      · cases h
    · exact hother h
  case h_4 sty x f ho =>
    split at h
    · rename_i j off k hs hk
      simp only [Option.some.injEq, Prod.mk.injEq] at h
      obtain ⟨rfl, rfl, rfl⟩ := h
      have hlt : (SV.p j off).lt st.heap.length := hsv hs
      refine ⟨⟨[], rfl⟩, hlt, fun _ W _ hW => ?_⟩
      unfold execOp
      simp only [ho, svOf_eval ht hs, SV.to, Sem.run_bind, Sem.run_pure, Result.andThen_ok, field_run hk]
      exact ⟨rfl, rfl⟩
    · cases h
  case h_5 t x i ho =>
    split at h
    · rename_i j off len cap k n hs hi
      split at h
      · rename_i n' hk
        simp only [Option.some.injEq, Prod.mk.injEq] at h
        obtain ⟨rfl, rfl, rfl⟩ := h
        have hlt : (SV.s j off len cap).lt st.heap.length := hsv hs
        refine ⟨⟨[], rfl⟩, hlt, fun _ W _ hW => ?_⟩
        unfold execOp
        simp only [ho, svOf_eval ht hs, plainOf_eval ht hi, SV.to, Sem.run_bind, Sem.run_pure, Result.andThen_ok, idx_run hk]
        exact ⟨rfl, rfl⟩
      · cases h
    · exact hother h
  case h_6 src dst x ho =>
    split at h
    · rename_i j off len cap hs
      split at h
      · rename_i src' dst' cs ty off' len' cap' v hv it' b hk hb
        simp only [Option.some.injEq, Prod.mk.injEq] at h
        obtain ⟨rfl, rfl, rfl⟩ := h
        refine ⟨⟨[_], rfl⟩, trivial, fun hn W _ hW => ?_⟩
        have h1 := hn (.conv src dst b.cells b.ty off len cap, .conv src' dst' cs ty off' len' cap') (List.mem_cons_self ..)
        simp only [Req.conv.injEq] at h1
        obtain ⟨rfl, rfl, h3, h4, rfl, rfl, rfl⟩ := h1
        subst h3 h4
        have h5 := hv W (ν j) (hW j b hb)
        unfold execOp
        simp only [ho, svOf_eval ht hs, SV.to, Sem.run_bind, Sem.run_pure, Result.andThen_ok, h5]
        exact ⟨rfl, rfl⟩
      · cases h
    · exact hother h
  case h_7 op t x y yt ho =>
    split at h
    · rename_i op' t' a1 b1 v hv items' hk
      split at h
      · rename_i a' b' hx hy
        split at h
        · rename_i he
          simp only [Option.some.injEq, Prod.mk.injEq] at h
          obtain ⟨rfl, rfl, rfl⟩ := h
          refine ⟨⟨[_], rfl⟩, trivial, fun hn W _ hW => ?_⟩
          obtain ⟨rfl, rfl⟩ := he
          have h1 := hn (.vals #[a', b'], .vals #[a1, b1]) (List.mem_cons_self ..)
          simp only [Req.vals.injEq, Array.mk.injEq, List.cons.injEq, and_true] at h1
          obtain ⟨rfl, rfl⟩ := h1
          have h2 := hv x y W
          unfold execOp
          simp only [ho, plainOf_eval ht hx, plainOf_eval ht hy, Sem.run_bind, Sem.run_pure, Result.andThen_ok] at h2 ⊢
          rw [h2]
          exact ⟨rfl, rfl⟩
        · cases h
      · cases h
    · exact hother h
  case h_8 => exact hother h

theorem calm_need {st : St P w0} {o : Oper} {s : SV} {it : Items P w0} {nd : Needs} (hc : calmS P st o = some (s, it, nd)) : ∃ l, nd = l ++ st.need := by
  have hother : otherS P st o = some (s, it, nd) → ∃ l, nd = l ++ st.need := by
    intro h
    unfold otherS plainS at h
    repeat' split at h
    all_goals first
      | (cases h; done)
      | (simp only [Option.some.injEq, Prod.mk.injEq] at h; obtain ⟨-, -, rfl⟩ := h; first | exact ⟨[], rfl⟩ | exact ⟨[_], rfl⟩)
  unfold calmS at hc
  repeat' split at hc
  all_goals first
    | (cases hc; done)
    | exact hother hc
    | (simp only [Option.some.injEq, Prod.mk.injEq] at hc; obtain ⟨-, -, rfl⟩ := hc; first | exact ⟨[], rfl⟩ | exact ⟨[_], rfl⟩)

/-! The steps that make or write memory. -/
def putS (tmps : List SV) (dst : Option Tmp) (s : SV) : List SV :=
  match dst with
  | some d => tmps.set d s
  | none => tmps
theorem putS_len (tmps : List SV) (dst : Option Tmp) (s : SV) : (putS tmps dst s).length = tmps.length := by cases dst <;> simp [putS]
theorem put_size (a : Act) (dst : Option Tmp) (v : Value) : (a.put dst v).tmps.size = a.tmps.size := by cases dst <;> simp [Act.put]
theorem putS_holds {ν : Nat → Nat} {tmps : List SV} {a : Act} (hz : a.tmps.size = tmps.length) (ht : Holds ν tmps a) (dst : Option Tmp) {s : SV} {v : Value} (hs : s.is ν v) : Holds ν (putS tmps dst s) (a.put dst v) := by
  cases dst with
  | none => exact ht
  | some d =>
    intro t s' h
    simp only [putS] at h
    by_cases e : d = t
    · subst e
      have hl : d < tmps.length := by
        have := (List.getElem?_eq_some_iff.1 h).1
        simpa using this
      rw [List.getElem?_set_self hl] at h
      cases h
      refine ⟨v, ?_, hs⟩
      have hd : d < a.tmps.size := by rw [hz]; exact hl
      simp only [Act.put]
      rw [Array.getElem?_setIfInBounds_self_of_lt hd]
    · rw [List.getElem?_set_ne e] at h
      obtain ⟨u, hu, h2⟩ := ht t s' h
      refine ⟨u, ?_, h2⟩
      simp only [Act.put]
      rw [Array.getElem?_setIfInBounds_ne e]
      exact hu
theorem putS_wf {tmps : List SV} {n : Nat} (wf : ∀ s ∈ tmps, s.lt n) (dst : Option Tmp) {s : SV} (hs : s.lt n) : ∀ x ∈ putS tmps dst s, x.lt n := by
  cases dst with
  | none => exact wf
  | some d =>
    intro x hx
    rcases List.mem_or_eq_of_mem_set hx with h | h
    · exact wf x h
    · subst h; exact hs
theorem SV.is_self (ν : Nat → Nat) (s : SV) : s.is ν (s.to ν) := fun _ => rfl

def zeroS (P : Program) (t : TypeId) : Option (List Value) :=
  match P.info? t with
  | some i => match i.zero with
    | some z => some z.cells.toList
    | none => none
  | none => none
theorem zero_run {t : TypeId} {cs : List Value} (h : zeroS P t = some cs) (W : World) : (Instr.alloc t true (.tuple #[])).run P W = .ok (newPtr W.heap.size) (W.alloc (.cells cs.toArray t (0, 0))) := by
  unfold zeroS at h
  split at h
  · rename_i i hi
    split at h
    · rename_i z hz
      cases h
      simp [Instr.alloc, zeroValue, typeInfo, hi, hz, newVar, newRow, newPtr]
    · cases h
  · cases h

def storeS (P : Program) (heap : List Blk) (t : TypeId) (j off : Nat) (v : Value) : Option (List Blk) :=
  match heap[j]?, P.info? t with
  | some b, some i => if v.cells.toList.length = i.size ∧ off + v.cells.toList.length ≤ b.cells.length ∧ v.cells.toList.all (·.oneCell') = true ∧ b.own = true then
      some (heap.set j { b with cells := b.cells.take off ++ v.cells.toList ++ b.cells.drop (off + v.cells.toList.length) }) else none
  | _, _ => none

/-- A row that is written out: its cells. -/
def rowS (P : Program) (t : TypeId) (len : Nat) (parts : List (Nat × Value)) : Option (List Value × TypeId) :=
  match P.underlying t with
  | some (.slice e) => match P.info? e with
    | some i => match i.zero with
      | some z => if len * i.size > 2 ^ 24 then none else if len * i.size = 0 then none else
        match Instr.fill (fun k => some (k * i.size, i.size)) ((Array.range (len * i.size)).map (z.cells[· % z.cells.size]!)) parts with
        | some cs => some (cs.toList, e)
        | none => none
      | none => none
    | none => none
  | _ => none
theorem row_run {t : TypeId} {len : Nat} {parts : Array (Nat × Value)} {cs : List Value} {e : TypeId} (h : rowS P t len parts.toList = some (cs, e)) (W : World) :
    (Instr.buildSlice t len parts).run P W = .ok (.slice (some ⟨W.heap.size, 0, none⟩) len len) (W.alloc (.cells cs.toArray e (0, 0))) := by
  unfold rowS at h
  split at h
  · rename_i e' hu
    split at h
    · rename_i i hi
      split at h
      · rename_i z hz
        split at h
        · cases h
        · rename_i h1
          split at h
          · cases h
          · rename_i h2
            split at h
            · rename_i cs' hf
              simp only [Option.some.injEq, Prod.mk.injEq] at h
              obtain ⟨rfl, rfl⟩ := h
              simp [Instr.buildSlice, run_underlying hu, sizeOf, typeInfo, hi, h1, h2, zeroValue, hz, hf, newRow]
            · cases h
      · cases h
    · cases h
  · cases h

def yieldedS (ops : Array Oper) (tmps : List SV) (j : Nat) : Option Bool :=
  match ((ops[j]?).bind (·.dst)).bind (tmps[·]?) with
  | some (.v (.bool b)) => some b
  | _ => none
/-- Whether the guard's slot is known. -/
def sureS (ops : Array Oper) (tmps : List SV) (o : Oper) : Bool :=
  match o.guard with
  | none => true
  | some (j, _) => match ((ops[j]?).bind (·.dst)).bind (tmps[·]?) with
    | some s => s.known
    | none => true
theorem wantedS_eq {ν : Nat → Nat} {tmps : List SV} {a : Act} (hz : a.tmps.size = tmps.length) (ht : Holds ν tmps a) (ops : Array Oper) {o : Oper} (h : sureS ops tmps o = true) :
    Region.wanted o (yielded ops a.tmps) = Region.wanted o (yieldedS ops tmps) := by
  unfold sureS at h
  unfold Region.wanted
  split
  · rfl
  · rename_i j w hg
    rw [hg] at h
    dsimp only at h
    congr 1
    unfold yielded yieldedS
    cases hd : (ops[j]?).bind (·.dst) with
    | none => rfl
    | some t =>
      rw [hd] at h
      simp only [Option.bind_some] at h ⊢
      cases hs : tmps[t]? with
      | none =>
        have : ¬ t < tmps.length := fun hlt => by rw [List.getElem?_eq_getElem hlt] at hs; cases hs
        have hn : a.tmps[t]? = none := Array.getElem?_eq_none (by rw [hz]; exact Nat.le_of_not_lt this)
        rw [hn]
      | some s =>
        rw [hs] at h
        obtain ⟨u, hu, h2⟩ := ht t s hs
        rw [hu, h2 h]
        cases s with
        | v x => cases x <;> rfl
        | p j off => rfl
        | s j off l c => rfl
        | no => cases h

def newS (st : St P w0) (dst : Option Tmp) (s : SV) (cs : List Value) (t : TypeId) : St P w0 :=
  { st with tmps := putS st.tmps dst s, heap := st.heap ++ [⟨cs, t, true⟩] }

def stepS (P : Program) (ops : Array Oper) (st : St P w0) (o : Oper) : Option (St P w0) :=
  if sureS ops st.tmps o then
  if Region.wanted o (yieldedS ops st.tmps) then
    match o.op with
    | .alloc t => match zeroS P t with
      | some cs => some (newS st o.dst (.p st.heap.length 0) cs t)
      | none => none
    | .box t x => match plainOf st.tmps x with
      | some v => some (newS st o.dst (.p st.heap.length 0) v.cells.toList t)
      | none => none
    | .buildSlice t len parts => if allPlain st.tmps o then
        match rowS P t len (parts.map fun (i, x) => (i, rhoOf st.tmps x)).toList with
        | some (cs, e) => some (newS st o.dst (.s st.heap.length 0 len len) cs e)
        | none => none
      else none
    | .store t a x => match svOf st.tmps a, plainOf st.tmps x with
      | some (.p j off), some v => match storeS P st.heap t j off v with
        | some h => some { st with tmps := putS st.tmps o.dst (.v undef), heap := h }
        | none => none
      | _, _ => none
    | _ => match calmS P st o with
      | some (s, it, nd) => some { st with tmps := putS st.tmps o.dst s, items := it, need := nd }
      | none => none
  else some { st with tmps := putS st.tmps o.dst (.v undef) }
  else none

theorem SV.to_ext {ν ν' : Nat → Nat} {s : SV} {n : Nat} (h : s.lt n) (e : ∀ j, j < n → ν' j = ν j) : s.to ν' = s.to ν := by
  cases s with
  | v y => rfl
  | p j off => simp only [SV.to]; rw [e j h]
  | s j off l c => simp only [SV.to]; rw [e j h]
  | no => rfl
theorem SV.lt_mono {s : SV} {n m : Nat} (h : s.lt n) (hm : n ≤ m) : s.lt m := by
  cases s with
  | v y => trivial
  | p j off => exact Nat.lt_of_lt_of_le h hm
  | s j off l c => exact Nat.lt_of_lt_of_le h hm
  | no => trivial
theorem holds_ext {ν ν' : Nat → Nat} {tmps : List SV} {a : Act} {n : Nat} (h : Holds ν tmps a) (wf : ∀ s ∈ tmps, s.lt n) (e : ∀ j, j < n → ν' j = ν j) : Holds ν' tmps a := by
  intro t s hs
  obtain ⟨u, hu, h2⟩ := h t s hs
  exact ⟨u, hu, fun hk => by rw [SV.to_ext (wf s (List.mem_of_getElem? hs)) e]; exact h2 hk⟩

theorem HeapOk.on {ν : Nat → Nat} {heap : List Blk} {W W' : World} (h : HeapOk ν heap W) (hb : Below W.heap.size W W') : HeapOk ν heap W' :=
  fun j b hj => by rw [hb.block _ (block_lt (h j b hj))]; exact h j b hj
theorem Rep.on {ν : Nat → Nat} {st : Tm} {a : Act} {W W' : World} (R : Rep w0 ν st a W) (hb : Below W.heap.size W W') : Rep w0 ν st a W' :=
  ⟨R.size, R.tmps, R.defers, R.below.trans (hb.mono R.below.size), R.heap.on hb, R.new, R.inj, R.wf⟩
theorem put_defers (a : Act) (dst : Option Tmp) (v : Value) : (a.put dst v).defers = a.defers := by cases dst <;> rfl
theorem Rep.put {ν : Nat → Nat} {st : Tm} {a : Act} {W : World} (R : Rep w0 ν st a W) (dst : Option Tmp) {s : SV} (hs : s.lt st.heap.length) :
    Rep w0 ν ⟨putS st.tmps dst s, st.heap⟩ (a.put dst (s.to ν)) W :=
  ⟨by rw [put_size, putS_len]; exact R.size, putS_holds R.size R.tmps dst (s.is_self ν), by rw [put_defers]; exact R.defers, R.below, R.heap, R.new, R.inj, putS_wf R.wf dst hs⟩

/-- A new block, known under the number behind the last. -/
theorem Rep.newBlk {ν : Nat → Nat} {st : Tm} {a : Act} {W : World} (R : Rep w0 ν st a W) (dst : Option Tmp) (s : SV) (hs : s.lt (st.heap.length + 1)) (cs : List Value) (t : TypeId) {g : Nat}
    (hg : W.heap[g]? = some (.cells cs.toArray t (0, 0))) (h0 : w0.heap.size ≤ g) (hne : ∀ j, j < st.heap.length → ν j ≠ g) {u : Value} (hu : ∀ ν' : Nat → Nat, ν' st.heap.length = g → s.to ν' = u) :
    ∃ ν', Ext st.heap.length ν ν' ∧ ν' st.heap.length = g ∧ Rep w0 ν' ⟨putS st.tmps dst s, st.heap ++ [⟨cs, t, true⟩]⟩ (a.put dst u) W := by
  let ν' : Nat → Nat := fun j => if j = st.heap.length then g else ν j
  have e : ∀ j, j < st.heap.length → ν' j = ν j := fun j hj => if_neg (by omega)
  have e2 : ν' st.heap.length = g := if_pos rfl
  have hlen : (st.heap ++ [(⟨cs, t, true⟩ : Blk)]).length = st.heap.length + 1 := by simp
  refine ⟨ν', e, e2, ?_⟩
  have hlook : ∀ (j : Nat) (b : Blk), (st.heap ++ [(⟨cs, t, true⟩ : Blk)])[j]? = some b → (j < st.heap.length ∧ st.heap[j]? = some b) ∨ (j = st.heap.length ∧ b = ⟨cs, t, true⟩) := by
    intro j b hj
    rcases Nat.lt_trichotomy j st.heap.length with h | h | h
    · rw [List.getElem?_append_left h] at hj; exact .inl ⟨h, hj⟩
    · subst h
      rw [List.getElem?_append_right (Nat.le_refl _)] at hj
      simp at hj; exact .inr ⟨rfl, hj.symm⟩
    · rw [List.getElem?_eq_none (by simp; omega)] at hj; cases hj
  refine ⟨by rw [put_size, putS_len]; exact R.size, ?_, by rw [put_defers]; exact R.defers, R.below, ?_, ?_, ?_, ?_⟩
  · rw [← hu ν' e2]
    exact putS_holds R.size (holds_ext R.tmps R.wf e) dst (s.is_self ν')
  · intro j b hj
    rcases hlook j b hj with ⟨h, h2⟩ | ⟨h, h2⟩
    · rw [e j h]; exact R.heap j b h2
    · subst h h2; rw [e2]; exact hg
  · intro j b hj ho
    rcases hlook j b hj with ⟨h, h2⟩ | ⟨h, h2⟩
    · rw [e j h]; exact R.new j b h2 ho
    · subst h h2; rw [e2]; exact h0
  · intro i j hi hj hij
    simp only [hlen] at hi hj
    by_cases h1 : i = st.heap.length
    · by_cases h2 : j = st.heap.length
      · rw [h1, h2]
      · exfalso
        subst h1
        rw [e2, e j (by omega)] at hij
        exact hne j (by omega) hij.symm
    · by_cases h2 : j = st.heap.length
      · exfalso
        subst h2
        rw [e2, e i (by omega)] at hij
        exact hne i (by omega) hij
      · rw [e i (by omega), e j (by omega)] at hij
        exact R.inj i j (by omega) (by omega) hij
  · simp only [hlen]
    exact putS_wf (fun s hs => SV.lt_mono (R.wf s hs) (Nat.le_succ _)) dst hs

theorem lt_of_heap {ν : Nat → Nat} {heap : List Blk} {W : World} (h : HeapOk ν heap W) {j : Nat} (hj : j < heap.length) : ν j < W.heap.size :=
  block_lt (h j heap[j] (by simp [hj]))

theorem calm_wp {o : Oper} {a : Act} {W : World} {v : Value} {K : Act → World → Prop} {Q : Exit → Act → World → Prop} (h : calmUpon P W v ((execOp a.eval o).run P W))
    (hK : ∀ W', Below W.heap.size W W' → K (a.put o.dst v) W') : o.wp P a W K Q := by
  unfold Oper.wp
  generalize (execOp a.eval o).run P W = r at h
  cases r with
  | ok nx w' =>
    cases nx <;> simp only [calmUpon] at h <;> simp only [Oper.upon]
    case value u => obtain ⟨rfl, rfl⟩ := h; exact hK _ (Below.refl _ _)
    case skip => obtain ⟨rfl, rfl⟩ := h; exact hK _ (Below.refl _ _)
    case enter f args =>
      obtain ⟨rfl, hp⟩ := h
      exact hp.here.mono fun e w'' ⟨he, hb⟩ => by subst he; exact hK _ hb
  | halt x w' => simp only [calmUpon] at h

theorem store_sound {ν : Nat → Nat} {st : Tm} {a : Act} {W : World} (R : Rep w0 ν st a W) {t : TypeId} {j off : Nat} {v : Value} {h' : List Blk} (h : storeS P st.heap t j off v = some h') (dst : Option Tmp) :
    ∃ W', (Instr.storeAt t (.pointer (some ⟨ν j, off, none⟩)) v).run P W = .ok () W' ∧ Rep w0 ν ⟨putS st.tmps dst (.v undef), h'⟩ (a.put dst undef) W' := by
  unfold storeS at h
  split at h
  · rename_i b i hb hi
    split at h
    · rename_i hc
      obtain ⟨c1, c2, c3, c4⟩ := hc
      cases h
      have hg := R.heap j b hb
      have hjl : j < st.heap.length := (List.getElem?_eq_some_iff.1 hb).1
      have hr := run_storeCells_at (P := P) (ν j) off b.ty v.cells.toList 0 b.cells.toArray W hg (by simpa using c2) (fun x hx => List.all_eq_true.1 c3 x hx)
      refine ⟨W.setRow (ν j) (List.take (off + 0) b.cells.toArray.toList ++ v.cells.toList ++ List.drop (off + 0 + v.cells.toList.length) b.cells.toArray.toList).toArray, ?_, ⟨?_, ?_, ?_, ?_, ?_, ?_, ?_, ?_⟩⟩
      · have hs : v.cells.size = i.size := by simpa using c1
        simp only [Instr.storeAt, Instr.sureAddr, storeVar, sizeOf, typeInfo, Sem.run_bind, Sem.run_pure, Result.andThen_ok, run_program, hi, hs, ne_eq, not_true_eq_false, if_false]
        exact hr
      · rw [put_size, putS_len]; exact R.size
      · exact putS_holds R.size R.tmps dst (s := .v undef) (fun _ => rfl)
      · rw [put_defers]; exact R.defers
      · exact below_setRow R.below (R.new j b hb c4) _
      · intro k c hk
        simp only at hk
        by_cases e : k = j
        · subst e
          rw [List.getElem?_set_self hjl] at hk
          cases hk
          have := setRow_heap W (ν k) b.cells.toArray (List.take (off + 0) b.cells.toArray.toList ++ v.cells.toList ++ List.drop (off + 0 + v.cells.toList.length) b.cells.toArray.toList).toArray b.ty (0, 0) hg
          simpa using this
        · rw [List.getElem?_set_ne (Ne.symm e)] at hk
          have hkl : k < st.heap.length := (List.getElem?_eq_some_iff.1 hk).1
          rw [setRow_other W (ν j) (ν k) _ (fun h => e (R.inj k j hkl hjl h))]
          exact R.heap k c hk
      · intro k c hk ho
        simp only at hk
        by_cases e : k = j
        · subst e; exact R.new k b hb c4
        · rw [List.getElem?_set_ne (Ne.symm e)] at hk; exact R.new k c hk ho
      · intro x y hx hy
        simp only [List.length_set] at hx hy
        exact R.inj x y hx hy
      · simp only [List.length_set]
        exact putS_wf R.wf dst trivial
    · cases h
  · cases h

theorem heap_len_new (st : St P w0) (dst : Option Tmp) (s : SV) (cs : List Value) (t : TypeId) : (newS st dst s cs t).heap.length = st.heap.length + 1 := by simp [newS]

theorem step_sound {ops : Array Oper} {st st' : St P w0} {o : Oper} (h : stepS P ops st o = some st') :
    (∃ l, st'.need = l ++ st.need) ∧ st.heap.length ≤ st'.heap.length ∧ (Fits st'.need →
      ∀ {ν : Nat → Nat} {a : Act} {W : World} {Q : Exit → Act → World → Prop} {rest : List Oper}, Rep w0 ν st.toTm a W →
        (∀ ν' a' W', Ext st.heap.length ν ν' → Rep w0 ν' st'.toTm a' W' → wpList P ops Q rest a' W') → wpList P ops Q (o :: rest) a W) := by
  unfold stepS at h
  split at h
  case isFalse => cases h
  rename_i hsure
  have wd : ∀ {ν : Nat → Nat} {a : Act} {W : World}, Rep w0 ν st.toTm a W → Region.wanted o (yielded ops a.tmps) = Region.wanted o (yieldedS ops st.tmps) := fun R => wantedS_eq R.size R.tmps ops hsure
  split at h
  · rename_i hw
    have want : ∀ {ν : Nat → Nat} {a : Act} {W : World}, Rep w0 ν st.toTm a W → Region.wanted o (yielded ops a.tmps) = true := fun R => by
      rw [wd R]; exact hw
    split at h
    case h_1 t ho =>
      split at h
      · rename_i cs hz
        cases h
        refine ⟨⟨[], rfl⟩, by rw [heap_len_new]; omega, fun hn ν a W Q rest R hK => ?_⟩
        refine wpList_step fun K hk => ?_
        rw [if_pos (want R)]
        unfold Oper.wp execOp
        simp only [ho, Sem.run_bind, zero_run hz, Result.andThen_ok, Sem.run_pure]
        have R2 : Rep w0 ν st.toTm a (W.alloc (.cells cs.toArray t (0, 0))) := R.on ((Below.refl _ _).alloc (Nat.le_refl _) _)
        obtain ⟨ν', h1, h2, h3⟩ := R2.newBlk o.dst (.p st.heap.length 0) (Nat.lt_succ_self _) cs t (g := W.heap.size) (alloc_here rfl) R.below.size (fun j hj => Nat.ne_of_lt (lt_of_heap R.heap hj))
          (u := newPtr W.heap.size) (fun ν' e => by simp only [SV.to, newPtr, e])
        exact hk _ _ (hK ν' _ _ h1 h3)
      · cases h
    case h_2 t x ho =>
      split at h
      · rename_i v hv
        cases h
        refine ⟨⟨[], rfl⟩, by rw [heap_len_new]; omega, fun hn ν a W Q rest R hK => ?_⟩
        refine wpList_step fun K hk => ?_
        rw [if_pos (want R)]
        unfold Oper.wp execOp
        simp only [ho, plainOf_eval R.tmps hv]
        have hrun : (Instr.box t v).run P W = .ok (newPtr W.heap.size) (W.alloc (.cells v.cells.toList.toArray t (0, 0))) := by
          simp [Instr.box, newVar, newRow, newPtr]
        simp only [Sem.run_bind, hrun, Result.andThen_ok, Sem.run_pure]
        have R2 : Rep w0 ν st.toTm a (W.alloc (.cells v.cells.toList.toArray t (0, 0))) := R.on ((Below.refl _ _).alloc (Nat.le_refl _) _)
        obtain ⟨ν', h1, h2, h3⟩ := R2.newBlk o.dst (.p st.heap.length 0) (Nat.lt_succ_self _) v.cells.toList t (g := W.heap.size) (alloc_here rfl) R.below.size (fun j hj => Nat.ne_of_lt (lt_of_heap R.heap hj))
          (u := newPtr W.heap.size) (fun ν' e => by simp only [SV.to, newPtr, e])
        exact hk _ _ (hK ν' _ _ h1 h3)
      · cases h
    case h_3 t len parts ho =>
      split at h
      · rename_i hp
        split at h
        · rename_i cs e hr
          cases h
          refine ⟨⟨[], rfl⟩, by rw [heap_len_new]; omega, fun hn ν a W Q rest R hK => ?_⟩
          refine wpList_step fun K hk => ?_
          rw [if_pos (want R)]
          unfold Oper.wp
          rw [allPlain_exec R.tmps hp]
          unfold execOp
          simp only [ho, Sem.run_bind, row_run hr, Result.andThen_ok, Sem.run_pure]
          have R2 : Rep w0 ν st.toTm a (W.alloc (.cells cs.toArray e (0, 0))) := R.on ((Below.refl _ _).alloc (Nat.le_refl _) _)
          obtain ⟨ν', h1, h2, h3⟩ := R2.newBlk o.dst (.s st.heap.length 0 len len) (Nat.lt_succ_self _) cs e (g := W.heap.size) (alloc_here rfl) R.below.size (fun j hj => Nat.ne_of_lt (lt_of_heap R.heap hj))
            (u := .slice (some ⟨W.heap.size, 0, none⟩) len len) (fun ν' e => by simp only [SV.to, e])
          exact hk _ _ (hK ν' _ _ h1 h3)
        · cases h
      · cases h
    case h_4 t x y ho =>
      split at h
      · rename_i j off v hx hy
        split at h
        · rename_i hp hs
          cases h
          have hlen : hp.length = st.heap.length := by
            unfold storeS at hs
            split at hs
            · split at hs
              · cases hs; simp
              · cases hs
            · cases hs
          refine ⟨⟨[], rfl⟩, by simp only [hlen]; omega, fun hn ν a W Q rest R hK => ?_⟩
          refine wpList_step fun K hk => ?_
          rw [if_pos (want R)]
          obtain ⟨W', h1, h2⟩ := store_sound R hs o.dst
          unfold Oper.wp execOp
          simp only [ho, svOf_eval R.tmps hx, plainOf_eval R.tmps hy, SV.to, Sem.run_bind, h1, Result.andThen_ok, Sem.run_pure]
          exact hk _ _ (hK ν _ _ (fun _ _ => rfl) h2)
        · cases h
      · cases h
    case h_5 =>
      split at h
      · rename_i s it nd hc
        cases h
        refine ⟨calm_need hc, Nat.le_refl _, fun hn ν a W Q rest R hK => ?_⟩
        refine wpList_step fun K hk => ?_
        rw [if_pos (want R)]
        obtain ⟨-, hlt, hcalm⟩ := calm_sound hc R.tmps R.wf
        exact calm_wp (hcalm hn W R.below R.heap) fun W' hb => hk _ _ (hK ν _ _ (fun _ _ => rfl) ((R.on hb).put o.dst hlt))
      · cases h
  · rename_i hw
    cases h
    refine ⟨⟨[], rfl⟩, Nat.le_refl _, fun hn ν a W Q rest R hK => ?_⟩
    refine wpList_step fun K hk => ?_
    rw [if_neg (by rw [wd R]; exact hw)]
    exact hk _ _ (hK ν _ _ (fun _ _ => rfl) (R.put o.dst (s := .v undef) trivial))

/-! Lists of operations. -/
def runL (P : Program) (ops : Array Oper) : List Oper → St P w0 → Option (St P w0)
  | [], st => some st
  | o :: l, st => match stepS P ops st o with
    | some st' => runL P ops l st'
    | none => none

theorem Ext.trans {n n' : Nat} {ν ν' ν'' : Nat → Nat} (h : Ext n ν ν') (hl : n ≤ n') (h' : Ext n' ν' ν'') : Ext n ν ν'' :=
  fun j hj => (h' j (Nat.lt_of_lt_of_le hj hl)).trans (h j hj)

theorem needs_of {nd nd' : Needs} (h : ∃ l, nd' = l ++ nd) (hn : Fits nd') : Fits nd := by
  obtain ⟨l, rfl⟩ := h
  exact fun r hr => hn r (List.mem_append_right _ hr)
theorem needs_trans {a b c : Needs} (h : ∃ l, b = l ++ a) (k : ∃ l, c = l ++ b) : ∃ l, c = l ++ a := by
  obtain ⟨l, rfl⟩ := h
  obtain ⟨m, rfl⟩ := k
  exact ⟨m ++ l, by simp⟩

theorem run_sound {ops : Array Oper} : ∀ (l : List Oper) {st st' : St P w0}, runL P ops l st = some st' →
    (∃ l, st'.need = l ++ st.need) ∧ st.heap.length ≤ st'.heap.length ∧ (Fits st'.need →
      ∀ {ν : Nat → Nat} {a : Act} {W : World} {Q : Exit → Act → World → Prop}, Rep w0 ν st.toTm a W →
        (∀ ν' a' W', Ext st.heap.length ν ν' → Rep w0 ν' st'.toTm a' W' → Q .normal a' W') → wpList P ops Q l a W)
  | [], st, st', h => by
    cases h
    exact ⟨⟨[], rfl⟩, Nat.le_refl _, fun hn ν a W Q R hK => wpList_nil (hK ν a W (fun _ _ => rfl) R)⟩
  | o :: l, st, st', h => by
    unfold runL at h
    split at h
    · rename_i st1 h1
      obtain ⟨n1, e1, s1⟩ := step_sound h1
      obtain ⟨n2, e2, s2⟩ := run_sound l h
      refine ⟨needs_trans n1 n2, Nat.le_trans e1 e2, fun hn ν a W Q R hK => ?_⟩
      exact s1 (needs_of n2 hn) R fun ν1 a1 W1 x1 R1 => s2 hn R1 fun ν2 a2 W2 x2 R2 => hK ν2 a2 W2 (x1.trans e1 x2) R2
    · cases h

/-- Operations that leave memory as it is, in the text's order. -/
def calmL (P : Program) (ops : Array Oper) : List Oper → St P w0 → Option (St P w0)
  | [], st => some st
  | o :: l, st =>
    if sureS ops st.tmps o then
    if Region.wanted o (yieldedS ops st.tmps) then
      match calmS P st o with
      | some (s, it, nd) => calmL P ops l { st with tmps := putS st.tmps o.dst s, items := it, need := nd }
      | none => none
    else calmL P ops l { st with tmps := putS st.tmps o.dst (.v undef) }
    else none

theorem calmL_sound {ops : Array Oper} : ∀ (l : List Oper) {st st' : St P w0}, calmL P ops l st = some st' →
    (∃ l, st'.need = l ++ st.need) ∧ st'.heap = st.heap ∧ (Fits st'.need →
      ∀ {ν : Nat → Nat} {a : Act} {W : World} {Q : Act → Prop}, Rep w0 ν st.toTm a W → (∀ a', Rep w0 ν st'.toTm a' W → Q a') → wpCalm P ops W Q l a)
  | [], st, st', h => by
    cases h
    exact ⟨⟨[], rfl⟩, rfl, fun hn ν a W Q R hK => wpCalm_nil (hK a R)⟩
  | o :: l, st, st', h => by
    unfold calmL at h
    split at h
    case isFalse => cases h
    rename_i hsure
    split at h
    · rename_i hw
      split at h
      · rename_i s it nd hc
        obtain ⟨n2, e2, s2⟩ := calmL_sound l h
        refine ⟨needs_trans (calm_need hc) n2, e2, fun hn ν a W Q R hK => ?_⟩
        obtain ⟨-, hlt, hcalm⟩ := calm_sound hc R.tmps R.wf
        unfold wpCalm
        rw [if_pos (by rw [wantedS_eq R.size R.tmps ops hsure]; exact hw)]
        exact ⟨s.to ν, fun x => hcalm (needs_of n2 hn) _ (R.below.trans ((later_below W x).mono R.below.size)) (R.heap.on (later_below W x)), s2 hn (R.put o.dst hlt) hK⟩
      · cases h
    · rename_i hw
      obtain ⟨n2, e2, s2⟩ := calmL_sound l h
      refine ⟨n2, e2, fun hn ν a W Q R hK => ?_⟩
      unfold wpCalm
      rw [if_neg (by rw [wantedS_eq R.size R.tmps ops hsure]; exact hw)]
      exact s2 hn (R.put o.dst (s := .v undef) trivial) hK

theorem calm_quiet {ops : Array Oper} {W : World} {Q : Act → Prop} : ∀ (l : List Oper) {a : Act}, wpCalm P ops W Q l a → wpQuiet P ops (fun w' => ∃ x, w' = later W x) Q l a
  | [], a, h => h
  | o :: l, a, h => by
    unfold wpCalm at h
    unfold wpQuiet
    split
    · rename_i hw
      rw [if_pos hw] at h
      obtain ⟨v, h1, h2⟩ := h
      refine ⟨v, ?_, calm_quiet l h2⟩
      rintro w' ⟨x, rfl⟩
      have h3 := h1 x
      unfold Oper.quietAt
      generalize (execOp a.eval o).run P (later W x) = r at h3
      cases r with
      | ok nx w' =>
        cases nx <;> simp only [calmUpon] at h3 <;> simp only [Oper.quietUpon]
        case value u => exact h3
        case skip => exact h3
        case enter f args =>
          obtain ⟨rfl, hp⟩ := h3
          refine ⟨rfl, hp.here.mono fun e w'' ⟨he, hb⟩ => ⟨he, ?_⟩⟩
          exact exists_later ((later_below W x).trans (hb.mono (size_later W x)))
      | halt x w' => simp only [calmUpon] at h3
    · rename_i hw
      rw [if_neg hw] at h
      exact calm_quiet l h

/-! New variables of a region that draws. -/
def objOf (P : Program) (l : List Oper) (i : Nat) : Obj :=
  match l[i]? with
  | some o => match o.op with
    | .alloc t => .cells ((zeroS P t).getD []).toArray t (0, 0)
    | _ => .cells #[] 0 (0, 0)
  | none => .cells #[] 0 (0, 0)
def addNew (P : Program) (l : List Oper) : List Nat → St P w0 → Option (St P w0)
  | [], st => some st
  | i :: al, st => match l[i]? with
    | some o => match o.op with
      | .alloc t => match zeroS P t with
        | some cs => addNew P l al (newS st o.dst (.p st.heap.length 0) cs t)
        | none => none
      | _ => none
    | none => none

theorem addNew_keeps {l : List Oper} : ∀ (al : List Nat) {st st' : St P w0}, addNew P l al st = some st' → st'.need = st.need ∧ st.heap.length ≤ st'.heap.length ∧
    (∀ i ∈ al, ∀ o, l[i]? = some o → ∀ ρ W, (execOp ρ o).run P W = .ok (.value (newPtr W.heap.size)) (W.alloc (objOf P l i)))
  | [], st, st', h => by cases h; exact ⟨rfl, Nat.le_refl _, fun i hi => (by cases hi)⟩
  | i :: al, st, st', h => by
    unfold addNew at h
    split at h
    · rename_i o ho
      split at h
      · rename_i t hop
        split at h
        · rename_i cs hz
          obtain ⟨h1, h2, h3⟩ := addNew_keeps al h
          refine ⟨h1, by rw [heap_len_new] at h2; omega, fun k hk o' ho' ρ W => ?_⟩
          rcases List.mem_cons.1 hk with rfl | hk
          · rw [ho] at ho'; cases ho'
            unfold execOp objOf
            simp only [ho, hop, Sem.run_bind, zero_run hz, Result.andThen_ok, Sem.run_pure, hz, Option.getD_some]
          · exact h3 k hk o' ho' ρ W
        · cases h
      · cases h
    · cases h

theorem addNew_sound {l : List Oper} {νr : Nat → Nat} {W : World} : ∀ (al : List Nat) {st st' : St P w0} {ν : Nat → Nat} {a : Act}, addNew P l al st = some st' → Rep w0 ν st.toTm a W →
    (∀ i ∈ al, W.heap[νr i]? = some (objOf P l i)) → (∀ i ∈ al, w0.heap.size ≤ νr i) → (∀ i ∈ al, ∀ j, j < st.heap.length → ν j ≠ νr i) → al.Nodup → (∀ i ∈ al, ∀ j ∈ al, i ≠ j → νr i ≠ νr j) →
    ∃ ν', Ext st.heap.length ν ν' ∧ Rep w0 ν' st'.toTm (withNew (dstOf l.toArray) (fun _ => true) νr al a) W
  | [], st, st', ν, a, h, R, _, _, _, _, _ => by cases h; exact ⟨ν, fun _ _ => rfl, R⟩
  | i :: al, st, st', ν, a, h, R, hb, hw, hne, hnd, hap => by
    unfold addNew at h
    split at h
    · rename_i o ho
      split at h
      · rename_i t hop
        split at h
        · rename_i cs hz
          have hobj : objOf P l i = .cells cs.toArray t (0, 0) := by
            unfold objOf
            simp only [ho, hop, hz, Option.getD_some]
          have hg := hb i (List.mem_cons_self ..)
          rw [hobj] at hg
          obtain ⟨ν1, x1, y1, R1⟩ := R.newBlk o.dst (.p st.heap.length 0) (Nat.lt_succ_self _) cs t hg (hw i (List.mem_cons_self ..)) (fun j hj => hne i (List.mem_cons_self ..) j hj)
            (u := newPtr (νr i)) (fun ν' e => by simp only [SV.to, newPtr, e])
          rw [List.nodup_cons] at hnd
          have hdst : dstOf l.toArray i = o.dst := by simp [dstOf, ho]
          obtain ⟨ν2, x2, R2⟩ := addNew_sound (νr := νr) al h R1 (fun k hk => hb k (List.mem_cons_of_mem _ hk)) (fun k hk => hw k (List.mem_cons_of_mem _ hk)) (fun k hk j hj => by
            rw [heap_len_new] at hj
            by_cases e : j = st.heap.length
            · subst e; rw [y1]
              exact hap i (List.mem_cons_self ..) k (List.mem_cons_of_mem _ hk) (fun e => hnd.1 (e ▸ hk))
            · rw [x1 j (by omega)]; exact hne k (List.mem_cons_of_mem _ hk) j (by omega)) hnd.2
            (fun k hk j hj => hap k (List.mem_cons_of_mem _ hk) j (List.mem_cons_of_mem _ hj))
          refine ⟨ν2, fun j hj => ?_, ?_⟩
          · rw [x2 j (by rw [heap_len_new]; omega)]; exact x1 j hj
          · unfold withNew
            simp only [if_true]
            rw [hdst]
            exact R2
        · cases h
      · cases h
    · cases h

def isAlloc (o : Oper) : Bool := match o.op with
  | .alloc _ => true
  | _ => false
def isMem (o : Oper) : Bool := match o.op with
  | .alloc _ | .box .. | .store .. | .buildSlice .. => true
  | _ => false
def isStore (o : Oper) : Bool := match o.op with
  | .store .. => true
  | _ => false
/-- How many operations stand ahead of the stores at the end. -/
def headLen (l : List Oper) : Nat := l.length - (l.reverse.takeWhile isStore).length
def whichB (p : Oper → Bool) : Nat → List Oper → List Nat
  | _, [] => []
  | i, o :: l => if p o then i :: whichB p (i + 1) l else whichB p (i + 1) l

def orderKey : Nat := 1000001
def isRowOp (o : Oper) : Bool := match o.op with
  | .buildSlice .. => true
  | _ => false
/-- The operations that stand behind a row that is written out. -/
def lateOf : List Oper → Nat → List Nat → List Nat
  | [], _, acc => acc
  | o :: l, i, acc => lateOf l (i + 1) (if isRowOp o || o.after.any (fun e => acc.contains e.on) then acc ++ [i] else acc)
def orderOf (l : List Oper) : List Nat := (List.range l.length).filter (fun i => !(lateOf l 0 []).contains i) ++ lateOf l 0 []
def drawRowS (P : Program) (l l' : List Oper) (ord : List Nat) (st : St P w0) : Option (St P w0) :=
  let n := l.length - (lateOf l 0 []).length
  let al := whichB isAlloc 0 (l'.take n)
  let idx := whichB (fun o => !isAlloc o) 0 (l'.take n)
  if renumB l.toArray ord && newTailB .any l'.toArray idx al n then
    match calmL P l'.toArray (picks l' idx) st with
    | some st1 => match addNew P l' al st1 with
      | some st2 => runL P l'.toArray (l'.drop n) st2
      | none => none
    | none => none
  else none
/-- A move that waits for nothing, behind a row that is written out: it is taken ahead of the row. -/
def freeOf (l : List Oper) : Option (Nat × Nat) :=
  match whichB isRowOp 0 l with
  | j :: _ => match (whichB isFreeMove 0 l).filter (fun i => decide (j < i)) with
    | i :: _ => some (i, j)
    | [] => none
  | [] => none
def drawS (P : Program) (l : List Oper) (st : St P w0) : Option (St P w0) :=
  if l.any isRowOp then
    match freeOf l with
    | some (i, j) => if freeB l.toArray i j then drawRowS P (edged l.toArray i j).toList (permOps (edged l.toArray i j).toList.toArray (orderOf (edged l.toArray i j).toList)).toList (orderOf (edged l.toArray i j).toList) st else none
    | none => drawRowS P l (permOps l.toArray (orderOf l)).toList (orderOf l) st
  else if l.any isMem then
    let n := headLen l
    let al := whichB isAlloc 0 (l.take n)
    let idx := whichB (fun o => !isAlloc o) 0 (l.take n)
    if newTailB .any l.toArray idx al n then
      match calmL P l.toArray (picks l idx) st with
      | some st1 => match addNew P l al st1 with
        | some st2 => runL P l.toArray (l.drop n) st2
        | none => none
      | none => none
    else none
  else match takeItem orderKey st.items with
    | some (.order ops _, it') => calmL P l.toArray l { st with items := it', need := (.order l.toArray, .order ops) :: st.need }
    | _ => if Region.lexB .any l.toArray then calmL P l.toArray l st else none

theorem drawRow_sound {l : List Oper} {st st' : St P w0} (h : drawRowS P l (permOps l.toArray (orderOf l)).toList (orderOf l) st = some st') :
    (∃ l, st'.need = l ++ st.need) ∧ st.heap.length ≤ st'.heap.length ∧ (Fits st'.need →
      ∀ {ν : Nat → Nat} {a : Act} {W : World} {Q : Exit → Act → World → Prop}, Rep w0 ν st.toTm a W →
        (∀ ν' a' W', Ext st.heap.length ν ν' → Rep w0 ν' st'.toTm a' W' → Q .normal a' W') → wpAny P .any l.toArray Q l.toArray.size (Array.replicate l.toArray.size false) a { W with drawn := W.drawn + 1 }) := by
  unfold drawRowS at h
  dsimp only at h
  split at h
  · rename_i hBB
    rw [Bool.and_eq_true] at hBB
    obtain ⟨hR, hB⟩ := hBB
    split at h
    · rename_i st1 h1
      split at h
      · rename_i st2 h2
        obtain ⟨n1, e1, s1⟩ := calmL_sound _ h1
        obtain ⟨n2, e2, hal⟩ := addNew_keeps _ h2
        obtain ⟨n3, e3, s3⟩ := run_sound _ h
        rw [n2] at n3
        have el : st1.heap.length = st.heap.length := by rw [e1]
        refine ⟨needs_trans n1 n3, by omega, fun hn ν a W Q R hK => ?_⟩
        have hn1 := needs_of n3 hn
        refine region_perm_any (orderOf l) hR ?_
        have hz : l.toArray.size = (permOps l.toArray (orderOf l)).toList.toArray.size := by
          rw [(renum_of hR).size.symm]
        have hl : permOps l.toArray (orderOf l) = (permOps l.toArray (orderOf l)).toList.toArray := by simp
        have H := region_new_any (P := P) (Q := Q) _ _ _ (objOf P (permOps l.toArray (orderOf l)).toList) hB hal (s1 hn1 R fun a1 R1 νr W' hN => (by
          have R2 : Rep w0 ν st1.toTm a1 W' := R1.on hN.below
          obtain ⟨T, -, -, -⟩ := newTail_of hB
          obtain ⟨ν3, x3, R3⟩ := addNew_sound (νr := νr) _ h2 R2 (fun i hi => hN.block i hi rfl) (fun i hi => Nat.le_trans R.below.size (hN.new i hi rfl)) (fun i hi j hj => by
              have h5 := lt_of_heap R1.heap hj
              have h6 := hN.new i hi rfl
              omega) T.nodup (fun i hi j hj hne => hN.apart i hi j hj rfl rfl hne)
          exact s3 hn R3 fun ν4 a4 W4 x4 R4 => hK ν4 a4 W4 (fun j hj => by rw [x4 j (by omega), x3 j (by omega)]) R4))
        rw [← hz, ← hl] at H
        exact H
      · cases h
    · cases h
  · cases h
theorem draw_sound {id : Nat} {l : List Oper} {st st' : St P w0} (hm : P.follows .mixedOrders = true) (h : drawS P l st = some st') :
    (∃ l, st'.need = l ++ st.need) ∧ st.heap.length ≤ st'.heap.length ∧ (Fits st'.need →
      ∀ {ν : Nat → Nat} {a : Act} {W : World} {Q : Exit → Act → World → Prop}, Rep w0 ν st.toTm a W →
        (∀ ν' a' W', Ext st.heap.length ν ν' → Rep w0 ν' st'.toTm a' W' → Q .normal a' W') → (Code.region id l.toArray true).wp P Q a W) := by
  unfold drawS at h
  split at h
  · split at h
    · rename_i i j hfr
      split at h
      · rename_i hF
        obtain ⟨n1, e1, s1⟩ := drawRow_sound h
        refine ⟨n1, e1, fun hn ν a W Q R hK => region_edge i j hm hF ?_⟩
        have H := s1 hn (Q := only Q) R fun ν' a' W' x R' => ⟨rfl, hK ν' a' W' x R'⟩
        have hl : (edged l.toArray i j).toList.toArray = edged l.toArray i j := by simp
        rw [hl, edged_size] at H
        exact H
      · cases h
    · obtain ⟨n1, e1, s1⟩ := drawRow_sound h
      exact ⟨n1, e1, fun hn ν a W Q R hK => wp_region_any hm (s1 hn R hK)⟩
  split at h
  · dsimp only at h
    split at h
    · rename_i hB
      split at h
      · rename_i st1 h1
        split at h
        · rename_i st2 h2
          obtain ⟨n1, e1, s1⟩ := calmL_sound _ h1
          obtain ⟨n2, e2, hal⟩ := addNew_keeps _ h2
          obtain ⟨n3, e3, s3⟩ := run_sound _ h
          rw [n2] at n3
          have el : st1.heap.length = st.heap.length := by rw [e1]
          refine ⟨needs_trans n1 n3, by omega, fun hn ν a W Q R hK => ?_⟩
          have hn1 := needs_of n3 hn
          refine region_new _ _ _ (objOf P l) hm hB hal (s1 hn1 R fun a1 R1 νr W' hN => ?_)
          have R2 : Rep w0 ν st1.toTm a1 W' := R1.on hN.below
          obtain ⟨T, -, -, -⟩ := newTail_of hB
          obtain ⟨ν3, x3, R3⟩ := addNew_sound (νr := νr) _ h2 R2 (fun i hi => hN.block i hi rfl) (fun i hi => Nat.le_trans R.below.size (hN.new i hi rfl)) (fun i hi j hj => by
              have h5 := lt_of_heap R1.heap hj
              have h6 := hN.new i hi rfl
              omega) T.nodup (fun i hi j hj hne => hN.apart i hi j hj rfl rfl hne)
          exact s3 hn R3 fun ν4 a4 W4 x4 R4 => hK ν4 a4 W4 (fun j hj => by rw [x4 j (by omega), x3 j (by omega)]) R4
        · cases h
      · cases h
    · cases h
  · split at h
    · rename_i ops hB it' hk
      obtain ⟨n1, e1, s1⟩ := calmL_sound _ h
      refine ⟨needs_trans ⟨[_], rfl⟩ n1, by rw [e1]; simp, fun hn ν a W Q R hK => ?_⟩
      have h1 := needs_of n1 hn (.order l.toArray, .order ops) (List.mem_cons_self ..)
      simp only [Req.order.injEq] at h1
      subst h1
      refine region_pure hm hB (calm_quiet l (s1 hn R fun a1 R1 x => hK ν a1 _ (fun _ _ => rfl) (R1.on (later_below W x))))
    · split at h
      · rename_i hB
        obtain ⟨n1, e1, s1⟩ := calmL_sound _ h
        refine ⟨n1, by rw [e1]; omega, fun hn ν a W Q R hK => ?_⟩
        refine region_pure hm hB (calm_quiet l (s1 hn R fun a1 R1 x => hK ν a1 _ (fun _ _ => rfl) (R1.on (later_below W x))))
      · cases h

/-! The code of a body. -/
def loopS {α : Type} (g : α → Option (XExit × α)) : Nat → α → Option (XExit × α)
  | 0, _ => none
  | n + 1, s => match g s with
    | some (.normal, s') => loopS g n s'
    | r => r
def loopKey : Nat := 1000000

/-- With fuel 0 the run stops at a loop that nothing is given for. -/
def runC (P : Program) (fuel : Nat) : Code → St P w0 → Option (XExit × St P w0)
  | .skip, st => some (.normal, st)
  | .region _ ops d, st =>
    match (if d then drawS P ops.toList st else runL P ops ops.toList st) with
    | some st' => some (.normal, st')
    | none => none
  | .seq a b, st => match runC P fuel a st with
    | some (.normal, st') => runC P fuel b st'
    | r => r
  | .cond c a b, st => match plainOf st.tmps c with
    | some (.bool t) => if t then runC P fuel a st else runC P fuel b st
    | _ => none
  | .block id b, st => match runC P fuel b st with
    | some (.exit id', st') => if id' = id then some (.normal, st') else some (.exit id', st')
    | r => r
  | .loop b, st => match takeItem loopKey st.items with
    | some (.loop c tm e tm' _, items') => if st.heap.length ≤ tm'.heap.length then some (e, ⟨tm', items', (.loop b st.toTm, .loop c tm) :: st.need⟩) else none
    | _ => match fuel with
      | 0 => some (.stop b, st)
      | n + 1 => loopS (runC P fuel b) (n + 1) st
  | .exit id, st => some (.exit id, st)
  | .label _, st => some (.normal, st)
  | .ret, st => some (.ret, st)
  | _, _ => none

def XExit.runs : XExit → Prop
  | .stop _ => False
  | _ => True

/-- What a run of a piece of code tells of the code. -/
def Says (P : Program) (w0 : World) (c : Code) (st : St P w0) (e : XExit) (st' : St P w0) : Prop :=
  (∃ l, st'.need = l ++ st.need) ∧ st.heap.length ≤ st'.heap.length ∧ (e.runs → Fits st'.need → Leads P w0 c st.toTm e st'.toTm)

theorem loop_says {c : Code} {g : St P w0 → Option (XExit × St P w0)} (hg : ∀ st e st', g st = some (e, st') → Says P w0 c st e st') :
    ∀ (n : Nat) {st : St P w0} {e : XExit} {st' : St P w0}, loopS g n st = some (e, st') →
      (∃ l, st'.need = l ++ st.need) ∧ st.heap.length ≤ st'.heap.length ∧ (e.runs → Fits st'.need →
        ∀ {ν : Nat → Nat} {a : Act} {W : World} {Q : Exit → Act → World → Prop}, Rep w0 ν st.toTm a W →
          (∀ ν' a' W', Ext st.heap.length ν ν' → Rep w0 ν' st'.toTm a' W' → Q e.to a' W') →
          ∀ (b : Frame) (k : List Go.Item) (cs : List Frame), ∃ e a' w', Q e a' w' ∧ Arrives P (lone (b.at a (.code c :: .inLoop c :: k)) cs W) b k cs e a' w')
  | 0, st, e, st', h => by cases h
  | n + 1, st, e, st', h => by
    unfold loopS at h
    split at h
    · rename_i st1 h1
      obtain ⟨n1, e1, s1⟩ := hg _ _ _ h1
      obtain ⟨n2, e2, s2⟩ := loop_says hg n h
      refine ⟨needs_trans n1 n2, Nat.le_trans e1 e2, fun he hn ν a W Q R hK b k cs => ?_⟩
      obtain ⟨e', a', w', hq, harr⟩ := s1 trivial (needs_of n2 hn) (Q := fun e a' W' => e = .normal ∧ ∃ ν', Ext st.heap.length ν ν' ∧ Rep w0 ν' st1.toTm a' W') R (fun ν' a' W' x R' => ⟨rfl, ν', x, R'⟩) b (.inLoop c :: k) cs
      obtain ⟨rfl, ν1, x1, R1⟩ := hq
      obtain ⟨e2', a2, w2, hq2, harr2⟩ := s2 he hn R1 (fun ν2 a2 W2 x2 R2 => hK ν2 a2 W2 (x1.trans e1 x2) R2) b k cs
      exact ⟨e2', a2, w2, hq2, .of_steps (Steps.trans harr (.one step_inLoop)) harr2⟩
    · rename_i r hr
      obtain ⟨n1, e1, s1⟩ := hg _ _ _ h
      refine ⟨n1, e1, fun he hn ν a W Q R hK b k cs => ?_⟩
      obtain ⟨e', a', w', hq, harr⟩ := s1 he hn (Q := fun e' a' W' => e' = e.to ∧ ∃ ν', Ext st.heap.length ν ν' ∧ Rep w0 ν' st'.toTm a' W') R (fun ν' a' W' x R' => ⟨rfl, ν', x, R'⟩) b (.inLoop c :: k) cs
      obtain ⟨rfl, ν1, x1, R1⟩ := hq
      refine ⟨_, a', w', hK ν1 a' w' x1 R1, ?_⟩
      cases e with
      | normal => exact absurd h (hr st')
      | exit id => exact .pass (x := .inLoop c) rfl (fun _ _ => .inl (by simp [XExit.to])) harr
      | ret => exact .pass (x := .inLoop c) rfl (fun _ _ => .inl (by simp [XExit.to])) harr
      | stop c => exact he.elim

theorem says_code (hm : P.follows .mixedOrders = true) {fuel : Nat} : ∀ (c : Code) {st : St P w0} {e : XExit} {st' : St P w0}, runC P fuel c st = some (e, st') → Says P w0 c st e st' := by
  intro c
  induction c with
  | skip =>
    intro st e st' h
    simp only [runC, Option.some.injEq, Prod.mk.injEq] at h
    obtain ⟨rfl, rfl⟩ := h
    exact ⟨⟨[], rfl⟩, Nat.le_refl _, fun _ hn ν a W Q R hK => wp_skip (hK ν a W (fun _ _ => rfl) R)⟩
  | region id ops d =>
    intro st e st' h
    simp only [runC] at h
    split at h
    · rename_i st1 h1
      simp only [Option.some.injEq, Prod.mk.injEq] at h
      obtain ⟨rfl, rfl⟩ := h
      cases d with
      | true =>
        simp only [if_true] at h1
        obtain ⟨n1, e1, s1⟩ := draw_sound (id := id) hm h1
        refine ⟨n1, e1, fun _ hn ν a W Q R hK => ?_⟩
        have := s1 hn (Q := Q) R hK
        rwa [show ops.toList.toArray = ops from by simp] at this
      | false =>
        simp only [Bool.false_eq_true, if_false] at h1
        obtain ⟨n1, e1, s1⟩ := run_sound _ h1
        exact ⟨n1, e1, fun _ hn ν a W Q R hK => wp_region_list (s1 hn R hK)⟩
    · cases h
  | seq x y ihx ihy =>
    intro st e st' h
    simp only [runC] at h
    split at h
    · rename_i st1 h1
      obtain ⟨n1, e1, s1⟩ := ihx h1
      obtain ⟨n2, e2, s2⟩ := ihy h
      refine ⟨needs_trans n1 n2, Nat.le_trans e1 e2, fun he hn ν a W Q R hK => ?_⟩
      exact wp_seq (s1 trivial (needs_of n2 hn) R fun ν1 a1 W1 x1 R1 => s2 he hn R1 fun ν2 a2 W2 x2 R2 => hK ν2 a2 W2 (x1.trans e1 x2) R2)
    · rename_i r hr
      obtain ⟨n1, e1, s1⟩ := ihx h
      refine ⟨n1, e1, fun he hn ν a W Q R hK => ?_⟩
      refine wp_seq (s1 he hn R fun ν1 a1 W1 x1 R1 => ?_)
      have := hK ν1 a1 W1 x1 R1
      cases e with
      | normal => exact absurd h (hr st')
      | exit id => exact this
      | ret => exact this
      | stop c => exact he.elim
  | cond c x y ihx ihy =>
    intro st e st' h
    simp only [runC] at h
    split at h
    · rename_i t hc
      cases t with
      | true =>
        simp only [if_true] at h
        obtain ⟨n1, e1, s1⟩ := ihx h
        exact ⟨n1, e1, fun he hn ν a W Q R hK => wp_cond_true (plainOf_eval R.tmps hc) (s1 he hn R hK)⟩
      | false =>
        simp only [Bool.false_eq_true, if_false] at h
        obtain ⟨n1, e1, s1⟩ := ihy h
        exact ⟨n1, e1, fun he hn ν a W Q R hK => wp_cond_false (plainOf_eval R.tmps hc) (s1 he hn R hK)⟩
    · cases h
  | block id b ih =>
    intro st e st' h
    simp only [runC] at h
    split at h
    · rename_i id' st1 h1
      obtain ⟨n1, e1, s1⟩ := ih h1
      split at h
      · rename_i hid
        simp only [Option.some.injEq, Prod.mk.injEq] at h
        obtain ⟨rfl, rfl⟩ := h
        refine ⟨n1, e1, fun he hn ν a W Q R hK => wp_block (s1 trivial hn R fun ν1 a1 W1 x1 R1 => ?_)⟩
        simp only [XExit.to, Exit.inBlock, hid, if_true]
        exact hK ν1 a1 W1 x1 R1
      · rename_i hid
        simp only [Option.some.injEq, Prod.mk.injEq] at h
        obtain ⟨rfl, rfl⟩ := h
        refine ⟨n1, e1, fun he hn ν a W Q R hK => wp_block (s1 trivial hn R fun ν1 a1 W1 x1 R1 => ?_)⟩
        simp only [XExit.to, Exit.inBlock, hid, if_false]
        exact hK ν1 a1 W1 x1 R1
    · rename_i r hr
      obtain ⟨n1, e1, s1⟩ := ih h
      refine ⟨n1, e1, fun he hn ν a W Q R hK => wp_block (s1 he hn R fun ν1 a1 W1 x1 R1 => ?_)⟩
      have := hK ν1 a1 W1 x1 R1
      cases e with
      | normal => exact this
      | exit id' => exact absurd h (hr id' st')
      | ret => exact this
      | stop c => exact he.elim
  | loop b ih =>
    intro st e st' h
    simp only [runC] at h
    split at h
    · rename_i c tm e' tm' hL items' hk
      split at h
      · rename_i hle
        simp only [Option.some.injEq, Prod.mk.injEq] at h
        obtain ⟨rfl, rfl⟩ := h
        refine ⟨⟨[_], rfl⟩, hle, fun he hn => ?_⟩
        have h1 := hn (.loop b st.toTm, .loop c tm) (List.mem_cons_self ..)
        simp only [Req.loop.injEq] at h1
        obtain ⟨rfl, h2⟩ := h1
        subst h2
        exact @hL
      · cases h
    · split at h
      · simp only [Option.some.injEq, Prod.mk.injEq] at h
        obtain ⟨rfl, rfl⟩ := h
        exact ⟨⟨[], rfl⟩, Nat.le_refl _, fun he => he.elim⟩
      · obtain ⟨n1, e1, s1⟩ := loop_says (fun st e st' h => ih h) _ h
        refine ⟨n1, e1, fun he hn ν a W Q R hK b' k cs => ?_⟩
        obtain ⟨e', a', w', hq, harr⟩ := s1 he hn (Q := Q) R hK b' k cs
        exact ⟨e', a', w', hq, .of_steps (.one step_loop) harr⟩
  | exit id =>
    intro st e st' h
    simp only [runC, Option.some.injEq, Prod.mk.injEq] at h
    obtain ⟨rfl, rfl⟩ := h
    exact ⟨⟨[], rfl⟩, Nat.le_refl _, fun _ hn ν a W Q R hK => wp_exit (hK ν a W (fun _ _ => rfl) R)⟩
  | label l =>
    intro st e st' h
    simp only [runC, Option.some.injEq, Prod.mk.injEq] at h
    obtain ⟨rfl, rfl⟩ := h
    exact ⟨⟨[], rfl⟩, Nat.le_refl _, fun _ hn ν a W Q R hK => wp_label (hK ν a W (fun _ _ => rfl) R)⟩
  | ret =>
    intro st e st' h
    simp only [runC, Option.some.injEq, Prod.mk.injEq] at h
    obtain ⟨rfl, rfl⟩ := h
    exact ⟨⟨[], rfl⟩, Nat.le_refl _, fun _ hn ν a W Q R hK => wp_ret (hK ν a W (fun _ _ => rfl) R)⟩
  | _ => intro st e st' h; simp [runC] at h

/-! A loop whose rounds are told by their number. -/
def forget (hs : List Nat) (tm : Tm) : Tm := { tm with tmps := hs.foldl (fun l i => l.set i .no) tm.tmps }
theorem Rep.forgetOne {ν : Nat → Nat} {tmps : List SV} {heap : List Blk} {a : Act} {W : World} (R : Rep w0 ν ⟨tmps, heap⟩ a W) (i : Nat) : Rep w0 ν ⟨tmps.set i .no, heap⟩ a W := by
  refine ⟨by rw [List.length_set]; exact R.size, fun t s hs => ?_, R.defers, R.below, R.heap, R.new, R.inj, fun s hs => ?_⟩
  · by_cases e : i = t
    · subst e
      have hl : i < tmps.length := by
        have := (List.getElem?_eq_some_iff.1 hs).1
        simpa using this
      rw [List.getElem?_set_self hl] at hs
      cases hs
      obtain ⟨u, hu, -⟩ := R.tmps i tmps[i] (List.getElem?_eq_getElem hl)
      exact ⟨u, hu, fun h => by cases h⟩
    · rw [List.getElem?_set_ne e] at hs
      exact R.tmps t s hs
  · rcases List.mem_or_eq_of_mem_set hs with h | h
    · exact R.wf s h
    · subst h; trivial
theorem Rep.forget {ν : Nat → Nat} {a : Act} {W : World} : ∀ (hs : List Nat) {tm : Tm}, Rep w0 ν tm a W → Rep w0 ν (forget hs tm) a W
  | [], tm, R => R
  | i :: hs, tm, R => Rep.forget hs (tm := ⟨tm.tmps.set i .no, tm.heap⟩) (R.forgetOne i)

def ask (r : Option (XExit × St P w0)) (hs : List Nat) : List Req × XExit × Tm :=
  match r with
  | some (e, st) => (st.need.map (·.1), e, forget hs st.toTm)
  | none => ([], .ret, ⟨[], []⟩)
def told (r : Option (XExit × St P w0)) (e : XExit) (tm : Tm) : List Req × XExit × Tm :=
  match r with
  | some (_, st) => (st.need.map (·.2), e, tm)
  | none => ([.sem (Sem.pure undef)], e, tm)
/-- The piece of code, run with these things given, ends so, in that state (but for what is forgotten). -/
def Ends (P : Program) (fuel : Nat) (c : Code) (tm : Tm) (its : Items P w0) (hs : List Nat) (e : XExit) (tm' : Tm) : Prop :=
  ask (runC P fuel c ⟨tm, its, []⟩) hs = told (runC P fuel c ⟨tm, its, []⟩) e tm'

theorem map_eq_all : ∀ {nd : Needs}, nd.map (·.1) = nd.map (·.2) → Fits nd
  | [], _, r, hr => by cases hr
  | x :: nd, h, r, hr => by
    simp only [List.map_cons, List.cons.injEq] at h
    rcases List.mem_cons.1 hr with rfl | hr
    · exact h.1
    · exact map_eq_all h.2 r hr

theorem forget_heap (hs : List Nat) (tm : Tm) : (forget hs tm).heap = tm.heap := rfl
theorem leads_of_ends (hm : P.follows .mixedOrders = true) {fuel : Nat} {c : Code} {tm tm' : Tm} {its : Items P w0} {hs : List Nat} {e : XExit} (he : e.runs) (h : Ends P fuel c tm its hs e tm') :
    tm.heap.length ≤ tm'.heap.length ∧ Leads P w0 c tm e tm' := by
  unfold Ends at h
  generalize hr : runC P fuel c ⟨tm, its, []⟩ = r at h
  cases r with
  | none => simp [ask, told] at h
  | some r =>
    obtain ⟨e1, st⟩ := r
    simp only [ask, told, Prod.mk.injEq] at h
    obtain ⟨h1, rfl, rfl⟩ := h
    obtain ⟨-, hl, hs1⟩ := says_code hm c hr
    refine ⟨hl, fun {ν a W Q} R hK => ?_⟩
    exact hs1 he (map_eq_all h1) R fun ν' a' W' x R' => hK ν' a' W' x (R'.forget hs)

theorem leads_loop (hm : P.follows .mixedOrders = true) {fuel : Nat} {c : Code} {t0 tEnd : Tm} {e : XExit} (N : Nat) (S : Nat → Tm) (its : (k : Nat) → k < N → Items P w0) (itl : Items P w0) (h0 hs he : List Nat) (hx : e = .ret ∨ ∃ id, e = .exit id)
    (start : forget h0 t0 = S 0) (round : ∀ k (hk : k < N), Ends P fuel c (S k) (its k hk) hs .normal (S (k + 1))) (last : Ends P fuel c (S N) itl he e tEnd) : Leads P w0 (.loop c) t0 e tEnd := by
  have hrun : e.runs := by rcases hx with rfl | ⟨id, rfl⟩ <;> trivial
  have key : ∀ (d k : Nat), k + d = N → ∀ {ν : Nat → Nat} {a : Act} {W : World} {Q : Exit → Act → World → Prop}, Rep w0 ν (S k) a W →
      (∀ ν' a' W', Ext (S k).heap.length ν ν' → Rep w0 ν' tEnd a' W' → Q e.to a' W') →
      ∀ (b : Frame) (q : List Go.Item) (cs : List Frame), ∃ e a' w', Q e a' w' ∧ Arrives P (lone (b.at a (.code c :: .inLoop c :: q)) cs W) b q cs e a' w' := by
    intro d
    induction d with
    | zero =>
      intro k hk ν a W Q R hK b q cs
      obtain rfl : k = N := by omega
      obtain ⟨-, hL⟩ := leads_of_ends hm hrun last
      obtain ⟨e', a', w', hq, harr⟩ := hL (Q := fun e' a' W' => e' = e.to ∧ ∃ ν', Ext (S k).heap.length ν ν' ∧ Rep w0 ν' tEnd a' W') R (fun ν' a' W' x R' => ⟨rfl, ν', x, R'⟩) b (.inLoop c :: q) cs
      obtain ⟨rfl, ν1, x1, R1⟩ := hq
      refine ⟨_, a', w', hK ν1 a' w' x1 R1, ?_⟩
      rcases hx with rfl | ⟨id, rfl⟩
      · exact .pass (x := .inLoop c) rfl (fun _ _ => .inl (by simp [XExit.to])) harr
      · exact .pass (x := .inLoop c) rfl (fun _ _ => .inl (by simp [XExit.to])) harr
    | succ d ih =>
      intro k hk ν a W Q R hK b q cs
      obtain ⟨hl, hL⟩ := leads_of_ends hm (e := .normal) trivial (round k (by omega))
      obtain ⟨e', a', w', hq, harr⟩ := hL (Q := fun e a' W' => e = .normal ∧ ∃ ν', Ext (S k).heap.length ν ν' ∧ Rep w0 ν' (S (k + 1)) a' W') R (fun ν' a' W' x R' => ⟨rfl, ν', x, R'⟩) b (.inLoop c :: q) cs
      obtain ⟨rfl, ν1, x1, R1⟩ := hq
      obtain ⟨e2', a2, w2, hq2, harr2⟩ := ih (k + 1) (by omega) R1 (fun ν2 a2 W2 x2 R2 => hK ν2 a2 W2 (x1.trans hl x2) R2) b q cs
      exact ⟨e2', a2, w2, hq2, .of_steps (Steps.trans harr (.one step_inLoop)) harr2⟩
  intro ν a W Q R hK b q cs
  have R0 : Rep w0 ν (S 0) a W := by rw [← start]; exact R.forget h0
  have hK0 : ∀ ν' a' W', Ext (S 0).heap.length ν ν' → Rep w0 ν' tEnd a' W' → Q e.to a' W' := fun ν' a' W' x R' => hK ν' a' W' (by rw [← start] at x; exact x) R'
  obtain ⟨e', a', w', hq, harr⟩ := key N 0 (by omega) R0 hK0 b q cs
  exact ⟨e', a', w', hq, .of_steps (.one step_loop) harr⟩

def exitOf (r : Option (XExit × St P w0)) : XExit := match r with
  | some (e, _) => e
  | none => .normal
def endOf (r : Option (XExit × St P w0)) : Tm := match r with
  | some (_, st) => st.toTm
  | none => ⟨[], []⟩
/-- Slots set. -/
def setsTm (tm : Tm) (l : List (Nat × SV)) : Tm := { tm with tmps := l.foldl (fun ts p => ts.set p.1 p.2) tm.tmps }

def XExit.leaves : XExit → Bool
  | .ret => true
  | .exit _ => true
  | _ => false
/-- A loop, told by its rounds: the rounds 0 .. N - 1 come to their end, the round N leaves it. -/
structure Rounds (P : Program) (w0 : World) (fuel : Nat) (c : Code) (t0 : Tm) where
  N : Nat
  S : Nat → Tm
  F : Tm
  fin : S N = F
  its : (k : Nat) → k < N → Items P w0
  itl : Items P w0
  h0 : List Nat
  hs : List Nat
  he : List Nat
  start : forget h0 t0 = S 0
  round : ∀ k (hk : k < N), ask (runC P fuel c ⟨S k, its k hk, []⟩) hs = told (runC P fuel c ⟨S k, its k hk, []⟩) .normal (S (k + 1))
  leaves : (exitOf (runC P fuel c ⟨F, itl, []⟩)).leaves = true
  last : ask (runC P fuel c ⟨F, itl, []⟩) he = told (runC P fuel c ⟨F, itl, []⟩) (exitOf (runC P fuel c ⟨F, itl, []⟩)) (forget he (endOf (runC P fuel c ⟨F, itl, []⟩)))
def Rounds.item (hm : P.follows .mixedOrders = true) {fuel : Nat} {c : Code} {t0 : Tm} (R : Rounds P w0 fuel c t0) : Item P w0 :=
  .loop c t0 (exitOf (runC P fuel c ⟨R.F, R.itl, []⟩)) (forget R.he (endOf (runC P fuel c ⟨R.F, R.itl, []⟩)))
    (leads_loop hm R.N R.S R.its R.itl R.h0 R.hs R.he (by
      have h := R.leaves
      generalize exitOf (runC P fuel c ⟨R.F, R.itl, []⟩) = e at h
      cases e with
      | ret => exact .inl rfl
      | exit id => exact .inr ⟨id, rfl⟩
      | normal => cases h
      | stop c => cases h) R.start R.round (by unfold Ends; rw [R.fin]; exact R.last))

/-- The regions of a body that draw their order. -/
def drawsOf : Code → List (Array Oper)
  | .region _ ops true => [ops]
  | .seq a b => drawsOf a ++ drawsOf b
  | .cond _ a b => drawsOf a ++ drawsOf b
  | .block _ b => drawsOf b
  | .loop b => drawsOf b
  | _ => []
def bodyOf (P : Program) (f : FuncId) : Code :=
  match P.funcs[f]? with
  | some fn => match fn.body with
    | some c => c
    | none => .skip
  | none => .skip
def drawOf (P : Program) (f : FuncId) (k : Nat) : Array Oper := (drawsOf (bodyOf P f)).getD k #[]

/-! A whole call. -/
def resS (P : Program) (rs : Array ResultVar) (st : Tm) : Option Value :=
  match rs.toList with
  | [.tmp t] => plainOf st.tmps (.tmp t)
  | [.cell t ty] => match svOf st.tmps (.tmp t) with
    | some (.p j off) => loadS P st.heap ty j off
    | _ => none
  | _ => none

theorem res_run {ν : Nat → Nat} {st : Tm} {a : Act} {W : World} (R : Rep w0 ν st a W) {fn : Func} {u : Value} (h : resS P fn.results st = some u) : (results fn a.tmps).run P W = .ok u W := by
  unfold resS at h
  split at h
  · rename_i t ht
    have he : fn.results = #[.tmp t] := by
      have h9 := congrArg List.toArray ht
      simpa using h9
    have h2 : a.eval (.tmp t) = u := plainOf_eval R.tmps h
    rw [results_tmp he]
    exact congrArg (fun v => Result.ok v W) h2
  · rename_i t ty ht
    have he : fn.results = #[.cell t ty] := by
      have h9 := congrArg List.toArray ht
      simpa using h9
    split at h
    · rename_i j off hs
      have h2 : a.eval (.tmp t) = .pointer (some ⟨ν j, off, none⟩) := svOf_eval R.tmps hs
      have hb : ∃ b, st.heap[j]? = some b := by
        unfold loadS at h
        cases hb : st.heap[j]? with
        | none => rw [hb] at h; cases h
        | some b => exact ⟨b, rfl⟩
      obtain ⟨b, hb⟩ := hb
      have hr := run_loadVar_blk (R.heap j b hb) hb h
      have h3 : a.tmps.getD t undef = .pointer (some ⟨ν j, off, none⟩) := h2
      have h4 : a.tmps[t]?.getD undef = .pointer (some ⟨ν j, off, none⟩) := by rw [← Array.getD_eq_getD_getElem?]; exact h3
      simp only [results, he]
      simp [h4, asAddr, hr]
    · cases h
  · cases h

def initTm (fn : Func) (args : List Value) : Tm := ⟨args.map .v ++ List.replicate (fn.ntmps - args.length) (.v undef), []⟩
/-- The state and the code in front of the loop where the run with fuel 0 stops. -/
def stopAt (P : Program) (f : FuncId) (args : List Value) (items : Items P w0) : Option (Code × Tm) :=
  match P.funcs[f]? with
  | none => none
  | some fn => match fn.body with
    | none => none
    | some c => match runC P 0 c ⟨initTm fn args, items, []⟩ with
      | some (.stop b, st) => some (b, st.toTm)
      | _ => none
def loopOf (r : Option (Code × Tm)) : Code := match r with
  | some (c, _) => c
  | none => .skip
def tmOf (r : Option (Code × Tm)) : Tm := match r with
  | some (_, t) => t
  | none => ⟨[], []⟩
def runF (P : Program) (fuel : Nat) (f : FuncId) (args : List Value) (items : Items P w0) : Option (Needs × Value) :=
  match P.funcs[f]? with
  | none => none
  | some fn => match fn.body with
    | none => none
    | some c => match runC P fuel c ⟨initTm fn args, items, []⟩ with
      | some (.ret, st) => match resS P fn.results st.toTm with
        | some v => some (st.need, v)
        | none => none
      | some (.normal, st) => match resS P fn.results st.toTm with
        | some v => some (st.need, v)
        | none => none
      | _ => none

def got (v : Value) : Option (Needs × Value) → List Req × Value
  | some (nd, u) => (nd.map (·.1), u)
  | none => ([], undef)
def want (v : Value) : Option (Needs × Value) → List Req × Value
  | some (nd, _) => (nd.map (·.2), v)
  | none => ([.sem (Sem.pure undef)], v)

theorem rep_init (w : World) (fn : Func) (args : List Value) : Rep w (fun _ => 0) (initTm fn args) { tmps := args.toArray ++ Array.replicate (fn.ntmps - args.toArray.size) undef, defers := [] } w := by
  refine ⟨by simp [initTm], fun t s hs => ?_, rfl, Below.refl _ _, fun j b h => (by simp [initTm] at h), fun j b h => (by simp [initTm] at h), fun i j h => (by simp [initTm] at h), fun s hs => ?_⟩
  · have e : ((args.toArray ++ Array.replicate (fn.ntmps - args.toArray.size) undef : Array Value)) = (((initTm fn args).tmps.map (SV.to fun _ => 0))).toArray := by
      have e : (SV.to fun _ => 0) ∘ SV.v = id := rfl
      simp [initTm, List.map_append, List.map_map, e, SV.to]
    refine ⟨s.to fun _ => 0, ?_, s.is_self _⟩
    simp only [e, List.getElem?_toArray, List.getElem?_map, hs, Option.map_some]
  · rcases List.mem_append.1 hs with h | h
    · obtain ⟨x, -, rfl⟩ := List.mem_map.1 h; trivial
    · rw [List.eq_of_mem_replicate h]; trivial

/-- THE LAW, at one world: the run goes through, what was given fits, and 'v' comes out. -/
theorem calls_of_run (hm : P.follows .mixedOrders = true) {f : FuncId} {args : List Value} {v : Value} (fuel : Nat) (w : World) (items : Items P w)
    (h2 : got v (runF P fuel f args items) = want v (runF P fuel f args items)) : Calls P f args.toArray w fun e w' => e = .returned v ∧ Below w.heap.size w w' := by
  unfold runF at h2
  split at h2
  · simp [got, want] at h2
  · rename_i fn hf
    split at h2
    · simp [got, want] at h2
    · rename_i c hb
      refine calls_of_wp hf hb ?_
      have fin : ∀ (e : XExit) (st : St P w), (e = .ret ∨ e = .normal) → runC P fuel c ⟨initTm fn args, items, []⟩ = some (e, st) → Fits st.need → resS P fn.results st.toTm = some v →
          c.wp P (bodyPost P fn fun e w' => e = .returned v ∧ Below w.heap.size w w') { tmps := args.toArray ++ Array.replicate (fn.ntmps - args.toArray.size) undef, defers := [] } w := by
        intro e st he hrun hn hres
        obtain ⟨-, -, s1⟩ := says_code hm (w0 := w) c hrun
        refine s1 (by rcases he with rfl | rfl <;> trivial) hn (rep_init w fn args) fun ν' a' W' x R => ?_
        rcases he with rfl | rfl
        · exact ⟨R.defers, v, res_run R hres, rfl, R.below⟩
        · exact ⟨R.defers, v, res_run R hres, rfl, R.below⟩
      split at h2
      · rename_i st hrun
        split at h2
        · rename_i u hu
          simp only [got, want, Prod.mk.injEq] at h2
          exact fin .ret st (.inl rfl) hrun (map_eq_all h2.1) (by rw [hu, h2.2])
        · simp [got, want] at h2
      · rename_i st hrun
        split at h2
        · rename_i u hu
          simp only [got, want, Prod.mk.injEq] at h2
          exact fin .normal st (.inr rfl) hrun (map_eq_all h2.1) (by rw [hu, h2.2])
        · simp [got, want] at h2
      · simp [got, want] at h2
theorem pure_of_run (hm : P.follows .mixedOrders = true) {f : FuncId} {args : List Value} {v : Value} (fuel : Nat) (items : ∀ w, Items P w)
    (h2 : ∀ w, got v (runF P fuel f args (items w)) = want v (runF P fuel f args (items w))) : Pure P f args.toArray v :=
  fun w => calls_of_run hm fuel w (items w) (h2 w)
end
end Go.Ev
