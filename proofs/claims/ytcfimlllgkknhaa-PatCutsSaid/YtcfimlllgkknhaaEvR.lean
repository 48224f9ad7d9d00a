/-
  A region that draws its order may be walked with its operations numbered anew.
-/
import Derived.Test.YtcfimlllgkknhaaEngB
set_option linter.unusedSimpArgs false
set_option linter.unusedVariables false
namespace Go.Eng
open Go.RowKit

section
variable {P : Program} {md : Region.Mode}
def renEdge (f : Nat → Nat) (e : Edge) : Edge := { e with on := f e.on }
def renOper (f : Nat → Nat) (o : Oper) : Oper := { o with after := o.after.map (renEdge f), guard := o.guard.map fun g => (f g.1, g.2) }

structure Renum (ops ops' : Array Oper) (f : Nat → Nat) : Prop where
  size : ops'.size = ops.size
  at_ : ∀ (i : Nat) (o : Oper), ops[i]? = some o → ops'[f i]? = some (renOper f o)
  lt : ∀ i, i < ops.size → f i < ops.size
  inj : ∀ i j, i < ops.size → j < ops.size → f i = f j → i = j
  onto : ∀ j, j < ops.size → ∃ i, i < ops.size ∧ f i = j
  edges : ∀ (i : Nat) (o : Oper), ops[i]? = some o → ∀ e ∈ o.after, e.on < ops.size
  guards : ∀ (i : Nat) (o : Oper) g w, ops[i]? = some o → o.guard = some (g, w) → g < ops.size

structure Alike (ops : Array Oper) (f : Nat → Nat) (l l' : Array Bool) : Prop where
  size : l.size = ops.size
  size' : l'.size = ops.size
  same : ∀ i, i < ops.size → l'.getD (f i) false = l.getD i false

theorem getD_any {l : Array Bool} {i : Nat} (h : i < l.size) (d d' : Bool) : l.getD i d = l.getD i d' := by simp [h]
theorem binds_ren (f : Nat → Nat) (e : Edge) : Region.binds md (renEdge f e) = Region.binds md e := rfl

theorem ready_ren {ops ops' : Array Oper} {f : Nat → Nat} (R : Renum ops ops' f) {l l' : Array Bool} (A : Alike ops f l l') {i : Nat} (hi : i < ops.size) :
    i ∈ Region.ready md ops l ↔ f i ∈ Region.ready md ops' l' := by
  have ho : ops[i]? = some ops[i] := by simp [hi]
  have hu : l'.getD (f i) true = l.getD i true := by
    rw [getD_any (by rw [A.size']; exact R.lt i hi) true false, getD_any (by rw [A.size]; exact hi) true false]
    exact A.same i hi
  rw [mem_ready, mem_ready, hu]
  refine and_congr Iff.rfl ?_
  constructor
  · rintro ⟨o, h1, h2⟩
    refine ⟨renOper f o, R.at_ i o h1, fun e he hb => ?_⟩
    obtain ⟨e0, h3, rfl⟩ := Array.mem_map.1 he
    rw [binds_ren] at hb
    show l'.getD (f e0.on) false = true
    rw [A.same _ (R.edges i o h1 e0 h3)]
    exact h2 e0 h3 hb
  · rintro ⟨o', h1, h2⟩
    refine ⟨ops[i], ho, fun e he hb => ?_⟩
    have h4 := R.at_ i _ ho
    rw [h4] at h1
    cases h1
    have h5 := h2 (renEdge f e) (Array.mem_map.2 ⟨e, he, rfl⟩) (by rw [binds_ren]; exact hb)
    have h6 : l'.getD (f e.on) false = true := h5
    rw [A.same _ (R.edges i _ ho e he)] at h6
    exact h6
theorem alike_set {ops ops' : Array Oper} {f : Nat → Nat} (R : Renum ops ops' f) {l l' : Array Bool} (A : Alike ops f l l') {i : Nat} (hi : i < ops.size) : Alike ops f (l.setIfInBounds i true) (l'.setIfInBounds (f i) true) := by
  refine ⟨by simp [A.size], by simp [A.size'], fun j hj => ?_⟩
  by_cases e : i = j
  · subst e
    rw [Array.getD_eq_getD_getElem?, Array.getD_eq_getD_getElem?, Array.getElem?_setIfInBounds_self_of_lt (by rw [A.size']; exact R.lt i hi), Array.getElem?_setIfInBounds_self_of_lt (by rw [A.size]; exact hi)]
  · rw [getD_set_ne false e, getD_set_ne false (fun h => e (R.inj i j hi hj h))]
    exact A.same j hj
theorem yielded_ren {ops ops' : Array Oper} {f : Nat → Nat} (R : Renum ops ops' f) (tmps : Array Value) {g : Nat} (hg : g < ops.size) : yielded ops' tmps (f g) = yielded ops tmps g := by
  have ho : ops[g]? = some ops[g] := by simp [hg]
  have h1 := R.at_ g _ ho
  unfold yielded
  rw [ho, h1]
  rfl
theorem wanted_ren {ops ops' : Array Oper} {f : Nat → Nat} (R : Renum ops ops' f) (tmps : Array Value) {i : Nat} {o : Oper} (ho : ops[i]? = some o) : Region.wanted (renOper f o) (yielded ops' tmps) = Region.wanted o (yielded ops tmps) := by
  unfold Region.wanted renOper
  cases hg : o.guard with
  | none => rfl
  | some g =>
    obtain ⟨g, w⟩ := g
    simp only [Option.map_some]
    rw [yielded_ren R tmps (R.guards i o g w ho hg)]

theorem wpAny_ren {ops ops' : Array Oper} {f : Nat → Nat} (R : Renum ops ops' f) {Q : Exit → Act → World → Prop} : ∀ (n : Nat) (l l' : Array Bool) (a : Act) (w : World), Alike ops f l l' →
    wpAny P md ops' Q n l' a w → wpAny P md ops Q n l a w
  | 0, l, l', a, w, A, h => by
    refine ⟨?_, h.2⟩
    apply List.eq_nil_iff_forall_not_mem.2
    intro i hi
    obtain ⟨_, o, ho, _⟩ := mem_ready.1 hi
    have hlt : i < ops.size := (Array.getElem?_eq_some_iff.1 ho).1
    have := (ready_ren R A hlt).1 hi
    rw [h.1] at this
    cases this
  | n + 1, l, l', a, w, A, h => by
    obtain ⟨h1, h2⟩ := h
    refine ⟨fun h0 => h1 ?_, fun i hi => ?_⟩
    · apply List.eq_nil_iff_forall_not_mem.2
      intro j hj
      obtain ⟨_, o, ho, _⟩ := mem_ready.1 hj
      have hlt : j < ops'.size := (Array.getElem?_eq_some_iff.1 ho).1
      obtain ⟨i, hi, rfl⟩ := R.onto j (by rw [← R.size]; exact hlt)
      have := (ready_ren R A hi).2 hj
      rw [h0] at this
      cases this
    · obtain ⟨_, o, ho, _⟩ := mem_ready.1 hi
      have hlt : i < ops.size := (Array.getElem?_eq_some_iff.1 ho).1
      have h3 := h2 (f i) ((ready_ren R A hlt).1 hi)
      unfold wpOp at h3 ⊢
      rw [R.at_ i o ho] at h3
      simp only [ho]
      simp only [wanted_ren R a.tmps ho] at h3
      split
      · rename_i hw
        rw [if_pos hw] at h3
        refine h3.imp (fun h4 => ?_) (fun h4 => ?_)
        · exact Oper.wp_mono (o := o) (fun a' w' h5 => wpAny_ren R n _ _ a' w' (alike_set R A hlt) h5) h4
        · exact h4
      · rename_i hw
        rw [if_neg hw] at h3
        exact wpAny_ren R n _ _ _ w (alike_set R A hlt) h3

def permOps (ops : Array Oper) (ord : List Nat) : Array Oper := (ord.map fun i => renOper (fun j => ord.idxOf j) (ops.getD i default)).toArray
def renumB (ops : Array Oper) (ord : List Nat) : Bool :=
  decide (ord.length = ops.size) && (List.range ops.size).all (fun i => ord.contains i) && ord.all (fun i => decide (i < ops.size)) && decide ord.Nodup &&
  ops.all (fun o => o.after.all (fun e => decide (e.on < ops.size)) && match o.guard with
    | some (g, _) => decide (g < ops.size)
    | none => true)
theorem renum_of {ops : Array Oper} {ord : List Nat} (h : renumB ops ord = true) : Renum ops (permOps ops ord) (fun j => ord.idxOf j) := by
  simp only [renumB, Bool.and_eq_true, decide_eq_true_eq] at h
  obtain ⟨⟨⟨⟨h1, h2⟩, h3⟩, h4⟩, h5⟩ := h
  have mem : ∀ i, i < ops.size → i ∈ ord := fun i hi => by simpa using List.all_eq_true.1 h2 i (List.mem_range.2 hi)
  have lt : ∀ i, i < ops.size → ord.idxOf i < ord.length := fun i hi => List.idxOf_lt_length_iff.2 (mem i hi)
  have get : ∀ i (hi : i < ops.size), ord[ord.idxOf i]'(lt i hi) = i := fun i hi => List.getElem_idxOf (lt i hi)
  have each : ∀ (i : Nat) (o : Oper), ops[i]? = some o → _ := fun i o ho => Array.all_eq_true_iff_forall_mem.1 h5 o (Array.mem_of_getElem? ho)
  refine ⟨by simp [permOps, h1], fun i o ho => ?_, fun i hi => by have := lt i hi; omega, fun i j hi hj e => ?_, fun j hj => ?_, fun i o ho e he => ?_, fun i o g w ho hg => ?_⟩
  · have hi : i < ops.size := (Array.getElem?_eq_some_iff.1 ho).1
    have hg : ord[ord.idxOf i]? = some i := by rw [List.getElem?_eq_getElem (lt i hi), get i hi]
    simp only [permOps, List.getElem?_toArray, List.getElem?_map, hg, Option.map_some, Array.getD_eq_getD_getElem?, ho, Option.getD_some]
  · have e1 := get i hi
    have e2 := get j hj
    have e3 : ord.idxOf i = ord.idxOf j := e
    rw [← e1, ← e2]
    simp only [e3]
  · refine ⟨ord[j]'(by omega), ?_, ?_⟩
    · simpa using List.all_eq_true.1 h3 _ (List.getElem_mem (by omega))
    · exact h4.idxOf_getElem j (by omega)
  · have := each i o ho
    simp only [Bool.and_eq_true] at this
    simpa using Array.all_eq_true_iff_forall_mem.1 this.1 e he
  · have := each i o ho
    simp only [Bool.and_eq_true, hg] at this
    simpa using this.2
theorem region_perm {id : Nat} {Q : Exit → Act → World → Prop} {a : Act} {w : World} {ops : Array Oper} (ord : List Nat) (hm : P.follows .mixedOrders = true) (hB : renumB ops ord = true)
    (h : wpAny P .any (permOps ops ord) Q ops.size (Array.replicate ops.size false) a { w with drawn := w.drawn + 1 }) : (Code.region id ops true).wp P Q a w := by
  refine wp_region_any hm (wpAny_ren (renum_of hB) _ _ _ _ _ ⟨by simp, by simp, fun i _ => ?_⟩ h)
  rw [getD_replicate_false, getD_replicate_false]

/-- 'region_new', ahead of the draw. -/
theorem region_new_any {Q : Exit → Act → World → Prop} {a : Act} {w : World} {l : List Oper} (n : Nat) (idx al : List Nat) (obj : Nat → Obj) (hB : newTailB .any l.toArray idx al n = true)
    (hal : ∀ i ∈ al, ∀ o, l[i]? = some o → ∀ ρ W, (execOp ρ o).run P W = .ok (.value (newPtr W.heap.size)) (W.alloc (obj i)))
    (h : wpCalm P l.toArray w (fun a' => ∀ ν W, HasNew w obj al (fun _ => true) ν W → wpList P l.toArray Q (l.drop n) (withNew (dstOf l.toArray) (fun _ => true) ν al a') W) (picks l idx) a) :
    wpAny P .any l.toArray Q l.toArray.size (Array.replicate l.toArray.size false) a { w with drawn := w.drawn + 1 } := by
  obtain ⟨T, hsel, hlen, hlex⟩ := newTail_of hB
  have hn' : n < l.length := by simpa using T.lt
  have hdl : (l.drop n).length = l.toArray.size - n := by simp
  have H := anyCalm_lex (P := P) (md := .any) (w0 := w) (g := l.toArray.size - n) hsel (fun i hi listed inv hun j hj => by
      rcases Nat.lt_or_ge j n with h | h
      · exact h
      · exact absurd hj (T.waits listed inv i hi hun j h)) idx (marked al (Array.replicate l.toArray.size false)) a (marked_inv T) hlex (by simpa using h)
  have inv0 : HeadInv .any l.toArray n (Array.replicate l.toArray.size false) :=
    ⟨by simp, fun j oj _ hl => (by rw [getD_replicate_false] at hl; cases hl), fun t _ ht => getD_in (by simpa using ht) (getD_replicate_false _ _)⟩
  have hunl : ∀ i : Nat, (Array.replicate l.toArray.size false).getD i false = false := fun i => getD_replicate_false _ _
  have hcnt : al.length = al.countP (fun i => !(Array.replicate l.toArray.size false).getD i false) := by
    symm
    rw [List.countP_eq_length]
    intro i _
    rw [hunl]; rfl
  have hnew : HasNew w obj al (fun i => (Array.replicate l.toArray.size false).getD i false) (fun _ => 0) w.drew :=
    ⟨(Below.refl _ _).drew, fun i _ hD => (by rw [hunl] at hD; cases hD), fun i _ hD => (by rw [hunl] at hD; cases hD), fun i _ j _ hD _ _ => (by rw [hunl] at hD; cases hD)⟩
  have h6 := wpAny_mix (P := P) (md := .any) (Q := Q) (g := l.toArray.size - n) (obj := obj) T (fun i hi o ho => hal i hi o (by simpa using ho)) (fun listed' a' hL => seqB_ready hL.1)
    (fun listed' a' ν w' hL hw' => by
      have h7 := wpAny_of_seq (md := .any) (Q' := Q) (l.drop n) n listed' _ w' (fun j => by simp [List.getElem?_drop]) (by rw [hdl]; exact hL.1) (hL.2 ν w' hw')
      rwa [hdl] at h7)
    (al.length + idx.length) al.length idx.length _ a (fun _ => 0) w.drew rfl hcnt inv0 hnew H
  have e1 : withNew (dstOf l.toArray) (fun i => (Array.replicate l.toArray.size false).getD i false) (fun _ => 0) al a = a := by
    have aux : ∀ (al : List Nat) (b : Act), withNew (dstOf l.toArray) (fun i => (Array.replicate l.toArray.size false).getD i false) (fun _ => 0) al b = b := by
      intro al
      induction al with
      | nil => intro b; rfl
      | cons i al ih => intro b; unfold withNew; rw [hunl]; exact ih b
    exact aux al a
  rw [e1] at h6
  have e2 : al.length + idx.length + (l.toArray.size - n) = l.toArray.size := by have := T.lt; omega
  rw [e2] at h6
  exact h6
end
end Go.Eng
