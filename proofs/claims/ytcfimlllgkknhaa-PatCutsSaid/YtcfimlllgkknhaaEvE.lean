/-
  A region that draws its order: an operation that waits for nothing, and is no other's matter, may be taken ahead of another one.
-/
import Derived.Test.YtcfimlllgkknhaaEvR
set_option linter.unusedSimpArgs false
set_option linter.unusedVariables false
namespace Go.Eng
open Go.RowKit

section
variable {P : Program} {md : Region.Mode}
def edgeOp (i : Nat) (o : Oper) : Oper := { o with after := o.after.push ⟨i, .data⟩ }
def edged (ops : Array Oper) (i j : Nat) : Array Oper := ops.modify j (edgeOp i)
def isFreeMove (o : Oper) : Bool := o.after.isEmpty && o.guard.isNone && match o.op with
  | .move _ => true
  | _ => false
def freeB (ops : Array Oper) (i j : Nat) : Bool :=
  i != j && Region.noSelect ops && Region.free .any ops (Array.replicate ops.size false) i && match ops[i]? with
    | some o => isFreeMove o
    | none => false
theorem edged_size (ops : Array Oper) (i j : Nat) : (edged ops i j).size = ops.size := by simp [edged]
theorem edged_at (ops : Array Oper) (i j k : Nat) : (edged ops i j)[k]? = if j = k then (ops[k]?).map (edgeOp i) else ops[k]? := by
  unfold edged
  rw [Array.getElem?_modify]
theorem edged_get {ops : Array Oper} {i j k : Nat} {o : Oper} (h : ops[k]? = some o) : (edged ops i j)[k]? = some (if j = k then edgeOp i o else o) := by
  rw [edged_at, h]
  split <;> rfl
theorem edged_yielded (ops : Array Oper) (i j : Nat) (tmps : Array Value) (g : Nat) : yielded (edged ops i j) tmps g = yielded ops tmps g := by
  have : ((edged ops i j)[g]?).bind (·.dst) = (ops[g]?).bind (·.dst) := by
    rw [edged_at]
    by_cases h : j = g
    · rw [if_pos h]
      cases ops[g]? <;> rfl
    · rw [if_neg h]
  unfold yielded
  rw [this]
theorem edged_wanted (ops : Array Oper) (i j : Nat) (tmps : Array Value) (o : Oper) : Region.wanted o (yielded (edged ops i j) tmps) = Region.wanted o (yielded ops tmps) := by
  have : yielded (edged ops i j) tmps = yielded ops tmps := funext (edged_yielded ops i j tmps)
  rw [this]
theorem edged_ready {ops : Array Oper} {i j : Nat} {listed : Array Bool} (hl : listed.getD i false = true) (k : Nat) : k ∈ Region.ready md (edged ops i j) listed ↔ k ∈ Region.ready md ops listed := by
  rw [mem_ready, mem_ready]
  refine and_congr Iff.rfl ?_
  constructor
  · rintro ⟨o, h1, h2⟩
    cases ho : ops[k]? with
    | none => rw [edged_at, ho] at h1; split at h1 <;> cases h1
    | some o0 =>
      refine ⟨o0, rfl, fun e he hb => ?_⟩
      rw [edged_get ho] at h1
      cases h1
      refine h2 e ?_ hb
      split
      · exact Array.mem_push.2 (.inl he)
      · exact he
  · rintro ⟨o, h1, h2⟩
    refine ⟨_, edged_get h1, fun e he hb => ?_⟩
    split at he
    · rcases Array.mem_push.1 he with he | rfl
      · exact h2 e he hb
      · exact hl
    · exact h2 e he hb
theorem set_keeps {listed : Array Bool} {i k : Nat} (h : listed.getD i false = true) : (listed.setIfInBounds k true).getD i false = true := by
  rw [Array.getD_eq_getD_getElem?] at h ⊢
  rw [Array.getElem?_setIfInBounds]
  split
  · rename_i e
    subst e
    split
    · rfl
    · rename_i h2
      rw [Array.getElem?_eq_none (by omega)] at h
      cases h
  · exact h
theorem wpAny_edged {ops : Array Oper} {i j : Nat} {Q : Exit → Act → World → Prop} : ∀ (n : Nat) (l : Array Bool) (a : Act) (w : World), l.getD i false = true →
    wpAny P md (edged ops i j) Q n l a w → wpAny P md ops Q n l a w
  | 0, l, a, w, hl, h => by
    refine ⟨?_, h.2⟩
    apply List.eq_nil_iff_forall_not_mem.2
    intro k hk
    have := (edged_ready (md := md) (j := j) hl k).2 hk
    rw [h.1] at this
    cases this
  | n + 1, l, a, w, hl, h => by
    obtain ⟨h1, h2⟩ := h
    refine ⟨fun h0 => h1 ?_, fun k hk => ?_⟩
    · apply List.eq_nil_iff_forall_not_mem.2
      intro k hk
      have := (edged_ready (md := md) hl k).1 hk
      rw [h0] at this
      cases this
    · obtain ⟨_, o, ho, _⟩ := mem_ready.1 hk
      have h3 := h2 k ((edged_ready hl k).2 hk)
      unfold wpOp at h3 ⊢
      rw [edged_get ho] at h3
      simp only [ho]
      have ew : Region.wanted (if j = k then edgeOp i o else o) (yielded (edged ops i j) a.tmps) = Region.wanted o (yielded ops a.tmps) := by
        rw [edged_wanted]
        split <;> rfl
      simp only [ew] at h3
      have ed : (if j = k then edgeOp i o else o).dst = o.dst := by split <;> rfl
      rw [ed] at h3
      split
      · rename_i hw
        rw [if_pos hw] at h3
        refine h3.imp (fun h4 => ?_) (fun h4 => ?_)
        · have h5 : o.wp P a w (wpAny P md (edged ops i j) Q n (l.setIfInBounds k true)) Q := by
            split at h4
            · exact h4
            · exact h4
          exact Oper.wp_mono (o := o) (fun a' w' h6 => wpAny_edged n _ a' w' (set_keeps hl) h6) h5
        · split at h4
          · exact h4
          · exact h4
      · rename_i hw
        rw [if_neg hw] at h3
        exact wpAny_edged n _ _ w (set_keeps hl) h3

/-- Only where the region ends as it should. -/
def only (Q : Exit → Act → World → Prop) : Exit → Act → World → Prop := fun e a w => e = .normal ∧ Q .normal a w

theorem region_edge {id : Nat} {Q : Exit → Act → World → Prop} {a : Act} {w : World} {ops : Array Oper} (i j : Nat) (hm : P.follows .mixedOrders = true) (hB : freeB ops i j = true)
    (h : wpAny P .any (edged ops i j) (only Q) ops.size (Array.replicate ops.size false) a { w with drawn := w.drawn + 1 }) : (Code.region id ops true).wp P Q a w := by
  unfold freeB at hB
  simp only [Bool.and_eq_true, bne_iff_ne, ne_eq] at hB
  obtain ⟨⟨⟨hne, hs⟩, hf⟩, hi'⟩ := hB
  cases hi : ops[i]? with
  | none => rw [hi] at hi'; cases hi'
  | some oi =>
    rw [hi] at hi'
    obtain ⟨dst, op, ty, pos, after, guard⟩ := oi
    unfold isFreeMove at hi'
    simp only [Bool.and_eq_true] at hi'
    obtain ⟨⟨ha, hg⟩, hop⟩ := hi'
    have ha' : after = #[] := by simpa using ha
    have hg' : guard = none := by simpa using hg
    subst ha' hg'
    cases op <;> try (cases hop)
    rename_i x
    have hlt : i < ops.size := (Array.getElem?_eq_some_iff.1 hi).1
    obtain ⟨n, hn⟩ : ∃ n, ops.size = n + 1 := ⟨ops.size - 1, by omega⟩
    have hfalse : (Array.replicate ops.size false).getD i true = false := by
      rw [getD_any (by simpa using hlt) true false]
      exact getD_replicate_false _ _
    have hready : i ∈ Region.ready .any ops (Array.replicate ops.size false) := mem_ready.2 ⟨hfalse, _, hi, fun e he => by simp at he⟩
    have hready' : i ∈ Region.ready .any (edged ops i j) (Array.replicate ops.size false) :=
      mem_ready.2 ⟨hfalse, _, edged_get hi, fun e he => by
        rw [if_neg (fun q => hne q.symm)] at he
        simp at he⟩
    have hy : Yields P ops ⟨dst, .move x, ty, pos, #[], none⟩ (a.eval x) a := .inl ⟨rfl, fun w => rfl⟩
    refine wp_mono (Q := only Q) (wp_region_any hm ?_) (by rintro e a w ⟨rfl, h⟩; exact h)
    rw [hn] at h hready hready' ⊢
    rw [hn] at hf
    refine wpAny_take hi hs hf (by simpa using hready) (by rintro c a w ⟨h, _⟩; cases h) hy ?_
    have h2 := h.2 i hready'
    unfold wpOp at h2
    rw [edged_get hi, if_neg (fun q => hne q.symm)] at h2
    have h3 : wpAny P .any (edged ops i j) (only Q) n ((Array.replicate (n + 1) false).setIfInBounds i true) (a.put dst (a.eval x)) { w with drawn := w.drawn + 1 } := by
      have h4 : (Oper.wp P ⟨dst, .move x, ty, pos, #[], none⟩ a { w with drawn := w.drawn + 1 } (wpAny P .any (edged ops i j) (only Q) n ((Array.replicate (n + 1) false).setIfInBounds i true)) (only Q)) ∨ _ := h2
      rcases h4 with h4 | ⟨_, a', w', h4, _⟩
      · exact h4
      · cases h4
    refine wpAny_edged n _ _ _ ?_ h3
    rw [Array.getD_eq_getD_getElem?, Array.getElem?_setIfInBounds, if_pos rfl, if_pos (by simp; omega)]
    rfl
theorem region_perm_any {Q : Exit → Act → World → Prop} {a : Act} {w : World} {ops : Array Oper} (ord : List Nat) (hB : renumB ops ord = true)
    (h : wpAny P .any (permOps ops ord) Q ops.size (Array.replicate ops.size false) a { w with drawn := w.drawn + 1 }) :
    wpAny P .any ops Q ops.size (Array.replicate ops.size false) a { w with drawn := w.drawn + 1 } := by
  refine wpAny_ren (renum_of hB) _ _ _ _ _ ⟨by simp, by simp, fun i _ => ?_⟩ h
  rw [getD_replicate_false, getD_replicate_false]
end
end Go.Eng
