/-
  A loop whose rounds make variables of their own: behind each round they are dropped.
-/
import Derived.Test.YtcfimlllgkknhaaEv
set_option linter.unusedSimpArgs false
set_option linter.unusedVariables false
namespace Go.Ev
open Go.RowKit Go.Eng

section
variable {P : Program} {w0 : World}
def ltB (n : Nat) : SV → Bool
  | .p j _ => decide (j < n)
  | .s j _ _ _ => decide (j < n)
  | _ => true
theorem lt_of_ltB {n : Nat} {s : SV} (h : ltB n s = true) : s.lt n := by
  cases s <;> simp [ltB, SV.lt] at h ⊢ <;> exact h
def cutTm (n : Nat) (tm : Tm) : Tm := if tm.tmps.all (ltB n) then ⟨tm.tmps, tm.heap.take n⟩ else tm
theorem Rep.cut {ν : Nat → Nat} {tm : Tm} {a : Act} {W : World} (n : Nat) (R : Rep w0 ν tm a W) : Rep w0 ν (cutTm n tm) a W := by
  unfold cutTm
  split
  · rename_i h
    have sub : ∀ (j : Nat) (b : Blk), (tm.heap.take n)[j]? = some b → tm.heap[j]? = some b := by
      intro j b hb
      rw [List.getElem?_take] at hb
      split at hb
      · exact hb
      · cases hb
    refine ⟨R.size, R.tmps, R.defers, R.below, fun j b hb => R.heap j b (sub j b hb), fun j b hb ho => R.new j b (sub j b hb) ho, fun i j hi hj e => ?_, fun s hs => ?_⟩
    · simp only [List.length_take] at hi hj
      exact R.inj i j (by omega) (by omega) e
    · have h1 := lt_of_ltB (List.all_eq_true.1 h s hs)
      have h2 := R.wf s hs
      simp only [List.length_take]
      cases s <;> simp only [SV.lt] at h1 h2 ⊢ <;> omega
  · exact R

def askC (r : Option (XExit × St P w0)) (hs : List Nat) (n : Nat) : List Req × XExit × Tm :=
  match r with
  | some (e, st) => (st.need.map (·.1), e, cutTm n (forget hs st.toTm))
  | none => ([], .ret, ⟨[], []⟩)
theorem leads_of_endsC (hm : P.follows .mixedOrders = true) {fuel : Nat} {c : Code} {tm tm' : Tm} {its : Items P w0} {hs : List Nat} {n : Nat} {e : XExit} (he : e.runs)
    (h : askC (runC P fuel c ⟨tm, its, []⟩) hs n = told (runC P fuel c ⟨tm, its, []⟩) e tm') : Leads P w0 c tm e tm' := by
  generalize hr : runC P fuel c ⟨tm, its, []⟩ = r at h
  cases r with
  | none => simp [askC, told] at h
  | some r =>
    obtain ⟨e1, st⟩ := r
    simp only [askC, told, Prod.mk.injEq] at h
    obtain ⟨h1, rfl, rfl⟩ := h
    obtain ⟨-, hl, hs1⟩ := says_code hm c hr
    intro ν a W Q R hK
    exact hs1 he (map_eq_all h1) R fun ν' a' W' x R' => hK ν' a' W' x ((R'.forget hs).cut n)

theorem leads_loopL {c : Code} {t0 tEnd : Tm} {e : XExit} (N : Nat) (S : Nat → Tm) (h0 : List Nat) (hx : e = .ret ∨ ∃ id, e = .exit id)
    (start : forget h0 t0 = S 0) (len : ∀ k, k < N → (S k).heap.length ≤ (S (k + 1)).heap.length) (round : ∀ k, k < N → Leads P w0 c (S k) .normal (S (k + 1))) (last : Leads P w0 c (S N) e tEnd) : Leads P w0 (.loop c) t0 e tEnd := by
  have key : ∀ (d k : Nat), k + d = N → ∀ {ν : Nat → Nat} {a : Act} {W : World} {Q : Exit → Act → World → Prop}, Rep w0 ν (S k) a W →
      (∀ ν' a' W', Ext (S k).heap.length ν ν' → Rep w0 ν' tEnd a' W' → Q e.to a' W') →
      ∀ (b : Frame) (q : List Go.Item) (cs : List Frame), ∃ e a' w', Q e a' w' ∧ Arrives P (lone (b.at a (.code c :: .inLoop c :: q)) cs W) b q cs e a' w' := by
    intro d
    induction d with
    | zero =>
      intro k hk ν a W Q R hK b q cs
      obtain rfl : k = N := by omega
      obtain ⟨e', a', w', hq, harr⟩ := last (Q := fun e' a' W' => e' = e.to ∧ ∃ ν', Ext (S k).heap.length ν ν' ∧ Rep w0 ν' tEnd a' W') R (fun ν' a' W' x R' => ⟨rfl, ν', x, R'⟩) b (.inLoop c :: q) cs
      obtain ⟨rfl, ν1, x1, R1⟩ := hq
      refine ⟨_, a', w', hK ν1 a' w' x1 R1, ?_⟩
      rcases hx with rfl | ⟨id, rfl⟩
      · exact .pass (x := .inLoop c) rfl (fun _ _ => .inl (by simp [XExit.to])) harr
      · exact .pass (x := .inLoop c) rfl (fun _ _ => .inl (by simp [XExit.to])) harr
    | succ d ih =>
      intro k hk ν a W Q R hK b q cs
      have hl := len k (by omega)
      obtain ⟨e', a', w', hq, harr⟩ := round k (by omega) (Q := fun e a' W' => e = .normal ∧ ∃ ν', Ext (S k).heap.length ν ν' ∧ Rep w0 ν' (S (k + 1)) a' W') R (fun ν' a' W' x R' => ⟨rfl, ν', x, R'⟩) b (.inLoop c :: q) cs
      obtain ⟨rfl, ν1, x1, R1⟩ := hq
      obtain ⟨e2', a2, w2, hq2, harr2⟩ := ih (k + 1) (by omega) R1 (fun ν2 a2 W2 x2 R2 => hK ν2 a2 W2 (x1.trans hl x2) R2) b q cs
      exact ⟨e2', a2, w2, hq2, .of_steps (Steps.trans harr (.one step_inLoop)) harr2⟩
  intro ν a W Q R hK b q cs
  have R0 : Rep w0 ν (S 0) a W := by rw [← start]; exact R.forget h0
  have hK0 : ∀ ν' a' W', Ext (S 0).heap.length ν ν' → Rep w0 ν' tEnd a' W' → Q e.to a' W' := fun ν' a' W' x R' => hK ν' a' W' (by rw [← start] at x; exact x) R'
  obtain ⟨e', a', w', hq, harr⟩ := key N 0 (by omega) R0 hK0 b q cs
  exact ⟨e', a', w', hq, .of_steps (.one step_loop) harr⟩

/-- A loop, told by its rounds; the blocks from L on are dropped behind each. -/
structure RoundsC (P : Program) (w0 : World) (fuel : Nat) (c : Code) (t0 : Tm) where
  N : Nat
  S : Nat → Tm
  its : (k : Nat) → k < N → Items P w0
  itl : Items P w0
  h0 : List Nat
  hs : List Nat
  he : List Nat
  L : Nat
  x : XExit
  F : Tm
  start : forget h0 t0 = S 0
  len : ∀ k, (S k).heap.length = L
  round : ∀ k (hk : k < N), askC (runC P fuel c ⟨S k, its k hk, []⟩) hs L = told (runC P fuel c ⟨S k, its k hk, []⟩) .normal (S (k + 1))
  leaves : x.leaves = true
  last : askC (runC P fuel c ⟨S N, itl, []⟩) he L = told (runC P fuel c ⟨S N, itl, []⟩) x F
def RoundsC.item (hm : P.follows .mixedOrders = true) {fuel : Nat} {c : Code} {t0 : Tm} (R : RoundsC P w0 fuel c t0) : Item P w0 :=
  .loop c t0 R.x R.F (by
    have hx : R.x = .ret ∨ ∃ id, R.x = .exit id := by
      have h := R.leaves
      generalize R.x = e at h
      cases e with
      | ret => exact .inl rfl
      | exit id => exact .inr ⟨id, rfl⟩
      | normal => cases h
      | stop c => cases h
    have hrun : R.x.runs := by rcases hx with h | ⟨id, h⟩ <;> rw [h] <;> trivial
    intro ν a W Q h1 h2
    exact leads_loopL R.N R.S R.h0 hx R.start (fun k _ => by rw [R.len, R.len]; exact Nat.le_refl _) (by
      intro k hk ν a W Q h1 h2
      exact leads_of_endsC hm (e := .normal) trivial (R.round k hk) h1 h2) (by
      intro ν a W Q h1 h2
      exact leads_of_endsC hm hrun R.last h1 h2) h1 h2)
end
end Go.Ev
