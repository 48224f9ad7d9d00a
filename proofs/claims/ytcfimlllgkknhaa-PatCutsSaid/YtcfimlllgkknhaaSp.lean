/-
  The computed walk, up to a place in a body: its first parts are run, and the rest is walked from what they came to; and from a later world on.
-/
import Derived.Test.YtcfimlllgkknhaaEvI
set_option linter.unusedSimpArgs false
set_option linter.unusedVariables false
namespace Go.Ev
open Go.Eng Go.RowKit

section
variable {P : Program} {w0 : World}
def spine : Nat → Code → Code
  | 0, c => c
  | n + 1, .seq _ b => spine n b
  | _ + 1, _ => .skip
def runS (P : Program) (fuel : Nat) : Nat → Code → St P w0 → Option (St P w0)
  | 0, _, st => some st
  | n + 1, .seq a b, st => match runC P fuel a st with
    | some (.normal, st') => runS P fuel n b st'
    | _ => none
  | _ + 1, _, _ => none

theorem spine_sound (hm : P.follows .mixedOrders = true) {fuel : Nat} : ∀ (n : Nat) (c : Code) {st st' : St P w0}, runS P fuel n c st = some st' →
    (∃ l, st'.need = l ++ st.need) ∧ st.heap.length ≤ st'.heap.length ∧ (Fits st'.need →
      ∀ {ν : Nat → Nat} {a : Act} {W : World} {Q : Exit → Act → World → Prop}, Rep w0 ν st.toTm a W →
        (∀ ν' a' W', Ext st.heap.length ν ν' → Rep w0 ν' st'.toTm a' W' → (spine n c).wp P Q a' W') → c.wp P Q a W) := by
  intro n
  induction n with
  | zero =>
    intro c st st' h
    simp only [runS, Option.some.injEq] at h
    subst h
    exact ⟨⟨[], rfl⟩, Nat.le_refl _, fun _ ν a W Q R hK => hK ν a W (fun _ _ => rfl) R⟩
  | succ n ih =>
    intro c st st' h
    cases c with
    | seq a b =>
      simp only [runS] at h
      split at h
      · rename_i st1 h1
        obtain ⟨n1, e1, s1⟩ := says_code hm a h1
        obtain ⟨n2, e2, s2⟩ := ih b h
        refine ⟨needs_trans n1 n2, Nat.le_trans e1 e2, fun hn ν a W Q R hK => ?_⟩
        exact wp_seq (s1 trivial (needs_of n2 hn) R fun ν1 a1 W1 x1 R1 => s2 hn R1 fun ν2 a2 W2 x2 R2 => hK ν2 a2 W2 (x1.trans e1 x2) R2)
      · cases h
    | _ => simp [runS] at h

def withN (r : Option (St P w0)) : Option (XExit × St P w0) := r.map fun s => (.normal, s)
/-- The first n parts, run with these things given, come to that state (but for what is forgotten). -/
theorem wp_spine (hm : P.follows .mixedOrders = true) {fuel n : Nat} {c : Code} {tm tm' : Tm} {its : Items P w0} (hs : List Nat)
    (h : ask (withN (runS P fuel n c ⟨tm, its, []⟩)) hs = told (withN (runS P fuel n c ⟨tm, its, []⟩)) .normal tm') {ν : Nat → Nat} {a : Act} {W : World} {Q : Exit → Act → World → Prop} (R : Rep w0 ν tm a W)
    (hK : ∀ ν' a' W', Ext tm.heap.length ν ν' → Rep w0 ν' tm' a' W' → (spine n c).wp P Q a' W') : c.wp P Q a W := by
  generalize hr : runS P fuel n c ⟨tm, its, []⟩ = r at h
  cases r with
  | none => simp [ask, told, withN] at h
  | some st =>
    simp only [ask, told, withN, Option.map_some, Prod.mk.injEq] at h
    obtain ⟨h1, -, rfl⟩ := h
    obtain ⟨-, hl, hs1⟩ := spine_sound hm n c hr
    exact hs1 (map_eq_all h1) R fun ν' a' W' x R' => hK ν' a' W' x (R'.forget hs)

/-- A whole piece of code to its end, in a call of 'fn'. -/
theorem wp_ends (hm : P.follows .mixedOrders = true) {fuel : Nat} {fn : Func} {c : Code} {tm tm' : Tm} {its : Items P w0} {v : Value}
    (h : ask (runC P fuel c ⟨tm, its, []⟩) [] = told (runC P fuel c ⟨tm, its, []⟩) .ret tm') (hr : resS P fn.results tm' = some v) {ν : Nat → Nat} {a : Act} {W : World} {post : Ending → World → Prop} (R : Rep w0 ν tm a W)
    (hK : ∀ W', Below w0.heap.size w0 W' → post (.returned v) W') : c.wp P (bodyPost P fn post) a W := by
  obtain ⟨-, hL⟩ := leads_of_ends hm (hs := []) (e := .ret) trivial h
  exact hL R fun ν' a' W' x R' => ⟨R'.defers, v, res_run R' hr, hK W' R'.below⟩
end
end Go.Ev
namespace Go.Proofs.Ytcfimlllgkknhaa
open Go.RowKit Go.Eng Go.Ev
theorem neqi_bin (k : IntKind) (t : TypeId) (a b : Int) (x y : Operand) (W : World) : (do eqGuard .neq t x y (.int k a) (.int k b); binOp .neq t (.int k a) (.int k b) : Sem Value).run Try.prog W = .ok (.bool (!decide (a = b))) W := by
  have e : (a == b) = decide (a = b) := by rw [Bool.eq_iff_iff]; simp
  simp [eqGuard, binOp, Op.intCmp, e, bne]
def NI {w : World} (k : IntKind) (t : TypeId) (a b : Int) {c : Bool} (h : decide (a = b) = c) : TI w := .bin .neq t (.int k a) (.int k b) (.bool (!c)) (by subst h; exact neqi_bin k t a b)
end Go.Proofs.Ytcfimlllgkknhaa
