/-
  What comparisons and sums yield, as the computed walk takes it.
-/
import Derived.Test.YtcfimlllgkknhaaEvC
import Derived.Test.YtcfimlllgkknhaaProg
import Derived.Test.YtcfimlllgkknhaaRows
import Derived.Laws.StructEq
import Derived.ProofKit
set_option linter.unusedSimpArgs false
set_option linter.unusedVariables false
namespace Go.Proofs.Ytcfimlllgkknhaa
open Go.RowKit Go.Eng Go.Ev

theorem toList_beq (l v : ByteArray) : (l.toList == v.toList) = decide (l = v) := by
  rw [ByteArray.toList_eq, ByteArray.toList_eq, Bool.eq_iff_iff, beq_iff_eq, decide_eq_true_iff]
  exact ⟨fun h => ByteArray.ext (Array.toList_inj.1 h), fun h => by rw [h]⟩
theorem mixed : Try.prog.follows .mixedOrders = true := by kernel_rfl
abbrev TI (w : World) := Go.Ev.Item Try.prog w
def C {w : World} {f : FuncId} {args : Array Value} {v : Value} (h : PureAt Try.prog w f args v) : TI w := .call f args v h

def CB {w : World} {f : FuncId} {args : Array Value} {b c : Bool} (h : PureAt Try.prog w f args (.bool b)) (e : b = c) : TI w := .call f args (.bool c) (by rw [← e]; exact h)
theorem boo_bin (s t : Bool) (x y : Operand) (W : World) : (do eqGuard .eql 4 x y (.bool s) (.bool t); binOp .eql 4 (.bool s) (.bool t) : Sem Value).run Try.prog W = .ok (.bool (decide (s = t))) W := by
  have e : (s == t) = decide (s = t) := by cases s <;> cases t <;> rfl
  have h := run_eql_bool (P := Try.prog) W 4 s t Try.underlying4
  simp only [eqGuard, Sem.run_bind, Sem.run_pure, Result.andThen_ok]
  rw [← e]
  exact h
theorem boon_bin (s t : Bool) (x y : Operand) (W : World) : (do eqGuard .neq 4 x y (.bool s) (.bool t); binOp .neq 4 (.bool s) (.bool t) : Sem Value).run Try.prog W = .ok (.bool (!decide (s = t))) W := by
  have e : (s == t) = decide (s = t) := by cases s <;> cases t <;> rfl
  have h := run_neq_bool (P := Try.prog) W 4 s t Try.underlying4
  simp only [eqGuard, Sem.run_bind, Sem.run_pure, Result.andThen_ok]
  rw [← e]
  exact h
def EB {w : World} (s t : Bool) {b : Bool} (h : decide (s = t) = b) : TI w := .bin .eql 4 (.bool s) (.bool t) (.bool b) (by subst h; exact boo_bin s t)
def NB {w : World} (s t : Bool) {b : Bool} (h : decide (s = t) = b) : TI w := .bin .neq 4 (.bool s) (.bool t) (.bool (!b)) (by subst h; exact boon_bin s t)
theorem same {α : Type} [DecidableEq α] (x : α) : decide (x = x) = true := decide_eq_true rfl

theorem str_bin (s t : ByteArray) (x y : Operand) (W : World) : (do eqGuard .eql 9 x y (.string s) (.string t); binOp .eql 9 (.string s) (.string t) : Sem Value).run Try.prog W = .ok (.bool (decide (s = t))) W := by
  simp [eqGuard, binOp, Op.stringOp, beq_toListBytes, toList_beq]
theorem strn_bin (s t : ByteArray) (x y : Operand) (W : World) : (do eqGuard .neq 9 x y (.string s) (.string t); binOp .neq 9 (.string s) (.string t) : Sem Value).run Try.prog W = .ok (.bool (!decide (s = t))) W := by
  simp [eqGuard, binOp, Op.stringOp, beq_toListBytes, toList_beq]
def ES {w : World} (s t : ByteArray) {b : Bool} (h : decide (s = t) = b) : TI w := .bin .eql 9 (.string s) (.string t) (.bool b) (by subst h; exact str_bin s t)
def NS {w : World} (s t : ByteArray) {b : Bool} (h : decide (s = t) = b) : TI w := .bin .neq 9 (.string s) (.string t) (.bool (!b)) (by subst h; exact strn_bin s t)

theorem leq_bin (k : IntKind) (t : TypeId) (a b : Int) (x y : Operand) (W : World) : (do eqGuard .leq t x y (.int k a) (.int k b); binOp .leq t (.int k a) (.int k b) : Sem Value).run Try.prog W = .ok (.bool (decide (a ≤ b))) W := by
  simp [eqGuard, binOp, Op.intCmp]
theorem lss_bin (k : IntKind) (t : TypeId) (a b : Int) (x y : Operand) (W : World) : (do eqGuard .lss t x y (.int k a) (.int k b); binOp .lss t (.int k a) (.int k b) : Sem Value).run Try.prog W = .ok (.bool (decide (a < b))) W := by
  simp [eqGuard, binOp, Op.intCmp]
theorem gtr_bin (k : IntKind) (t : TypeId) (a b : Int) (x y : Operand) (W : World) : (do eqGuard .gtr t x y (.int k a) (.int k b); binOp .gtr t (.int k a) (.int k b) : Sem Value).run Try.prog W = .ok (.bool (decide (b < a))) W := by
  simp [eqGuard, binOp, Op.intCmp]
def LE {w : World} (k : IntKind) (t : TypeId) (a b : Int) {c : Bool} (h : decide (a ≤ b) = c) : TI w := .bin .leq t (.int k a) (.int k b) (.bool c) (by subst h; exact leq_bin k t a b)
def LT {w : World} (k : IntKind) (t : TypeId) (a b : Int) {c : Bool} (h : decide (a < b) = c) : TI w := .bin .lss t (.int k a) (.int k b) (.bool c) (by subst h; exact lss_bin k t a b)
def GT {w : World} (k : IntKind) (t : TypeId) (a b : Int) {c : Bool} (h : decide (b < a) = c) : TI w := .bin .gtr t (.int k a) (.int k b) (.bool c) (by subst h; exact gtr_bin k t a b)

theorem add_bin (s t : ByteArray) (h : s.size + t.size ≤ 9223372036854775807) (x y : Operand) (W : World) : (do eqGuard .add 9 x y (.string s) (.string t); binOp .add 9 (.string s) (.string t) : Sem Value).run Try.prog W = .ok (.string (s ++ t)) W := by
  have h2 : ¬ (((s.size + t.size : Nat) : Int) > IntKind.i64.max) := by
    show ¬ (((s.size + t.size : Nat) : Int) > 9223372036854775807)
    omega
  simp only [eqGuard, binOp, Op.stringOp, if_neg h2]
  rfl
def AD {w : World} (s t : ByteArray) (h : s.size + t.size ≤ 9223372036854775807) : TI w := .bin .add 9 (.string s) (.string t) (.string (s ++ t)) (add_bin s t h)
theorem and_bin (t : TypeId) (a b : Int) (x y : Operand) (W : World) : (do eqGuard .and t x y (.int .i64 a) (.int .i64 b); binOp .and t (.int .i64 a) (.int .i64 b) : Sem Value).run Try.prog W = .ok (.int .i64 (bits .and .i64 a b)) W := by
  simp [eqGuard, binOp, Op.intBits, bits]
theorem rem_bin (k : IntKind) (t : TypeId) (a b : Int) (h : b ≠ 0) (x y : Operand) (W : World) : (do eqGuard .rem t x y (.int k a) (.int k b); binOp .rem t (.int k a) (.int k b) : Sem Value).run Try.prog W = .ok (.int k (a.tmod b)) W := by
  simp [eqGuard, binOp, Op.intDiv, h]
theorem quo_bin (k : IntKind) (t : TypeId) (a b : Int) (h : b ≠ 0) (x y : Operand) (W : World) : (do eqGuard .quo t x y (.int k a) (.int k b); binOp .quo t (.int k a) (.int k b) : Sem Value).run Try.prog W = .ok (.int k (k.wrap (a.tdiv b))) W := by
  simp [eqGuard, binOp, Op.intDiv, h]
theorem add_bin' (k : IntKind) (t : TypeId) (a b : Int) (x y : Operand) (W : World) : (do eqGuard .add t x y (.int k a) (.int k b); binOp .add t (.int k a) (.int k b) : Sem Value).run Try.prog W = .ok (.int k (k.wrap (a + b))) W := by
  simp [eqGuard, binOp, Op.intArith]
theorem sub_bin (k : IntKind) (t : TypeId) (a b : Int) (x y : Operand) (W : World) : (do eqGuard .sub t x y (.int k a) (.int k b); binOp .sub t (.int k a) (.int k b) : Sem Value).run Try.prog W = .ok (.int k (k.wrap (a - b))) W := by
  simp [eqGuard, binOp, Op.intArith]
theorem eqi_bin (k : IntKind) (t : TypeId) (a b : Int) (x y : Operand) (W : World) : (do eqGuard .eql t x y (.int k a) (.int k b); binOp .eql t (.int k a) (.int k b) : Sem Value).run Try.prog W = .ok (.bool (decide (a = b))) W := by
  have e : (a == b) = decide (a = b) := by rw [Bool.eq_iff_iff]; simp
  simp [eqGuard, binOp, Op.intCmp, e]
def AI {w : World} (t : TypeId) (a b c : Int) (h : bits .and .i64 a b = c) : TI w := .bin .and t (.int .i64 a) (.int .i64 b) (.int .i64 c) (by subst h; exact and_bin t a b)
def RI {w : World} (k : IntKind) (t : TypeId) (a b c : Int) (h0 : b ≠ 0) (h : a.tmod b = c) : TI w := .bin .rem t (.int k a) (.int k b) (.int k c) (by subst h; exact rem_bin k t a b h0)
def QI {w : World} (k : IntKind) (t : TypeId) (a b c : Int) (h0 : b ≠ 0) (h : k.wrap (a.tdiv b) = c) : TI w := .bin .quo t (.int k a) (.int k b) (.int k c) (by subst h; exact quo_bin k t a b h0)
def PI {w : World} (k : IntKind) (t : TypeId) (a b c : Int) (h : k.wrap (a + b) = c) : TI w := .bin .add t (.int k a) (.int k b) (.int k c) (by subst h; exact add_bin' k t a b)
def MI {w : World} (k : IntKind) (t : TypeId) (a b c : Int) (h : k.wrap (a - b) = c) : TI w := .bin .sub t (.int k a) (.int k b) (.int k c) (by subst h; exact sub_bin k t a b)
def EI {w : World} (k : IntKind) (t : TypeId) (a b : Int) {c : Bool} (h : decide (a = b) = c) : TI w := .bin .eql t (.int k a) (.int k b) (.bool c) (by subst h; exact eqi_bin k t a b)

theorem slice_sem (s : ByteArray) (a b : Nat) (h1 : a ≤ b) (h2 : b ≤ s.size) (W : World) : (Instr.sliceAt 9 (.string s) (some (.int .i64 (a : Int))) (some (.int .i64 (b : Int))) none).run Try.prog W = .ok (.string (s.extract a b)) W := by
  rw [run_sliceAt_string W 9 _ _ _ _ Try.underlying9]
  have e1 : ¬ ((a : Int) < 0) := by omega
  simp [Instr.slice, run_underlying Try.underlying9, Instr.sliceBounds, run_sliceBound, h1, h2]
def SL {w : World} (s : ByteArray) (a b : Nat) (h1 : a ≤ b) (h2 : b ≤ s.size) : TI w := .sem (Instr.sliceAt 9 (.string s) (some (.int .i64 (a : Int))) (some (.int .i64 (b : Int))) none) (.string (s.extract a b)) (fun W _ => slice_sem s a b h1 h2 W)
theorem index_sem (s : ByteArray) (i : Nat) (h : i < s.size) (W : World) : (Instr.index 9 (.string s) (.int .i64 (i : Int))).run Try.prog W = .ok (.int .u8 (s[i].toNat : Int)) W := by
  have h1 : s[i]? = some s[i] := by simp [h]
  simp [Instr.index, asIntOf, run_underlying Try.underlying9, h1]
def IX {w : World} (s : ByteArray) (i : Nat) (h : i < s.size) : TI w := .sem (Instr.index 9 (.string s) (.int .i64 (i : Int))) (.int .u8 (s[i].toNat : Int)) (fun W _ => index_sem s i h W)
end Go.Proofs.Ytcfimlllgkknhaa
