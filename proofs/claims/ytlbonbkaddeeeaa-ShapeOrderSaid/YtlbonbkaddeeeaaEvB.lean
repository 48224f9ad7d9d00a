/-
  What sums of whole numbers, parts of texts and bytes of texts yield, as the computed walk takes it.
-/
import Derived.Test.YtlbonbkaddeeeaaShLawB
set_option linter.unusedSimpArgs false
set_option linter.unusedVariables false
namespace Go.Proofs.Ytlbonbkaddeeeaa
open Go.RowKit Go.Eng Go.Conch Go.Ev

theorem and_bin (t : TypeId) (a b : Int) (x y : Operand) (W : World) : (do eqGuard .and t x y (.int .i64 a) (.int .i64 b); binOp .and t (.int .i64 a) (.int .i64 b) : Sem Value).run Try.prog W = .ok (.int .i64 (bits .and .i64 a b)) W := by
  simp [eqGuard, binOp, Op.intBits, bits]
theorem rem_bin (k : IntKind) (t : TypeId) (a b : Int) (h : b ≠ 0) (x y : Operand) (W : World) : (do eqGuard .rem t x y (.int k a) (.int k b); binOp .rem t (.int k a) (.int k b) : Sem Value).run Try.prog W = .ok (.int k (a.tmod b)) W := by
  simp [eqGuard, binOp, Op.intDiv, h]
theorem quo_bin (k : IntKind) (t : TypeId) (a b : Int) (h : b ≠ 0) (x y : Operand) (W : World) : (do eqGuard .quo t x y (.int k a) (.int k b); binOp .quo t (.int k a) (.int k b) : Sem Value).run Try.prog W = .ok (.int k (k.wrap (a.tdiv b))) W := by
  simp [eqGuard, binOp, Op.intDiv, h]
theorem add_bin' (k : IntKind) (t : TypeId) (a b : Int) (x y : Operand) (W : World) : (do eqGuard .add t x y (.int k a) (.int k b); binOp .add t (.int k a) (.int k b) : Sem Value).run Try.prog W = .ok (.int k (k.wrap (a + b))) W := by
  simp [eqGuard, binOp, Op.intArith]
theorem sub_bin (k : IntKind) (t : TypeId) (a b : Int) (x y : Operand) (W : World) : (do eqGuard .sub t x y (.int k a) (.int k b); binOp .sub t (.int k a) (.int k b) : Sem Value).run Try.prog W = .ok (.int k (k.wrap (a - b))) W := by
  simp [eqGuard, binOp, Op.intArith]
theorem eqi_bin (k : IntKind) (t : TypeId) (a b : Int) (x y : Operand) (W : World) : (do eqGuard .eql t x y (.int k a) (.int k b); binOp .eql t (.int k a) (.int k b) : Sem Value).run Try.prog W = .ok (.bool (decide (a = b))) W := by
  have e : (a == b) = decide (a = b) := by rw [Bool.eq_iff_iff]; simp
  simp [eqGuard, binOp, Op.intCmp, e]
def AI {w : World} (t : TypeId) (a b c : Int) (h : bits .and .i64 a b = c) : TI w := .bin .and t (.int .i64 a) (.int .i64 b) (.int .i64 c) (by subst h; exact and_bin t a b)
def RI {w : World} (k : IntKind) (t : TypeId) (a b c : Int) (h0 : b ≠ 0) (h : a.tmod b = c) : TI w := .bin .rem t (.int k a) (.int k b) (.int k c) (by subst h; exact rem_bin k t a b h0)
def QI {w : World} (k : IntKind) (t : TypeId) (a b c : Int) (h0 : b ≠ 0) (h : k.wrap (a.tdiv b) = c) : TI w := .bin .quo t (.int k a) (.int k b) (.int k c) (by subst h; exact quo_bin k t a b h0)
def PI {w : World} (k : IntKind) (t : TypeId) (a b c : Int) (h : k.wrap (a + b) = c) : TI w := .bin .add t (.int k a) (.int k b) (.int k c) (by subst h; exact add_bin' k t a b)
def MI {w : World} (k : IntKind) (t : TypeId) (a b c : Int) (h : k.wrap (a - b) = c) : TI w := .bin .sub t (.int k a) (.int k b) (.int k c) (by subst h; exact sub_bin k t a b)
def EI {w : World} (k : IntKind) (t : TypeId) (a b : Int) {c : Bool} (h : decide (a = b) = c) : TI w := .bin .eql t (.int k a) (.int k b) (.bool c) (by subst h; exact eqi_bin k t a b)

theorem slice_sem (s : ByteArray) (a b : Nat) (h1 : a ≤ b) (h2 : b ≤ s.size) (W : World) : (Instr.sliceAt 9 (.string s) (some (.int .i64 (a : Int))) (some (.int .i64 (b : Int))) none).run Try.prog W = .ok (.string (s.extract a b)) W := by
  rw [run_sliceAt_string W 9 _ _ _ _ Try.underlying9]
  have e1 : ¬ ((a : Int) < 0) := by omega
  simp [Instr.slice, run_underlying Try.underlying9, Instr.sliceBounds, run_sliceBound, h1, h2]
def SL {w : World} (s : ByteArray) (a b : Nat) (h1 : a ≤ b) (h2 : b ≤ s.size) : TI w := .sem (Instr.sliceAt 9 (.string s) (some (.int .i64 (a : Int))) (some (.int .i64 (b : Int))) none) (.string (s.extract a b)) (fun W _ => slice_sem s a b h1 h2 W)
theorem index_sem (s : ByteArray) (i : Nat) (h : i < s.size) (W : World) : (Instr.index 9 (.string s) (.int .i64 (i : Int))).run Try.prog W = .ok (.int .u8 (s[i].toNat : Int)) W := by
  have h1 : s[i]? = some s[i] := by simp [h]
  simp [Instr.index, asIntOf, run_underlying Try.underlying9, h1]
def IX {w : World} (s : ByteArray) (i : Nat) (h : i < s.size) : TI w := .sem (Instr.index 9 (.string s) (.int .i64 (i : Int))) (.int .u8 (s[i].toNat : Int)) (fun W _ => index_sem s i h W)
theorem extract_mem {s : ByteArray} {a b : Nat} {c : UInt8} (h : c ∈ bs (s.extract a b)) : c ∈ bs s := by
  have e : bs (s.extract a b) = ((bs s).drop a).take (b - a) := by
    show (s.extract a b).data.toList = _
    rw [ByteArray.data_extract, Array.toList_extract, List.extract_eq_take_drop]
  rw [e] at h
  exact List.mem_of_mem_drop (List.mem_of_mem_take h)
end Go.Proofs.Ytlbonbkaddeeeaa
