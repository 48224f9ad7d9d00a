/-
  The digits of a number, as the document has them: some bytes, each a digit or a minus.
-/
import Derived.Test.YtlbonbkaddeeeaaShNone
set_option linter.unusedSimpArgs false
set_option linter.unusedVariables false
namespace Go.Proofs.Ytlbonbkaddeeeaa
open Go.RowKit Go.Eng Go.Conch Go.Ev

def digT : ByteArray := ⟨#[48, 49, 50, 51, 52, 53, 54, 55, 56, 57]⟩
def minusT : ByteArray := ⟨#[45]⟩
def uj (u : Nat) : Nat → Nat
  | 0 => u
  | j + 1 => uj u j / 10
def low (u : Nat) : Nat → ByteArray
  | 0 => tz
  | j + 1 => digT.extract (uj u j % 10) (uj u j % 10 + 1) ++ low u j
theorem uj_pow (u : Nat) : ∀ j, uj u j = u / 10 ^ j
  | 0 => by simp [uj]
  | j + 1 => by rw [uj, uj_pow u j, Nat.pow_succ, Nat.div_div_eq_div_mul]
theorem uj_le (u : Nat) : ∀ j, uj u j ≤ u
  | 0 => Nat.le_refl _
  | j + 1 => Nat.le_trans (Nat.div_le_self _ _) (uj_le u j)
theorem digT_size : digT.size = 10 := rfl
theorem dig_size (d : Nat) (h : d < 10) : (digT.extract d (d + 1)).size = 1 := by rw [ByteArray.size_extract, digT_size]; omega
theorem low_size (u : Nat) : ∀ j, (low u j).size = j
  | 0 => rfl
  | j + 1 => by rw [low, ByteArray.size_append, dig_size _ (Nat.mod_lt _ (by omega)), low_size u j]; omega
theorem low_in (u : Nat) : ∀ j, ∀ b ∈ bs (low u j), b ∈ bs digT
  | 0, b, h => by cases h
  | j + 1, b, h => by
    rw [low, bs_append, List.mem_append] at h
    rcases h with h | h
    · exact extract_mem h
    · exact low_in u j b h

theorem conv_u64 (n : Int) (W : World) : (convert 3 23 (.int .i64 n)).run Try.prog W = .ok (.int .u64 (IntKind.u64.wrap n)) W := by
  simp [convert, run_underlying Try.underlying3, run_underlying Try.underlying23, Conv.intToInt]
theorem neg_u64 (n : Int) (W : World) : (Op.unary .neg (.int .u64 n)).run Try.prog W = .ok (.int .u64 (IntKind.u64.wrap (-n))) W := by
  simp [Op.unary, Op.intArith]
def VC {w : World} (n c : Int) (h : IntKind.u64.wrap n = c) : TI w := .sem (convert 3 23 (.int .i64 n)) (.int .u64 c) (fun W _ => by rw [← h]; exact conv_u64 n W)
def VN {w : World} (n c : Int) (h : IntKind.u64.wrap (-n) = c) : TI w := .sem (Op.unary .neg (.int .u64 n)) (.int .u64 c) (fun W _ => by rw [← h]; exact neg_u64 n W)
theorem slice_semu (s : ByteArray) (a b : Nat) (h1 : a ≤ b) (h2 : b ≤ s.size) (W : World) : (Instr.sliceAt 9 (.string s) (some (.int .u64 (a : Int))) (some (.int .u64 (b : Int))) none).run Try.prog W = .ok (.string (s.extract a b)) W := by
  rw [run_sliceAt_string W 9 _ _ _ _ Try.underlying9]
  simp [Instr.slice, run_underlying Try.underlying9, Instr.sliceBounds, run_sliceBound, h1, h2]
def SU {w : World} (s : ByteArray) (a b : Nat) (h1 : a ≤ b) (h2 : b ≤ s.size) : TI w := .sem (Instr.sliceAt 9 (.string s) (some (.int .u64 (a : Int))) (some (.int .u64 (b : Int))) none) (.string (s.extract a b)) (fun W _ => slice_semu s a b h1 h2 W)
theorem wrap_un (x : Int) (y : Nat) (h : x = (y : Int)) (hy : y < 18446744073709551616) : IntKind.u64.wrap x = (y : Int) := by
  rw [h]
  simp only [IntKind.wrap_u64]
  omega

section
variable {w : World} (n : Int) (m un : Nat) (b : Bool) (hm : IntKind.u64.wrap n = (m : Int)) (hb : decide (n < 0) = b) (hun : IntKind.u64.wrap (-(m : Int)) = (un : Int))
def slots42 : List Nat := [5, 12, 13, 14, 15, 16, 17, 18, 19, 20, 21, 22, 23]
noncomputable def at42 : Option (Code × Tm) := stopAt Try.prog 42 [.int .i64 n] ([(7, VC n m hm), (9, LT .i64 3 n 0 hb), (11, VN m un hun)] : Items Try.prog w)
noncomputable def state42 (j : Nat) : Tm := setsTm (forget slots42 (tmOf (at42 (w := w) n m un b hm hb hun))) [(3, .v (.int .u64 (uj (cond b un m) j : Int))), (4, .v (.string (low (cond b un m) j)))]
noncomputable def all42 (hu : cond b un m < 18446744073709551616) (N : Nat) (hN : N < 30) (big : ∀ j, j < N → 9 < uj (cond b un m) j) (small : uj (cond b un m) N ≤ 9) :
    Rounds Try.prog w 100 (loopOf (at42 (w := w) n m un b hm hb hun)) (tmOf (at42 (w := w) n m un b hm hb hun)) where
  N := N
  S := state42 (w := w) n m un b hm hb hun
  F := state42 (w := w) n m un b hm hb hun N
  fin := rfl
  its := fun j hj => [(13, GT .u64 23 (uj (cond b un m) j) 9 (c := true) (decide_eq_true (by have := big j hj; omega))),
    (15, RI .u64 23 (uj (cond b un m) j) 10 ((uj (cond b un m) j % 10 : Nat) : Int) (by omega) (by rw [Int.tmod_eq_emod_of_nonneg (by omega)]; omega)),
    (18, PI .u64 23 ((uj (cond b un m) j % 10 : Nat) : Int) 1 ((uj (cond b un m) j % 10 + 1 : Nat) : Int) (wrap_un _ _ (by omega) (by omega))),
    (19, SU digT (uj (cond b un m) j % 10) (uj (cond b un m) j % 10 + 1) (by omega) (by rw [digT_size]; omega)),
    (21, AD (digT.extract (uj (cond b un m) j % 10) (uj (cond b un m) j % 10 + 1)) (low (cond b un m) j) (by rw [dig_size _ (by omega), low_size]; omega)),
    (23, QI .u64 23 (uj (cond b un m) j) 10 ((uj (cond b un m) j / 10 : Nat) : Int) (by omega) (wrap_un _ _ (by rw [Int.tdiv_eq_ediv_of_nonneg (by omega)]; omega) (by have := uj_le (cond b un m) j; omega)))]
  itl := [(13, GT .u64 23 (uj (cond b un m) N) 9 (c := false) (decide_eq_false (by omega)))]
  h0 := slots42
  hs := slots42
  he := []
  start := by cases b <;> kernel_rfl
  round := by intro j hj; cases b <;> kernel_rfl
  leaves := by cases b <;> kernel_rfl
  last := by cases b <;> kernel_rfl
end

def digitsT (n : Nat) (b : Bool) (N : Nat) : ByteArray := cond b (minusT ++ (digT.extract (uj n N) (uj n N + 1) ++ low n N)) (digT.extract (uj n N) (uj n N + 1) ++ low n N)
theorem digits_pure (n : Int) (h1 : -9223372036854775808 ≤ n) (h2 : n ≤ 9223372036854775807) :
    ∃ s : ByteArray, Pure Try.prog 42 #[.int .i64 n] (.string s) ∧ s ≠ tz ∧ s.size ≤ 40 ∧ ∀ c ∈ bs s, c ∈ bs digT ∨ c = 45 := by
  obtain ⟨m, hm, hmb⟩ : ∃ m : Nat, IntKind.u64.wrap n = (m : Int) ∧ m < 18446744073709551616 := by
    refine ⟨(IntKind.u64.wrap n).toNat, ?_, ?_⟩ <;> (simp only [IntKind.wrap_u64]; omega)
  obtain ⟨un, hun, hub⟩ : ∃ un : Nat, IntKind.u64.wrap (-(m : Int)) = (un : Int) ∧ un < 18446744073709551616 := by
    refine ⟨(IntKind.u64.wrap (-(m : Int))).toNat, ?_, ?_⟩ <;> (simp only [IntKind.wrap_u64]; omega)
  generalize hb : decide (n < 0) = b
  have hu : cond b un m < 18446744073709551616 := by cases b <;> simpa
  obtain ⟨N, hN, hlast, hbig⟩ : ∃ N, N < 25 ∧ uj (cond b un m) N ≤ 9 ∧ ∀ j, j < N → 9 < uj (cond b un m) j := by
    rcases first_hit (fun j => decide (uj (cond b un m) j ≤ 9)) 25 with h | ⟨N, h3, h4, h5⟩
    · exfalso
      have := h 24 (by omega)
      rw [decide_eq_false_iff_not, uj_pow] at this
      have h9 : cond b un m / 10 ^ 24 = 0 := Nat.div_eq_of_lt (Nat.lt_of_lt_of_le hu (by decide))
      omega
    · refine ⟨N, h3, of_decide_eq_true h4, fun j hj => ?_⟩
      have := of_decide_eq_false (h5 j hj)
      omega
  have d1 := dig_size (uj (cond b un m) N) (by omega)
  have l1 := low_size (cond b un m) N
  have hsz : (digT.extract (uj (cond b un m) N) (uj (cond b un m) N + 1) ++ low (cond b un m) N).size = N + 1 := by rw [ByteArray.size_append, d1, l1]; omega
  have hin : ∀ c ∈ bs (digT.extract (uj (cond b un m) N) (uj (cond b un m) N + 1) ++ low (cond b un m) N), c ∈ bs digT := fun c hc => by
    rw [bs_append, List.mem_append] at hc
    rcases hc with hc | hc
    · exact extract_mem hc
    · exact low_in _ _ c hc
  refine ⟨digitsT (cond b un m) b N, ?_, ?_, ?_, ?_⟩
  · refine pure_of_run mixed 100 (fun w => [(7, VC n m hm), (9, LT .i64 3 n 0 hb), (11, VN m un hun), (1000000, (all42 n m un b hm hb hun hu N (by omega) hbig hlast).item mixed),
      (26, PI .u64 23 (uj (cond b un m) N) 1 ((uj (cond b un m) N + 1 : Nat) : Int) (wrap_un _ _ (by omega) (by omega))),
      (27, SU digT (uj (cond b un m) N) (uj (cond b un m) N + 1) (by omega) (by rw [digT_size]; omega)),
      (29, AD (digT.extract (uj (cond b un m) N) (uj (cond b un m) N + 1)) (low (cond b un m) N) (by omega)),
      (31, LT .i64 3 n 0 hb), (33, AD minusT (digT.extract (uj (cond b un m) N) (uj (cond b un m) N + 1) ++ low (cond b un m) N) (by rw [hsz]; have : minusT.size = 1 := rfl; omega))]) fun w => ?_
    cases b <;> as_aux_lemma => kernel_rfl
  · intro h
    have h9 := congrArg ByteArray.size h
    have hm1 : minusT.size = 1 := rfl
    have h0 : (tz : ByteArray).size = 0 := rfl
    rw [h0] at h9
    cases b with
    | false => simp only [digitsT, cond_false] at h9 hsz; omega
    | true => simp only [digitsT, cond_true, ByteArray.size_append] at h9 hsz; omega
  · have hm1 : minusT.size = 1 := rfl
    cases b with
    | false => simp only [digitsT, cond_false] at hsz ⊢; omega
    | true => simp only [digitsT, cond_true] at hsz ⊢; rw [ByteArray.size_append]; omega
  · intro c hc
    cases b with
    | false => exact .inl (hin c hc)
    | true =>
      simp only [digitsT, cond_true] at hc hin
      rw [bs_append, List.mem_append] at hc
      rcases hc with hc | hc
      · right; simpa [minusT] using hc
      · exact .inl (hin c hc)
end Go.Proofs.Ytlbonbkaddeeeaa
