/-
  Sets of bytes as four words: what the program's operations on words come to, and what a set has.
-/
import Derived.WalkKit
import Derived.KernelRfl
set_option linter.unusedSimpArgs false
set_option linter.unusedVariables false
namespace Go.Conch
open Go.RowKit

structure S4 where
  a : UInt64
  b : UInt64
  c : UInt64
  d : UInt64
  deriving DecidableEq

/-- A set as the program holds it. -/
abbrev S4.val (s : S4) : Value := .agg #[.int .u64 s.a.toNat, .int .u64 s.b.toNat, .int .u64 s.c.toNat, .int .u64 s.d.toNat]

def S4.zero : S4 := ⟨0, 0, 0, 0⟩
def S4.word (s : S4) : Nat → UInt64
  | 0 => s.a
  | 1 => s.b
  | 2 => s.c
  | _ => s.d
def S4.mem (s : S4) (k : Nat) : Bool := (s.word (k / 64)).toNat.testBit (k % 64)
/-- A word with a bit. -/
def setBit (x : UInt64) (n : Nat) : UInt64 := UInt64.ofNat (x.toNat ||| 2 ^ n)
def S4.ins (s : S4) (k : Nat) : S4 :=
  match k / 64 with
  | 0 => { s with a := setBit s.a (k % 64) }
  | 1 => { s with b := setBit s.b (k % 64) }
  | 2 => { s with c := setBit s.c (k % 64) }
  | _ => { s with d := setBit s.d (k % 64) }
def S4.or (s t : S4) : S4 := ⟨s.a ||| t.a, s.b ||| t.b, s.c ||| t.c, s.d ||| t.d⟩
def S4.and (s t : S4) : S4 := ⟨s.a &&& t.a, s.b &&& t.b, s.c &&& t.c, s.d &&& t.d⟩
def S4.less (s t : S4) : S4 := ⟨s.a &&& ~~~t.a, s.b &&& ~~~t.b, s.c &&& ~~~t.c, s.d &&& ~~~t.d⟩

/-- The set of a text's bytes. -/
def ofBytes (l : List UInt8) : S4 := l.foldl (fun s b => s.ins b.toNat) S4.zero

theorem setBit_toNat (x : UInt64) (n : Nat) (h : n < 64) : (setBit x n).toNat = x.toNat ||| 2 ^ n := by
  unfold setBit
  have h1 : x.toNat ||| 2 ^ n < 2 ^ 64 := Nat.or_lt_two_pow x.toNat_lt (Nat.pow_lt_pow_right (by omega) h)
  rw [UInt64.toNat_ofNat']
  exact Nat.mod_eq_of_lt h1

/-! What the walk's words come to. -/
theorem iv_or (x y : UInt64) : bits .or .u64 (x.toNat : Int) (y.toNat : Int) = ((x ||| y).toNat : Int) := by
  rw [u64_or_nat _ _ x.toNat_lt y.toNat_lt, UInt64.toNat_or]
theorem iv_and (x y : UInt64) : bits .and .u64 (x.toNat : Int) (y.toNat : Int) = ((x &&& y).toNat : Int) := by
  rw [u64_and_nat _ _ x.toNat_lt y.toNat_lt, UInt64.toNat_and]
theorem iv_less (x y : UInt64) : bits .andNot .u64 (x.toNat : Int) (y.toNat : Int) = ((x &&& ~~~y).toNat : Int) := by
  rw [u64_andNot_nat _ _ x.toNat_lt y.toNat_lt, UInt64.toNat_and, UInt64.toNat_not]
  rfl
theorem and63 (c : Nat) (h : c < 256) : bits .and .i64 (c : Int) 63 = ((c % 64 : Nat) : Int) := by
  have h1 : (BitVec.ofInt 64 (c : Int)).toNat = c := by
    rw [BitVec.ofInt_natCast, BitVec.toNat_ofNat]; exact Nat.mod_eq_of_lt (by omega)
  show IntKind.i64.wrap ((BitVec.ofInt 64 (c : Int) &&& BitVec.ofInt 64 63).toNat : Int) = _
  rw [BitVec.toNat_and, h1]
  have h2 : (BitVec.ofInt 64 63).toNat = 2 ^ 6 - 1 := rfl
  rw [h2, Nat.and_two_pow_sub_one_eq_mod, IntKind.wrap_i64]
  omega
theorem iv_set (x : UInt64) (c : Nat) (h : c < 256) :
    bits .or .u64 (x.toNat : Int) (IntKind.u64.wrap (2 ^ min (IntKind.u64.wrap (bits .and .i64 (c : Int) 63)).toNat 64)) = ((setBit x (c % 64)).toNat : Int) := by
  have hm : c % 64 < 64 := Nat.mod_lt _ (by omega)
  have hp : 2 ^ (c % 64) < 2 ^ 64 := Nat.pow_lt_pow_right (by omega) hm
  have e1 : IntKind.u64.wrap ((c % 64 : Nat) : Int) = ((c % 64 : Nat) : Int) := by rw [IntKind.wrap_u64]; omega
  have e2 : min (((c % 64 : Nat) : Int)).toNat 64 = c % 64 := by omega
  have e3 : (2 : Int) ^ (c % 64) = ((2 ^ (c % 64) : Nat) : Int) := by simp
  have e4 : IntKind.u64.wrap ((2 ^ (c % 64) : Nat) : Int) = ((2 ^ (c % 64) : Nat) : Int) := by
    generalize 2 ^ (c % 64) = p at hp
    rw [IntKind.wrap_u64]; omega
  rw [and63 c h, e1, e2, e3, e4, u64_or_nat _ _ x.toNat_lt hp, setBit_toNat x _ hm]
theorem iv_has (x : UInt64) (n : Nat) : (bits .and .u64 ((x.toNat : Int) / 2 ^ n) 1 == 1) = x.toNat.testBit n := by
  have e1 : (x.toNat : Int) / 2 ^ n = ((x.toNat / 2 ^ n : Nat) : Int) := by simp
  have h1 : x.toNat / 2 ^ n < 18446744073709551616 := Nat.lt_of_le_of_lt (Nat.div_le_self _ _) x.toNat_lt
  have h2 := u64_and_nat (x.toNat / 2 ^ n) 1 h1 (by omega)
  have e2 : ((1 : Nat) : Int) = 1 := rfl
  rw [e2] at h2
  rw [e1, h2, Nat.and_one_is_mod, Nat.testBit_eq_decide_div_mod_eq]
  by_cases h : x.toNat / 2 ^ n % 2 = 1
  · rw [h]; rfl
  · have h3 : x.toNat / 2 ^ n % 2 = 0 := by omega
    rw [h3]; rfl

/-! What a set has. -/
theorem S4.word_ins (s : S4) (k j : Nat) (hk : k < 256) (hj : j < 4) : (s.ins k).word j = if k / 64 = j then setBit (s.word j) (k % 64) else s.word j := by
  have h : k / 64 < 4 := by omega
  unfold S4.ins
  generalize k / 64 = q at *
  match q, j, h, hj with
  | 0, 0, _, _ => rfl
  | 0, 1, _, _ => rfl
  | 0, 2, _, _ => rfl
  | 0, 3, _, _ => rfl
  | 1, 0, _, _ => rfl
  | 1, 1, _, _ => rfl
  | 1, 2, _, _ => rfl
  | 1, 3, _, _ => rfl
  | 2, 0, _, _ => rfl
  | 2, 1, _, _ => rfl
  | 2, 2, _, _ => rfl
  | 2, 3, _, _ => rfl
  | 3, 0, _, _ => rfl
  | 3, 1, _, _ => rfl
  | 3, 2, _, _ => rfl
  | 3, 3, _, _ => rfl
theorem S4.mem_ins (s : S4) (k j : Nat) (hk : k < 256) (hj : j < 256) : (s.ins k).mem j = (decide (j = k) || s.mem j) := by
  unfold S4.mem
  rw [S4.word_ins s k (j / 64) hk (by omega)]
  have hm : k % 64 < 64 := Nat.mod_lt _ (by omega)
  by_cases h : k / 64 = j / 64
  · rw [if_pos h, setBit_toNat _ _ hm, Nat.testBit_or, Nat.testBit_two_pow, Bool.or_comm]
    congr 1
    rw [decide_eq_decide]
    omega
  · rw [if_neg h]
    have : ¬ j = k := fun e => h (by rw [e])
    simp [this]
theorem S4.mem_or (s t : S4) (j : Nat) : (s.or t).mem j = (s.mem j || t.mem j) := by
  unfold S4.mem
  have h : (s.or t).word (j / 64) = s.word (j / 64) ||| t.word (j / 64) := by
    generalize j / 64 = q
    match q with
    | 0 => rfl
    | 1 => rfl
    | 2 => rfl
    | _ + 3 => rfl
  rw [h, UInt64.toNat_or, Nat.testBit_or]
theorem S4.mem_and (s t : S4) (j : Nat) : (s.and t).mem j = (s.mem j && t.mem j) := by
  unfold S4.mem
  have h : (s.and t).word (j / 64) = s.word (j / 64) &&& t.word (j / 64) := by
    generalize j / 64 = q
    match q with
    | 0 => rfl
    | 1 => rfl
    | 2 => rfl
    | _ + 3 => rfl
  rw [h, UInt64.toNat_and, Nat.testBit_and]
theorem testBit_not64 (x : UInt64) (n : Nat) (h : n < 64) : (~~~x).toNat.testBit n = !x.toNat.testBit n := by
  rw [← UInt64.toNat_toBitVec, ← UInt64.toNat_toBitVec, BitVec.testBit_toNat, BitVec.testBit_toNat, UInt64.toBitVec_not, BitVec.getLsbD_not]
  simp [h]
theorem S4.mem_less (s t : S4) (j : Nat) : (s.less t).mem j = (s.mem j && !t.mem j) := by
  unfold S4.mem
  have h : (s.less t).word (j / 64) = s.word (j / 64) &&& ~~~t.word (j / 64) := by
    generalize j / 64 = q
    match q with
    | 0 => rfl
    | 1 => rfl
    | 2 => rfl
    | _ + 3 => rfl
  rw [h, UInt64.toNat_and, Nat.testBit_and, testBit_not64 _ _ (Nat.mod_lt _ (by omega))]
theorem S4.mem_zero (j : Nat) : S4.zero.mem j = false := by
  unfold S4.mem
  have h : S4.zero.word (j / 64) = 0 := by
    generalize j / 64 = q
    match q with
    | 0 => rfl
    | 1 => rfl
    | 2 => rfl
    | _ + 3 => rfl
  rw [h]
  exact Nat.zero_testBit _
theorem word_ext {x y : UInt64} (h : ∀ n, n < 64 → x.toNat.testBit n = y.toNat.testBit n) : x = y := by
  apply UInt64.toNat_inj.1
  apply Nat.eq_of_testBit_eq
  intro n
  by_cases hn : n < 64
  · exact h n hn
  · have e : ∀ z : UInt64, z.toNat.testBit n = false := fun z => Nat.testBit_lt_two_pow (Nat.lt_of_lt_of_le z.toNat_lt (Nat.pow_le_pow_right (by omega) (by omega)))
    rw [e, e]
theorem S4.ext_mem {s t : S4} (h : ∀ j, j < 256 → s.mem j = t.mem j) : s = t := by
  have hw : ∀ q, q < 4 → s.word q = t.word q := fun q hq => word_ext fun n hn => by
    have h1 := h (64 * q + n) (by omega)
    unfold S4.mem at h1
    have e1 : (64 * q + n) / 64 = q := by omega
    have e2 : (64 * q + n) % 64 = n := by omega
    rwa [e1, e2] at h1
  obtain ⟨a, b, c, d⟩ := s
  obtain ⟨a', b', c', d'⟩ := t
  have h0 := hw 0 (by omega)
  have h1 := hw 1 (by omega)
  have h2 := hw 2 (by omega)
  have h3 := hw 3 (by omega)
  simp only [S4.word] at h0 h1 h2 h3
  subst h0 h1 h2 h3
  rfl

theorem ofBytes_take (s : ByteArray) (k : Nat) (h : k < s.size) : ofBytes (s.data.toList.take (k + 1)) = (ofBytes (s.data.toList.take k)).ins s[k].toNat := by
  unfold ofBytes
  rw [List.take_succ_eq_append_getElem (by simpa using h), List.foldl_append]
  rfl
theorem byte_wrap (b : UInt8) : IntKind.i64.wrap (b.toNat : Int) = b.toNat := by have := b.toNat_lt; rw [IntKind.wrap_i64]; omega

/-- The bytes from 'lo' on, so many. -/
def fromTo (lo : Nat) : Nat → S4
  | 0 => S4.zero
  | n + 1 => (fromTo lo n).ins (lo + n)
theorem mem_fromTo (lo : Nat) : ∀ n j : Nat, lo + n ≤ 256 → j < 256 → (fromTo lo n).mem j = (decide (lo ≤ j) && decide (j < lo + n))
  | 0, j, _, _ => by
    rw [fromTo, S4.mem_zero]
    by_cases h : lo ≤ j
    · have h2 : ¬ j < lo + 0 := by omega
      simp only [h2, decide_false, Bool.and_false]
    · simp only [h, decide_false, Bool.false_and]
  | n + 1, j, hn, hj => by
    rw [fromTo, S4.mem_ins _ _ _ (by omega) hj, mem_fromTo lo n j (by omega) hj]
    by_cases h1 : j = lo + n
    · have h2 : lo ≤ j := by omega
      have h3 : j < lo + (n + 1) := by omega
      simp only [h1, h2, h3, decide_true, Bool.true_or, Bool.and_self] at *
      simp
    · by_cases h2 : lo ≤ j
      · by_cases h3 : j < lo + n
        · have h4 : j < lo + (n + 1) := by omega
          simp [h1, h2, h3, h4]
        · have h4 : ¬ j < lo + (n + 1) := by omega
          simp [h1, h2, h3, h4]
      · simp [h1, h2]
/-- A bound, brought among the bytes. -/
def clamp (n : Int) : Nat := (min (max n 0) 255).toNat
theorem clamp_le (n : Int) : clamp n ≤ 255 := by unfold clamp; omega
/-- What Range comes to. -/
def rangeS (lo hi : Int) : S4 := if hi < lo then S4.zero else fromTo (clamp lo) (clamp hi + 1 - clamp lo)
theorem mem_rangeS (lo hi : Int) (j : Nat) (hj : j < 256) : (rangeS lo hi).mem j = (decide (lo ≤ hi) && (decide (clamp lo ≤ j) && decide (j ≤ clamp hi))) := by
  unfold rangeS
  have h1 := clamp_le lo
  have h2 := clamp_le hi
  by_cases h : hi < lo
  · have h3 : ¬ lo ≤ hi := by omega
    rw [if_pos h, S4.mem_zero]
    simp only [h3, decide_false, Bool.false_and]
  · have h3 : lo ≤ hi := by omega
    have h4 : clamp lo ≤ clamp hi := by unfold clamp; omega
    rw [if_neg h, mem_fromTo _ _ _ (by omega) hj]
    have h5 : clamp lo + (clamp hi + 1 - clamp lo) = clamp hi + 1 := by omega
    rw [h5]
    have h6 : decide (j < clamp hi + 1) = decide (j ≤ clamp hi) := by rw [decide_eq_decide]; omega
    simp [h3, h6]
/-- The reference's loop. -/
def refLoop (lo hi : Int) : Nat → S4
  | 0 => S4.zero
  | n + 1 => if max lo 0 ≤ (n : Int) ∧ (n : Int) ≤ hi then (refLoop lo hi n).ins n else refLoop lo hi n
theorem mem_refLoop (lo hi : Int) : ∀ n j : Nat, n ≤ 256 → j < 256 → (refLoop lo hi n).mem j = (decide (j < n) && decide (max lo 0 ≤ (j : Int) ∧ (j : Int) ≤ hi))
  | 0, j, _, _ => by rw [refLoop, S4.mem_zero]; simp
  | n + 1, j, hn, hj => by
    rw [refLoop]
    have ih := mem_refLoop lo hi n j (by omega) hj
    by_cases h1 : j = n
    · subst h1
      have h2 : ¬ j < j := by omega
      by_cases h : max lo 0 ≤ (j : Int) ∧ (j : Int) ≤ hi
      · rw [if_pos h, S4.mem_ins _ _ _ (by omega) hj]
        simp [h]
      · rw [if_neg h, ih]
        simp [h]
    · have h3 : decide (j < n + 1) = decide (j < n) := by rw [decide_eq_decide]; omega
      rw [h3]
      split
      · rw [S4.mem_ins _ _ _ (by omega) hj, ih]
        simp [h1]
      · exact ih
/-- What the reference's Range comes to: the same. -/
def refRange (lo hi : Int) : S4 :=
  if lo ≤ hi ∧ hi < 0 then (refLoop lo hi 256).ins 0 else if lo ≤ hi ∧ lo > 255 then (refLoop lo hi 256).ins 255 else refLoop lo hi 256
theorem refRange_eq (lo hi : Int) : refRange lo hi = rangeS lo hi := by
  apply S4.ext_mem
  intro j hj
  rw [mem_rangeS lo hi j hj]
  unfold refRange
  by_cases h1 : lo ≤ hi ∧ hi < 0
  · rw [if_pos h1, S4.mem_ins _ _ _ (by omega) hj, mem_refLoop _ _ _ _ (Nat.le_refl _) hj]
    have e1 : clamp lo = 0 := by unfold clamp; omega
    have e2 : clamp hi = 0 := by unfold clamp; omega
    have e3 : ¬ (max lo 0 ≤ (j : Int) ∧ (j : Int) ≤ hi) := by omega
    rw [e1, e2]
    have e4 : decide (j = 0) = decide (j ≤ 0) := by rw [decide_eq_decide]; omega
    simp only [e3, h1.1, e4, decide_true, decide_false, Bool.and_false, Bool.or_false, Bool.true_and, Nat.zero_le]
  · rw [if_neg h1]
    by_cases h2 : lo ≤ hi ∧ lo > 255
    · rw [if_pos h2, S4.mem_ins _ _ _ (by omega) hj, mem_refLoop _ _ _ _ (Nat.le_refl _) hj]
      have e1 : clamp lo = 255 := by unfold clamp; omega
      have e2 : clamp hi = 255 := by unfold clamp; omega
      have e3 : ¬ (max lo 0 ≤ (j : Int) ∧ (j : Int) ≤ hi) := by omega
      rw [e1, e2]
      have e4 : decide (255 ≤ j) = decide (j = 255) := by rw [decide_eq_decide]; omega
      have e5 : j ≤ 255 := by omega
      simp only [e3, h2.1, e4, e5, decide_true, decide_false, Bool.and_false, Bool.or_false, Bool.true_and, Bool.and_true]
    · rw [if_neg h2, mem_refLoop _ _ _ _ (Nat.le_refl _) hj]
      have e0 : decide (j < 256) = true := by simp [hj]
      rw [e0, Bool.true_and]
      by_cases h3 : lo ≤ hi
      · have e1 : (clamp lo : Int) = max lo 0 := by unfold clamp; omega
        have e2 : (clamp hi : Int) = min hi 255 := by unfold clamp; omega
        have e3 : decide (max lo 0 ≤ (j : Int) ∧ (j : Int) ≤ hi) = (decide (clamp lo ≤ j) && decide (j ≤ clamp hi)) := by
          rw [← Bool.decide_and, decide_eq_decide]; omega
        rw [e3]
        simp [h3]
      · have e3 : ¬ (max lo 0 ≤ (j : Int) ∧ (j : Int) ≤ hi) := by omega
        simp [h3, e3]
end Go.Conch
