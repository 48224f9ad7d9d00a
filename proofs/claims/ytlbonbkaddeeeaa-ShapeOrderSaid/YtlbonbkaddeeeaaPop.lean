/-
  How many bits: the program's count of the bits of a word is their number.
-/
import Derived.Test.YtlbonbkaddeeeaaSets
set_option linter.unusedSimpArgs false
set_option linter.unusedVariables false
namespace Go.Conch

/-- How many of the first 'n' bits stand. -/
def pop (x n : Nat) : Nat := (List.range n).countP (x.testBit ·)

theorem testBit_byte (b y j : Nat) (hb : b < 256) : (b + 256 * y).testBit j = if j < 8 then b.testBit j else y.testBit (j - 8) := by
  have h := Nat.testBit_two_pow_mul_add (i := 8) y (b := b) (by omega) j
  have e : 2 ^ 8 * y + b = b + 256 * y := by omega
  rw [← e, h]
theorem and_byte (b y k m : Nat) (hb : b < 256) (hk : k < 256) : (b + 256 * y) &&& (k + 256 * m) = (b &&& k) + 256 * (y &&& m) := by
  apply Nat.eq_of_testBit_eq
  intro j
  have hbk : b &&& k < 256 := Nat.lt_of_le_of_lt Nat.and_le_left hb
  rw [Nat.testBit_and, testBit_byte _ _ _ hb, testBit_byte _ _ _ hk, testBit_byte _ _ _ hbk]
  split
  · rw [Nat.testBit_and]
  · rw [Nat.testBit_and]
theorem pop_byte (b y n : Nat) (hb : b < 256) : pop (b + 256 * y) (8 + n) = pop b 8 + pop y n := by
  unfold pop
  rw [List.range_add, List.countP_append, List.countP_map]
  congr 1
  · apply List.countP_congr
    intro j hj
    rw [testBit_byte _ _ _ hb, if_pos (by simpa using hj)]
  · apply List.countP_congr
    intro j hj
    simp only [Function.comp]
    rw [testBit_byte _ _ _ hb, if_neg (by omega), Nat.add_sub_cancel_left]
theorem shr_and (x m k : Nat) : (x / 2 ^ k) &&& m = (x &&& (m * 2 ^ k)) / 2 ^ k := by
  rw [← Nat.shiftRight_eq_div_pow, ← Nat.shiftRight_eq_div_pow, Nat.shiftRight_and_distrib, ← Nat.shiftLeft_eq, Nat.shiftLeft_shiftRight]

/-- The first two steps, at one byte. -/
def s1 (b : Nat) : Nat := (b &&& 170) / 2 + (b &&& 85)
def s2 (b : Nat) : Nat := (b &&& 204) / 4 + (b &&& 51)
theorem byte_steps : ∀ b : Fin 256, s1 b < 256 ∧ s2 (s1 b) % 16 ≤ 4 ∧ s2 (s1 b) / 16 ≤ 4 ∧ s2 (s1 b) % 16 + s2 (s1 b) / 16 = pop b 8 ∧ (b.val &&& 170) % 2 = 0 ∧ (b.val &&& 204) % 4 = 0 ∧ (b.val &&& 170) < 256 ∧ (b.val &&& 204) < 256 ∧ (b.val &&& 85) + (b.val &&& 170) / 2 < 256 := by decide +kernel

/-- Eight bytes as a number. -/
def oct (a b c d e f g h : Nat) : Nat := a + 256 * (b + 256 * (c + 256 * (d + 256 * (e + 256 * (f + 256 * (g + 256 * (h + 256 * 0)))))))
theorem and_oct (a b c d e f g h k : Nat) (ha : a < 256) (hb : b < 256) (hc : c < 256) (hd : d < 256) (he : e < 256) (hf : f < 256) (hg : g < 256) (hh : h < 256) (hk : k < 256) :
    oct a b c d e f g h &&& oct k k k k k k k k = oct (a &&& k) (b &&& k) (c &&& k) (d &&& k) (e &&& k) (f &&& k) (g &&& k) (h &&& k) := by
  unfold oct
  rw [and_byte _ _ _ _ ha hk, and_byte _ _ _ _ hb hk, and_byte _ _ _ _ hc hk, and_byte _ _ _ _ hd hk, and_byte _ _ _ _ he hk, and_byte _ _ _ _ hf hk, and_byte _ _ _ _ hg hk, and_byte _ _ _ _ hh hk]
  rfl
theorem pop_oct (a b c d e f g h : Nat) (ha : a < 256) (hb : b < 256) (hc : c < 256) (hd : d < 256) (he : e < 256) (hf : f < 256) (hg : g < 256) (hh : h < 256) :
    pop (oct a b c d e f g h) 64 = pop a 8 + (pop b 8 + (pop c 8 + (pop d 8 + (pop e 8 + (pop f 8 + (pop g 8 + pop h 8)))))) := by
  unfold oct
  have e0 : pop 0 0 = 0 := rfl
  rw [pop_byte a _ 56 ha, pop_byte b _ 48 hb, pop_byte c _ 40 hc, pop_byte d _ 32 hd, pop_byte e _ 24 he, pop_byte f _ 16 hf, pop_byte g _ 8 hg, pop_byte h _ 0 hh, e0, Nat.add_zero]
theorem oct_of (x : Nat) (hx : x < 18446744073709551616) : ∃ a b c d e f g h : Nat, x = oct a b c d e f g h ∧ a < 256 ∧ b < 256 ∧ c < 256 ∧ d < 256 ∧ e < 256 ∧ f < 256 ∧ g < 256 ∧ h < 256 := by
  refine ⟨x % 256, x / 256 % 256, x / 65536 % 256, x / 16777216 % 256, x / 4294967296 % 256, x / 1099511627776 % 256, x / 281474976710656 % 256, x / 72057594037927936, ?_, ?_, ?_, ?_, ?_, ?_, ?_, ?_, ?_⟩
  · unfold oct; omega
  all_goals omega
theorem oct_add (a b c d e f g h a' b' c' d' e' f' g' h' : Nat) : oct a b c d e f g h + oct a' b' c' d' e' f' g' h' = oct (a + a') (b + b') (c + c') (d + d') (e + e') (f + f') (g + g') (h + h') := by
  unfold oct; omega
theorem oct_mul (k a b c d e f g h : Nat) : k * oct a b c d e f g h = oct (k * a) (k * b) (k * c) (k * d) (k * e) (k * f) (k * g) (k * h) := by
  unfold oct; simp only [Nat.mul_add, Nat.mul_left_comm k 256, Nat.mul_zero]
theorem oct_div (k a b c d e f g h : Nat) (hk : 0 < k) (ha : a % k = 0) (hb : b % k = 0) (hc : c % k = 0) (hd : d % k = 0) (he : e % k = 0) (hf : f % k = 0) (hg : g % k = 0) (hh : h % k = 0) :
    oct a b c d e f g h / k = oct (a / k) (b / k) (c / k) (d / k) (e / k) (f / k) (g / k) (h / k) := by
  obtain ⟨a, rfl⟩ := Nat.dvd_of_mod_eq_zero ha
  obtain ⟨b, rfl⟩ := Nat.dvd_of_mod_eq_zero hb
  obtain ⟨c, rfl⟩ := Nat.dvd_of_mod_eq_zero hc
  obtain ⟨d, rfl⟩ := Nat.dvd_of_mod_eq_zero hd
  obtain ⟨e, rfl⟩ := Nat.dvd_of_mod_eq_zero he
  obtain ⟨f, rfl⟩ := Nat.dvd_of_mod_eq_zero hf
  obtain ⟨g, rfl⟩ := Nat.dvd_of_mod_eq_zero hg
  obtain ⟨h, rfl⟩ := Nat.dvd_of_mod_eq_zero hh
  rw [← oct_mul, Nat.mul_div_cancel_left _ hk, Nat.mul_div_cancel_left _ hk, Nat.mul_div_cancel_left _ hk, Nat.mul_div_cancel_left _ hk, Nat.mul_div_cancel_left _ hk, Nat.mul_div_cancel_left _ hk, Nat.mul_div_cancel_left _ hk, Nat.mul_div_cancel_left _ hk, Nat.mul_div_cancel_left _ hk]
theorem step1 (a b c d e f g h : Nat) (ha : a < 256) (hb : b < 256) (hc : c < 256) (hd : d < 256) (he : e < 256) (hf : f < 256) (hg : g < 256) (hh : h < 256) :
    ((oct a b c d e f g h / 2) &&& 6148914691236517205) + (oct a b c d e f g h &&& 6148914691236517205) = oct (s1 a) (s1 b) (s1 c) (s1 d) (s1 e) (s1 f) (s1 g) (s1 h) := by
  have m : (6148914691236517205 : Nat) = oct 85 85 85 85 85 85 85 85 := by decide
  have m2 : (6148914691236517205 : Nat) * 2 ^ 1 = oct 170 170 170 170 170 170 170 170 := by decide
  have h1 := shr_and (oct a b c d e f g h) 6148914691236517205 1
  rw [m2, and_oct _ _ _ _ _ _ _ _ _ ha hb hc hd he hf hg hh (by omega)] at h1
  have e1 : (2 : Nat) ^ 1 = 2 := rfl
  rw [e1] at h1
  rw [h1, oct_div 2 _ _ _ _ _ _ _ _ (by omega) (byte_steps ⟨a, ha⟩).2.2.2.2.1 (byte_steps ⟨b, hb⟩).2.2.2.2.1 (byte_steps ⟨c, hc⟩).2.2.2.2.1 (byte_steps ⟨d, hd⟩).2.2.2.2.1 (byte_steps ⟨e, he⟩).2.2.2.2.1 (byte_steps ⟨f, hf⟩).2.2.2.2.1 (byte_steps ⟨g, hg⟩).2.2.2.2.1 (byte_steps ⟨h, hh⟩).2.2.2.2.1,
    m, and_oct _ _ _ _ _ _ _ _ _ ha hb hc hd he hf hg hh (by omega), oct_add]
  rfl
theorem step2 (a b c d e f g h : Nat) (ha : a < 256) (hb : b < 256) (hc : c < 256) (hd : d < 256) (he : e < 256) (hf : f < 256) (hg : g < 256) (hh : h < 256) :
    ((oct a b c d e f g h / 4) &&& 3689348814741910323) + (oct a b c d e f g h &&& 3689348814741910323) = oct (s2 a) (s2 b) (s2 c) (s2 d) (s2 e) (s2 f) (s2 g) (s2 h) := by
  have m : (3689348814741910323 : Nat) = oct 51 51 51 51 51 51 51 51 := by decide
  have m2 : (3689348814741910323 : Nat) * 2 ^ 2 = oct 204 204 204 204 204 204 204 204 := by decide
  have h1 := shr_and (oct a b c d e f g h) 3689348814741910323 2
  rw [m2, and_oct _ _ _ _ _ _ _ _ _ ha hb hc hd he hf hg hh (by omega)] at h1
  have e1 : (2 : Nat) ^ 2 = 4 := rfl
  rw [e1] at h1
  rw [h1, oct_div 4 _ _ _ _ _ _ _ _ (by omega) (byte_steps ⟨a, ha⟩).2.2.2.2.2.1 (byte_steps ⟨b, hb⟩).2.2.2.2.2.1 (byte_steps ⟨c, hc⟩).2.2.2.2.2.1 (byte_steps ⟨d, hd⟩).2.2.2.2.2.1 (byte_steps ⟨e, he⟩).2.2.2.2.2.1 (byte_steps ⟨f, hf⟩).2.2.2.2.2.1 (byte_steps ⟨g, hg⟩).2.2.2.2.2.1 (byte_steps ⟨h, hh⟩).2.2.2.2.2.1,
    m, and_oct _ _ _ _ _ _ _ _ _ ha hb hc hd he hf hg hh (by omega), oct_add]
  rfl
theorem low_nibble (l r : Nat) (hl : l < 16) (hr : r < 16) : (l + 16 * r) &&& 15 = l := by
  have e : (15 : Nat) = 2 ^ 4 - 1 := rfl
  rw [e, Nat.and_two_pow_sub_one_eq_mod]; omega
/-- The third step: nibbles 'l', 'u' of each byte, each at most 4. -/
theorem step3 (l0 l1 l2 l3 l4 l5 l6 l7 u0 u1 u2 u3 u4 u5 u6 u7 : Nat) (k0 : l0 ≤ 4) (k1 : l1 ≤ 4) (k2 : l2 ≤ 4) (k3 : l3 ≤ 4) (k4 : l4 ≤ 4) (k5 : l5 ≤ 4) (k6 : l6 ≤ 4) (k7 : l7 ≤ 4)
    (i0 : u0 ≤ 4) (i1 : u1 ≤ 4) (i2 : u2 ≤ 4) (i3 : u3 ≤ 4) (i4 : u4 ≤ 4) (i5 : u5 ≤ 4) (i6 : u6 ≤ 4) (i7 : u7 ≤ 4) :
    (oct (l0 + 16 * u0) (l1 + 16 * u1) (l2 + 16 * u2) (l3 + 16 * u3) (l4 + 16 * u4) (l5 + 16 * u5) (l6 + 16 * u6) (l7 + 16 * u7) / 16 +
      oct (l0 + 16 * u0) (l1 + 16 * u1) (l2 + 16 * u2) (l3 + 16 * u3) (l4 + 16 * u4) (l5 + 16 * u5) (l6 + 16 * u6) (l7 + 16 * u7)) &&& 1085102592571150095 =
      oct (l0 + u0) (l1 + u1) (l2 + u2) (l3 + u3) (l4 + u4) (l5 + u5) (l6 + u6) (l7 + u7) := by
  have m : (1085102592571150095 : Nat) = oct 15 15 15 15 15 15 15 15 := by decide
  have e : oct (l0 + 16 * u0) (l1 + 16 * u1) (l2 + 16 * u2) (l3 + 16 * u3) (l4 + 16 * u4) (l5 + 16 * u5) (l6 + 16 * u6) (l7 + 16 * u7) =
      l0 + 16 * oct (u0 + 16 * l1) (u1 + 16 * l2) (u2 + 16 * l3) (u3 + 16 * l4) (u4 + 16 * l5) (u5 + 16 * l6) (u6 + 16 * l7) u7 := by
    unfold oct; omega
  have e2 : oct (l0 + 16 * u0) (l1 + 16 * u1) (l2 + 16 * u2) (l3 + 16 * u3) (l4 + 16 * u4) (l5 + 16 * u5) (l6 + 16 * u6) (l7 + 16 * u7) / 16 =
      oct (u0 + 16 * l1) (u1 + 16 * l2) (u2 + 16 * l3) (u3 + 16 * l4) (u4 + 16 * l5) (u5 + 16 * l6) (u6 + 16 * l7) u7 := by
    rw [e]
    generalize oct (u0 + 16 * l1) (u1 + 16 * l2) (u2 + 16 * l3) (u3 + 16 * l4) (u4 + 16 * l5) (u5 + 16 * l6) (u6 + 16 * l7) u7 = z
    omega
  rw [e2, oct_add, m, and_oct _ _ _ _ _ _ _ _ _ (by omega) (by omega) (by omega) (by omega) (by omega) (by omega) (by omega) (by omega) (by omega)]
  have q : ∀ l u r : Nat, l ≤ 4 → u ≤ 4 → r ≤ 4 → (u + 16 * r + (l + 16 * u)) &&& 15 = l + u := fun l u r hl hu hr => by
    have e3 : u + 16 * r + (l + 16 * u) = (l + u) + 16 * (r + u) := by omega
    rw [e3, low_nibble _ _ (by omega) (by omega)]
  have q7 : (u7 + (l7 + 16 * u7)) &&& 15 = l7 + u7 := by
    have e3 : u7 + (l7 + 16 * u7) = (l7 + u7) + 16 * u7 := by omega
    rw [e3, low_nibble _ _ (by omega) (by omega)]
  rw [q l0 u0 l1 k0 i0 k1, q l1 u1 l2 k1 i1 k2, q l2 u2 l3 k2 i2 k3, q l3 u3 l4 k3 i3 k4, q l4 u4 l5 k4 i4 k5, q l5 u5 l6 k5 i5 k6, q l6 u6 l7 k6 i6 k7, q7]
theorem oct_1 (a b c d e f g h : Nat) (ha : a < 256) : oct a b c d e f g h / 256 = oct b c d e f g h 0 := by
  have e1 : oct a b c d e f g h = a + 256 * oct b c d e f g h 0 := by unfold oct; omega
  rw [e1]
  generalize oct b c d e f g h 0 = z
  omega
theorem oct_2 (a b c d e f g h : Nat) (ha : a < 256) (hb : b < 256) : oct a b c d e f g h / 65536 = oct c d e f g h 0 0 := by
  have e1 : oct a b c d e f g h = a + 256 * b + 65536 * oct c d e f g h 0 0 := by unfold oct; omega
  rw [e1]
  generalize oct c d e f g h 0 0 = z
  omega
theorem oct_4 (a b c d e f g h : Nat) (ha : a < 256) (hb : b < 256) (hc : c < 256) (hd : d < 256) : oct a b c d e f g h / 4294967296 = oct e f g h 0 0 0 0 := by
  have e1 : oct a b c d e f g h = a + 256 * b + 65536 * c + 16777216 * d + 4294967296 * oct e f g h 0 0 0 0 := by unfold oct; omega
  rw [e1]
  generalize oct e f g h 0 0 0 0 = z
  omega
theorem oct_low (a b c d e f g h : Nat) : oct a b c d e f g h % 128 = a % 128 := by
  have e1 : oct a b c d e f g h = a + 128 * (2 * (b + 256 * (c + 256 * (d + 256 * (e + 256 * (f + 256 * (g + 256 * (h + 256 * 0)))))))) := by unfold oct; omega
  rw [e1, Nat.add_mul_mod_self_left]
theorem oct_le {a b c d e f g h : Nat} (k : Nat) (ha : a ≤ k) (hb : b ≤ k) (hc : c ≤ k) (hd : d ≤ k) (he : e ≤ k) (hf : f ≤ k) (hg : g ≤ k) (hh : h ≤ k) : oct a b c d e f g h ≤ oct k k k k k k k k :=
  Nat.add_le_add ha (Nat.mul_le_mul_left _ (Nat.add_le_add hb (Nat.mul_le_mul_left _ (Nat.add_le_add hc (Nat.mul_le_mul_left _ (Nat.add_le_add hd (Nat.mul_le_mul_left _ (Nat.add_le_add he (Nat.mul_le_mul_left _ (Nat.add_le_add hf (Nat.mul_le_mul_left _ (Nat.add_le_add hg (Nat.mul_le_mul_left _ (Nat.add_le_add hh (Nat.le_refl _)))))))))))))))
theorem oct_lt (a b c d e f g h : Nat) (ha : a < 256) (hb : b < 256) (hc : c < 256) (hd : d < 256) (he : e < 256) (hf : f < 256) (hg : g < 256) (hh : h < 256) : oct a b c d e f g h < 18446744073709551616 :=
  Nat.lt_of_le_of_lt (oct_le 255 (by omega) (by omega) (by omega) (by omega) (by omega) (by omega) (by omega) (by omega)) (by decide)
theorem step4 (p0 p1 p2 p3 p4 p5 p6 p7 : Nat) (k0 : p0 ≤ 8) (k1 : p1 ≤ 8) (k2 : p2 ≤ 8) (k3 : p3 ≤ 8) (k4 : p4 ≤ 8) (k5 : p5 ≤ 8) (k6 : p6 ≤ 8) (k7 : p7 ≤ 8) :
    oct p0 p1 p2 p3 p4 p5 p6 p7 + oct p0 p1 p2 p3 p4 p5 p6 p7 / 256 = oct (p0 + p1) (p1 + p2) (p2 + p3) (p3 + p4) (p4 + p5) (p5 + p6) (p6 + p7) p7 := by
  rw [oct_1 _ _ _ _ _ _ _ _ (by omega), oct_add]
  rfl
theorem step5 (p0 p1 p2 p3 p4 p5 p6 p7 : Nat) (k0 : p0 ≤ 16) (k1 : p1 ≤ 16) (k2 : p2 ≤ 16) (k3 : p3 ≤ 16) (k4 : p4 ≤ 16) (k5 : p5 ≤ 16) (k6 : p6 ≤ 16) (k7 : p7 ≤ 16) :
    oct p0 p1 p2 p3 p4 p5 p6 p7 + oct p0 p1 p2 p3 p4 p5 p6 p7 / 65536 = oct (p0 + p2) (p1 + p3) (p2 + p4) (p3 + p5) (p4 + p6) (p5 + p7) p6 p7 := by
  rw [oct_2 _ _ _ _ _ _ _ _ (by omega) (by omega), oct_add]
  rfl
theorem step6 (p0 p1 p2 p3 p4 p5 p6 p7 : Nat) (k0 : p0 ≤ 32) (k1 : p1 ≤ 32) (k2 : p2 ≤ 32) (k3 : p3 ≤ 32) (k4 : p4 ≤ 32) (k5 : p5 ≤ 32) (k6 : p6 ≤ 32) (k7 : p7 ≤ 32) :
    oct p0 p1 p2 p3 p4 p5 p6 p7 + oct p0 p1 p2 p3 p4 p5 p6 p7 / 4294967296 = oct (p0 + p4) (p1 + p5) (p2 + p6) (p3 + p7) p4 p5 p6 p7 := by
  rw [oct_4 _ _ _ _ _ _ _ _ (by omega) (by omega) (by omega) (by omega), oct_add]
  rfl

set_option maxHeartbeats 2000000 in
/-- The whole count, with the bounds that keep each step within a word. -/
theorem count_bits (x : Nat) (hx : x < 18446744073709551616) : ∃ x1 x2 x3 x4 x5 x6 : Nat,
    x1 = ((x / 2) &&& 6148914691236517205) + (x &&& 6148914691236517205) ∧ x1 < 18446744073709551616 ∧
    x2 = ((x1 / 4) &&& 3689348814741910323) + (x1 &&& 3689348814741910323) ∧ x2 < 18446744073709551616 ∧
    x2 / 16 + x2 < 18446744073709551616 ∧ x3 = (x2 / 16 + x2) &&& 1085102592571150095 ∧ x3 < 18446744073709551616 ∧
    x4 = x3 + x3 / 256 ∧ x4 < 18446744073709551616 ∧ x5 = x4 + x4 / 65536 ∧ x5 < 18446744073709551616 ∧ x6 = x5 + x5 / 4294967296 ∧ x6 < 18446744073709551616 ∧
    x6 % 128 = pop x 64 := by
  obtain ⟨a, b, c, d, e, f, g, h, rfl, ha, hb, hc, hd, he, hf, hg, hh⟩ := oct_of x hx
  obtain ⟨a1, a2, a3, a4, -⟩ := byte_steps ⟨a, ha⟩
  obtain ⟨b1, b2, b3, b4, -⟩ := byte_steps ⟨b, hb⟩
  obtain ⟨c1, c2, c3, c4, -⟩ := byte_steps ⟨c, hc⟩
  obtain ⟨d1, d2, d3, d4, -⟩ := byte_steps ⟨d, hd⟩
  obtain ⟨e1, e2, e3, e4, -⟩ := byte_steps ⟨e, he⟩
  obtain ⟨f1, f2, f3, f4, -⟩ := byte_steps ⟨f, hf⟩
  obtain ⟨g1, g2, g3, g4, -⟩ := byte_steps ⟨g, hg⟩
  obtain ⟨h1, h2, h3, h4, -⟩ := byte_steps ⟨h, hh⟩
  dsimp only at *
  have q1 := step1 a b c d e f g h ha hb hc hd he hf hg hh
  have q2 := step2 (s1 a) (s1 b) (s1 c) (s1 d) (s1 e) (s1 f) (s1 g) (s1 h) a1 b1 c1 d1 e1 f1 g1 h1
  rw [pop_oct _ _ _ _ _ _ _ _ ha hb hc hd he hf hg hh, ← a4, ← b4, ← c4, ← d4, ← e4, ← f4, ← g4, ← h4]
  have l1 := oct_lt (s1 a) (s1 b) (s1 c) (s1 d) (s1 e) (s1 f) (s1 g) (s1 h) a1 b1 c1 d1 e1 f1 g1 h1
  clear a4 b4 c4 d4 e4 f4 g4 h4 a1 b1 c1 d1 e1 f1 g1 h1
  have sp : ∀ n : Nat, n = n % 16 + 16 * (n / 16) := fun n => by omega
  rw [sp (s2 (s1 a)), sp (s2 (s1 b)), sp (s2 (s1 c)), sp (s2 (s1 d)), sp (s2 (s1 e)), sp (s2 (s1 f)), sp (s2 (s1 g)), sp (s2 (s1 h))] at q2
  clear sp
  generalize s2 (s1 a) % 16 = t0 at *; generalize s2 (s1 a) / 16 = u0 at *
  generalize s2 (s1 b) % 16 = t1 at *; generalize s2 (s1 b) / 16 = u1 at *
  generalize s2 (s1 c) % 16 = t2 at *; generalize s2 (s1 c) / 16 = u2 at *
  generalize s2 (s1 d) % 16 = t3 at *; generalize s2 (s1 d) / 16 = u3 at *
  generalize s2 (s1 e) % 16 = t4 at *; generalize s2 (s1 e) / 16 = u4 at *
  generalize s2 (s1 f) % 16 = t5 at *; generalize s2 (s1 f) / 16 = u5 at *
  generalize s2 (s1 g) % 16 = t6 at *; generalize s2 (s1 g) / 16 = u6 at *
  generalize s2 (s1 h) % 16 = t7 at *; generalize s2 (s1 h) / 16 = u7 at *
  have q3 := step3 t0 t1 t2 t3 t4 t5 t6 t7 u0 u1 u2 u3 u4 u5 u6 u7 a2 b2 c2 d2 e2 f2 g2 h2 a3 b3 c3 d3 e3 f3 g3 h3
  have l2 := oct_lt (t0 + 16 * u0) (t1 + 16 * u1) (t2 + 16 * u2) (t3 + 16 * u3) (t4 + 16 * u4) (t5 + 16 * u5) (t6 + 16 * u6) (t7 + 16 * u7) (by omega) (by omega) (by omega) (by omega) (by omega) (by omega) (by omega) (by omega)
  have l2' : oct (t0 + 16 * u0) (t1 + 16 * u1) (t2 + 16 * u2) (t3 + 16 * u3) (t4 + 16 * u4) (t5 + 16 * u5) (t6 + 16 * u6) (t7 + 16 * u7) < 6148914691236517205 :=
    Nat.lt_of_le_of_lt (oct_le 70 (by omega) (by omega) (by omega) (by omega) (by omega) (by omega) (by omega) (by omega)) (by decide)
  have q4 := step4 (t0 + u0) (t1 + u1) (t2 + u2) (t3 + u3) (t4 + u4) (t5 + u5) (t6 + u6) (t7 + u7) (by omega) (by omega) (by omega) (by omega) (by omega) (by omega) (by omega) (by omega)
  have l3 := oct_lt (t0 + u0) (t1 + u1) (t2 + u2) (t3 + u3) (t4 + u4) (t5 + u5) (t6 + u6) (t7 + u7) (by omega) (by omega) (by omega) (by omega) (by omega) (by omega) (by omega) (by omega)
  have q5 := step5 (t0 + u0 + (t1 + u1)) (t1 + u1 + (t2 + u2)) (t2 + u2 + (t3 + u3)) (t3 + u3 + (t4 + u4)) (t4 + u4 + (t5 + u5)) (t5 + u5 + (t6 + u6)) (t6 + u6 + (t7 + u7)) (t7 + u7) (by omega) (by omega) (by omega) (by omega) (by omega) (by omega) (by omega) (by omega)
  have l4 := oct_lt (t0 + u0 + (t1 + u1)) (t1 + u1 + (t2 + u2)) (t2 + u2 + (t3 + u3)) (t3 + u3 + (t4 + u4)) (t4 + u4 + (t5 + u5)) (t5 + u5 + (t6 + u6)) (t6 + u6 + (t7 + u7)) (t7 + u7) (by omega) (by omega) (by omega) (by omega) (by omega) (by omega) (by omega) (by omega)
  have q6 := step6 (t0 + u0 + (t1 + u1) + (t2 + u2 + (t3 + u3))) (t1 + u1 + (t2 + u2) + (t3 + u3 + (t4 + u4))) (t2 + u2 + (t3 + u3) + (t4 + u4 + (t5 + u5))) (t3 + u3 + (t4 + u4) + (t5 + u5 + (t6 + u6))) (t4 + u4 + (t5 + u5) + (t6 + u6 + (t7 + u7))) (t5 + u5 + (t6 + u6) + (t7 + u7)) (t6 + u6 + (t7 + u7)) (t7 + u7) (by omega) (by omega) (by omega) (by omega) (by omega) (by omega) (by omega) (by omega)
  have l5 := oct_lt (t0 + u0 + (t1 + u1) + (t2 + u2 + (t3 + u3))) (t1 + u1 + (t2 + u2) + (t3 + u3 + (t4 + u4))) (t2 + u2 + (t3 + u3) + (t4 + u4 + (t5 + u5))) (t3 + u3 + (t4 + u4) + (t5 + u5 + (t6 + u6))) (t4 + u4 + (t5 + u5) + (t6 + u6 + (t7 + u7))) (t5 + u5 + (t6 + u6) + (t7 + u7)) (t6 + u6 + (t7 + u7)) (t7 + u7) (by omega) (by omega) (by omega) (by omega) (by omega) (by omega) (by omega) (by omega)
  have l6 := oct_lt (t0 + u0 + (t1 + u1) + (t2 + u2 + (t3 + u3)) + (t4 + u4 + (t5 + u5) + (t6 + u6 + (t7 + u7)))) (t1 + u1 + (t2 + u2) + (t3 + u3 + (t4 + u4)) + (t5 + u5 + (t6 + u6) + (t7 + u7))) (t2 + u2 + (t3 + u3) + (t4 + u4 + (t5 + u5)) + (t6 + u6 + (t7 + u7))) (t3 + u3 + (t4 + u4) + (t5 + u5 + (t6 + u6)) + (t7 + u7)) (t4 + u4 + (t5 + u5) + (t6 + u6 + (t7 + u7))) (t5 + u5 + (t6 + u6) + (t7 + u7)) (t6 + u6 + (t7 + u7)) (t7 + u7) (by omega) (by omega) (by omega) (by omega) (by omega) (by omega) (by omega) (by omega)
  refine ⟨_, _, _, _, _, _, q1.symm, l1, q2.symm, l2, ?_, q3.symm, l3, q4.symm, l4, q5.symm, l5, q6.symm, l6, ?_⟩
  · clear q1 q2 q3 q4 q5 q6 l1 l3 l4 l5 l6
    generalize oct (t0 + 16 * u0) (t1 + 16 * u1) (t2 + 16 * u2) (t3 + 16 * u3) (t4 + 16 * u4) (t5 + 16 * u5) (t6 + 16 * u6) (t7 + 16 * u7) = z at *
    omega
  · clear q1 q2 q3 q4 q5 q6 l1 l3 l4 l5 l6
    rw [oct_low]
    omega
end Go.Conch
