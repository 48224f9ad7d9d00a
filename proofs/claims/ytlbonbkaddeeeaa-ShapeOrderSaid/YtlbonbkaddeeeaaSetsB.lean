/-
  What a set's bytes are: rising, just those of the text, as many as are counted.
-/
import Derived.Test.YtlbonbkaddeeeaaPop
set_option linter.unusedSimpArgs false
set_option linter.unusedVariables false
namespace Go.Conch

/-- The bytes of a set below 'k', rising. -/
def bytesTo (s : S4) (k : Nat) : List UInt8 := ((List.range k).filter s.mem).map UInt8.ofNat
/-- How many bytes a set has. -/
def cnt (s : S4) : Nat := pop s.a.toNat 64 + pop s.b.toNat 64 + pop s.c.toNat 64 + pop s.d.toNat 64

theorem foldl_ins (l : List UInt8) : ∀ (s : S4) (j : Nat), j < 256 → (l.foldl (fun s b => s.ins b.toNat) s).mem j = (s.mem j || decide (∃ b ∈ l, b.toNat = j)) := by
  induction l with
  | nil => intro s j _; simp
  | cons b l ih =>
    intro s j hj
    rw [List.foldl_cons, ih _ _ hj, S4.mem_ins _ _ _ b.toNat_lt hj]
    by_cases h1 : b.toNat = j
    · have h2 : j = b.toNat := h1.symm
      simp [h2]
    · have h2 : ¬ j = b.toNat := fun e => h1 e.symm
      simp [h1, h2]
theorem mem_ofBytes (l : List UInt8) (j : Nat) (hj : j < 256) : (ofBytes l).mem j = decide (∃ b ∈ l, b.toNat = j) := by
  unfold ofBytes
  rw [foldl_ins _ _ _ hj, S4.mem_zero, Bool.false_or]
theorem ofBytes_twice (l : List UInt8) : ofBytes (l ++ l) = ofBytes l := by
  apply S4.ext_mem
  intro j hj
  rw [mem_ofBytes _ _ hj, mem_ofBytes _ _ hj, decide_eq_decide]
  simp
theorem mem_bytesTo (s : S4) (b : UInt8) : b ∈ bytesTo s 256 ↔ s.mem b.toNat = true := by
  unfold bytesTo
  rw [List.mem_map]
  constructor
  · rintro ⟨j, hj, rfl⟩
    rw [List.mem_filter, List.mem_range] at hj
    have e : (UInt8.ofNat j).toNat = j := by simp; omega
    rw [e]; exact hj.2
  · intro h
    refine ⟨b.toNat, ?_, by simp⟩
    rw [List.mem_filter, List.mem_range]
    exact ⟨b.toNat_lt, h⟩
theorem bytesTo_rising (s : S4) : (bytesTo s 256).Pairwise (fun a b => a.toNat < b.toNat) := by
  unfold bytesTo
  rw [List.pairwise_map]
  have h1 : (List.range 256).Pairwise (· < ·) := List.pairwise_lt_range
  have h2 := h1.filter s.mem
  refine h2.imp_of_mem ?_
  intro a b ha hb hab
  rw [List.mem_filter, List.mem_range] at ha hb
  have ea : (UInt8.ofNat a).toNat = a := by simp; omega
  have eb : (UInt8.ofNat b).toNat = b := by simp; omega
  rw [ea, eb]; exact hab
theorem ofBytes_bytesTo (s : S4) : ofBytes (bytesTo s 256) = s := by
  apply S4.ext_mem
  intro j hj
  rw [mem_ofBytes _ _ hj]
  have e : (UInt8.ofNat j).toNat = j := by simp; omega
  have h := mem_bytesTo s (UInt8.ofNat j)
  rw [e] at h
  rw [Bool.eq_iff_iff, decide_eq_true_eq]
  constructor
  · rintro ⟨b, hb, rfl⟩
    exact (mem_bytesTo s b).1 hb
  · intro hm
    exact ⟨_, h.2 hm, e⟩
theorem countP_word (s : S4) (q : Nat) (hq : q < 4) : (List.range' (64 * q) 64).countP s.mem = pop (s.word q).toNat 64 := by
  unfold pop
  rw [List.range'_eq_map_range, List.countP_map]
  apply List.countP_congr
  intro j hj
  rw [List.mem_range] at hj
  simp only [Function.comp]
  unfold S4.mem
  have e1 : (64 * q + j) / 64 = q := by omega
  have e2 : (64 * q + j) % 64 = j := by omega
  rw [e1, e2]
theorem cnt_eq (s : S4) : cnt s = (bytesTo s 256).length := by
  unfold bytesTo
  rw [List.length_map, ← List.countP_eq_length_filter]
  have e : List.range 256 = List.range' (64 * 0) 64 ++ (List.range' (64 * 1) 64 ++ (List.range' (64 * 2) 64 ++ List.range' (64 * 3) 64)) := by decide +kernel
  rw [e, List.countP_append, List.countP_append, List.countP_append, countP_word s 0 (by omega), countP_word s 1 (by omega), countP_word s 2 (by omega), countP_word s 3 (by omega)]
  unfold cnt
  simp only [S4.word]
  omega
theorem cnt_countP (s : S4) : cnt s = (List.range 256).countP s.mem := by
  rw [cnt_eq, bytesTo, List.length_map, ← List.countP_eq_length_filter]
theorem bytesTo_len (s : S4) (k : Nat) : (bytesTo s k).length ≤ k := by
  unfold bytesTo
  have h := List.length_filter_le s.mem (List.range k)
  simpa using h
theorem cnt_or_and (s t : S4) : cnt (s.or t) + cnt (s.and t) = cnt s + cnt t := by
  rw [cnt_countP, cnt_countP, cnt_countP, cnt_countP]
  generalize List.range 256 = l
  induction l with
  | nil => rfl
  | cons j l ih =>
    simp only [List.countP_cons, S4.mem_or, S4.mem_and]
    cases s.mem j <;> cases t.mem j <;> simp <;> omega
/-! Laws. -/
theorem S4.eq_zero_iff (s : S4) : s = S4.zero ↔ ∀ j, j < 256 → s.mem j = false :=
  ⟨fun h j _ => by rw [h, S4.mem_zero], fun h => S4.ext_mem fun j hj => by rw [h j hj, S4.mem_zero]⟩
theorem less_or (a b : S4) : a.less (a.or b) = S4.zero := by
  rw [S4.eq_zero_iff]; intro j _; rw [S4.mem_less, S4.mem_or]; cases a.mem j <;> simp
theorem and_less (a b : S4) : (a.and b).less a = S4.zero := by
  rw [S4.eq_zero_iff]; intro j _; rw [S4.mem_less, S4.mem_and]; cases a.mem j <;> simp
theorem less_or_and (a b : S4) : (a.less b).or (a.and b) = a := by
  apply S4.ext_mem; intro j _; rw [S4.mem_or, S4.mem_less, S4.mem_and]; cases a.mem j <;> cases b.mem j <;> rfl
theorem less_and (a b : S4) : (a.less b).and b = S4.zero := by
  rw [S4.eq_zero_iff]; intro j _; rw [S4.mem_and, S4.mem_less]; cases a.mem j <;> cases b.mem j <;> rfl
theorem or_self (a : S4) : a.or a = a := by
  apply S4.ext_mem; intro j _; rw [S4.mem_or]; cases a.mem j <;> rfl
theorem or_comm (a b : S4) : b.or a = a.or b := by
  apply S4.ext_mem; intro j _; rw [S4.mem_or, S4.mem_or, Bool.or_comm]
theorem or_and (a b c : S4) : (a.or b).and c = (a.and c).or (b.and c) := by
  apply S4.ext_mem; intro j _; rw [S4.mem_and, S4.mem_or, S4.mem_or, S4.mem_and, S4.mem_and]; cases a.mem j <;> cases b.mem j <;> cases c.mem j <;> rfl
theorem within_iff (a b : S4) : a.less b = S4.zero ↔ a.or b = b := by
  rw [S4.eq_zero_iff]
  constructor
  · intro h
    apply S4.ext_mem; intro j hj
    have h1 := h j hj
    rw [S4.mem_less] at h1
    rw [S4.mem_or]
    cases ha : a.mem j <;> cases hb : b.mem j <;> simp_all
  · intro h j _
    rw [S4.mem_less]
    have h1 := congrArg (fun s => S4.mem s j) h
    simp only [S4.mem_or] at h1
    cases ha : a.mem j <;> cases hb : b.mem j <;> simp_all
theorem cnt_le (s : S4) : cnt s ≤ 256 := by rw [cnt_eq]; exact bytesTo_len s 256

/-! Ranges. -/
theorem clamp_of (n : Int) (h0 : 0 ≤ n) (h : n ≤ 255) : (clamp n : Int) = n := by unfold clamp; omega
theorem mem_rangeS' (lo hi : Int) (h0 : 0 ≤ lo) (h1 : lo ≤ 255) (h2 : 0 ≤ hi) (h3 : hi ≤ 255) (j : Nat) (hj : j < 256) : (rangeS lo hi).mem j = (decide (lo ≤ (j : Int)) && decide ((j : Int) ≤ hi)) := by
  rw [mem_rangeS _ _ _ hj]
  have e1 := clamp_of lo h0 h1
  have e2 := clamp_of hi h2 h3
  have e3 : decide (clamp lo ≤ j) = decide (lo ≤ (j : Int)) := by rw [decide_eq_decide]; omega
  have e4 : decide (j ≤ clamp hi) = decide ((j : Int) ≤ hi) := by rw [decide_eq_decide]; omega
  rw [e3, e4]
  by_cases h : lo ≤ hi
  · simp [h]
  · by_cases h5 : lo ≤ (j : Int)
    · have h6 : ¬ (j : Int) ≤ hi := by omega
      simp [h, h6]
    · simp [h, h5]
theorem or_ranges (lo mid hi : Int) (h0 : 0 ≤ lo) (h1 : lo ≤ mid) (h2 : mid ≤ hi) (h3 : hi ≤ 255) : (rangeS lo mid).or (rangeS mid hi) = rangeS lo hi := by
  apply S4.ext_mem
  intro j hj
  rw [S4.mem_or, mem_rangeS' _ _ (by omega) (by omega) (by omega) (by omega) _ hj, mem_rangeS' _ _ (by omega) (by omega) (by omega) (by omega) _ hj, mem_rangeS' _ _ (by omega) (by omega) (by omega) (by omega) _ hj]
  rw [Bool.eq_iff_iff]
  simp only [Bool.or_eq_true, Bool.and_eq_true, decide_eq_true_eq]
  omega
theorem cnt_zero : cnt S4.zero = 0 := by decide +kernel
theorem cnt_fromTo (lo : Nat) : ∀ n, lo + n ≤ 256 → cnt (fromTo lo n) = n := by
  intro n hn
  rw [cnt_countP]
  have h : (List.range 256).countP (fromTo lo n).mem = (List.range 256).countP (fun j => decide (lo ≤ j) && decide (j < lo + n)) := by
    apply List.countP_congr
    intro j hj
    rw [mem_fromTo _ _ _ hn (by simpa using hj)]
  rw [h]
  have e : (List.range 256) = List.range lo ++ (List.range' lo n ++ List.range' (lo + n) (256 - (lo + n))) := by
    rw [List.range_eq_range', List.range_eq_range']
    have h1 : 256 = lo + (n + (256 - (lo + n))) := by omega
    conv => lhs; rw [h1]
    rw [← List.range'_append_1, ← List.range'_append_1, Nat.zero_add]
  rw [e, List.countP_append, List.countP_append]
  have c1 : (List.range lo).countP (fun j => decide (lo ≤ j) && decide (j < lo + n)) = 0 := by
    rw [List.countP_eq_zero]
    intro j hj
    rw [List.mem_range] at hj
    have : ¬ lo ≤ j := by omega
    simp [this]
  have c2 : (List.range' lo n).countP (fun j => decide (lo ≤ j) && decide (j < lo + n)) = n := by
    have := List.countP_eq_length (p := fun j => decide (lo ≤ j) && decide (j < lo + n)) (l := List.range' lo n)
    rw [this.2, List.length_range']
    intro j hj
    rw [List.mem_range'_1] at hj
    simp [hj.1, hj.2]
  have c3 : (List.range' (lo + n) (256 - (lo + n))).countP (fun j => decide (lo ≤ j) && decide (j < lo + n)) = 0 := by
    rw [List.countP_eq_zero]
    intro j hj
    rw [List.mem_range'_1] at hj
    have : ¬ j < lo + n := by omega
    simp [this]
  rw [c1, c2, c3]
  omega
theorem cnt_rangeS (lo hi : Int) (h0 : 0 ≤ lo) (h1 : lo ≤ hi) (h2 : hi ≤ 255) : (cnt (rangeS lo hi) : Int) = hi - lo + 1 := by
  have e1 := clamp_of lo h0 (by omega)
  have e2 := clamp_of hi (by omega) h2
  rw [rangeS, if_neg (by omega), cnt_fromTo _ _ (by omega)]
  omega
theorem cnt_range_none (lo hi : Int) (h : lo < hi) : cnt (rangeS hi lo) = 0 := by
  rw [rangeS, if_pos h]; exact cnt_zero
/-- The last byte of a number. -/
theorem and255 (a : Int) : bits .and .i64 a 255 = a % 256 := by
  show IntKind.i64.wrap ((BitVec.ofInt 64 a &&& BitVec.ofInt 64 255).toNat : Int) = _
  rw [BitVec.toNat_and]
  have h2 : (BitVec.ofInt 64 255).toNat = 2 ^ 8 - 1 := rfl
  rw [h2, Nat.and_two_pow_sub_one_eq_mod, BitVec.toNat_ofInt, IntKind.wrap_i64]
  have h3 : (2 : Nat) ^ 8 = 256 := rfl
  rw [h3]
  omega

/-- The text of a set's bytes. -/
def textOf (s : S4) : ByteArray := ⟨(bytesTo s 256).toArray⟩
theorem textOf_size (s : S4) : (textOf s).size = cnt s := by
  rw [cnt_eq]; simp [textOf, ByteArray.size]
theorem textOf_le (s : S4) : (textOf s).size ≤ 256 := by
  rw [textOf_size, cnt_eq]; exact bytesTo_len s 256
theorem textOf_get (s : S4) (i : Nat) (h : i < (textOf s).size) (h' : i < (bytesTo s 256).length) : (textOf s)[i] = (bytesTo s 256)[i] := by
  simp [textOf, ByteArray.getElem_eq_getElem_data]
theorem textOf_rise (s : S4) (i : Nat) (h1 : i < (textOf s).size) (h : i + 1 < (textOf s).size) : ((textOf s)[i]).toNat < ((textOf s)[i + 1]).toNat := by
  have e := textOf_size s
  rw [cnt_eq] at e
  have e1 := textOf_get s i h1 (by omega)
  have e2 := textOf_get s (i + 1) h (by omega)
  have hp := List.pairwise_iff_getElem.1 (bytesTo_rising s) i (i + 1) (by omega) (by omega) (by omega)
  have q1 := congrArg UInt8.toNat e1
  have q2 := congrArg UInt8.toNat e2
  exact Nat.lt_of_le_of_lt (Nat.le_of_eq q1) (Nat.lt_of_lt_of_le hp (Nat.le_of_eq q2.symm))
theorem text_mem (s : ByteArray) (i : Nat) (h : i < s.size) : (ofBytes s.data.toList).mem s[i].toNat = true := by
  rw [mem_ofBytes _ _ s[i].toNat_lt, decide_eq_true_eq]
  exact ⟨s[i], by
    have : s[i] = s.data.toList[i]'(by simpa using h) := rfl
    rw [this]; exact List.getElem_mem _, rfl⟩
theorem text_some (s : ByteArray) (i : Nat) (h : i < (textOf (ofBytes s.data.toList)).size) : ∃ k, ∃ hk : k < s.size, s[k] = (textOf (ofBytes s.data.toList))[i] := by
  have e := textOf_size (ofBytes s.data.toList)
  rw [cnt_eq] at e
  have h1 : (textOf (ofBytes s.data.toList))[i] ∈ bytesTo (ofBytes s.data.toList) 256 := by
    have e1 := textOf_get (ofBytes s.data.toList) i h (by omega)
    exact (congrArg (· ∈ bytesTo (ofBytes s.data.toList) 256) e1).mpr (List.getElem_mem _)
  generalize (textOf (ofBytes s.data.toList))[i] = c at *
  rw [mem_bytesTo, mem_ofBytes _ _ c.toNat_lt, decide_eq_true_eq] at h1
  obtain ⟨b, hb, hbe⟩ := h1
  obtain ⟨k, hk, hke⟩ := List.getElem_of_mem hb
  refine ⟨k, by simpa using hk, ?_⟩
  have : s[k]'(by simpa using hk) = s.data.toList[k]'hk := rfl
  rw [this, hke]
  exact UInt8.toNat_inj.1 hbe
end Go.Conch
