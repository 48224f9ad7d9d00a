import Derived.Test.YtcfimlllgkknhaaCuLCuts
import Derived.Test.YtcfimlllgkknhaaPPatCutsx8
/-
Texts of few letters.
-/
namespace Go.Proofs.Ytcfimlllgkknhaa.Mt
open Go.RowKit Go.Proofs.Ytcfimlllgkknhaa.PPatCuts Go.Proofs.YtcfimlllgkknhaaW.PrintWords Go.Proofs.YtcfimlllgkknhaaW.PrintLast
set_option linter.unusedSimpArgs false
set_option linter.unusedVariables false

theorem bt_low (s : ByteArray) (i : Int) : 0 ≤ bt s i := by
  unfold bt
  split
  · exact Int.natCast_nonneg _
  · exact Int.le_refl _
theorem tmod_in (b : Int) (h : 0 ≤ b) (n : Nat) (hn : 0 < n) : ∃ q : Nat, Int.tmod b (n : Int) = (q : Int) ∧ q < n := by
  obtain ⟨m, rfl⟩ := Int.eq_ofNat_of_zero_le h
  exact ⟨m % n, rfl, Nat.mod_lt _ hn⟩
theorem tame_l0 (a : ByteArray) (ha : a.size < 1000000) : ∀ (d i : Nat) (x : ByteArray), d + i = 12 → x.size = i → ∃ r : ByteArray, r.size ≤ 12 ∧ Evt (fun k => conchlaw6_Tame.l0 k a x (i : Int)) r := by
  intro d
  induction d with
  | zero =>
    intro i x hd hx
    refine ⟨x, by omega, Evt.succ ?_⟩
    by_cases h1 : (i : Int) < (a.size : Int)
    · simp only [conchlaw6_Tame.l0, if_pos h1, if_neg (show ¬ ((i : Nat) : Int) < 12 by omega)]
      exact Evt.of _
    · simp only [conchlaw6_Tame.l0, if_neg h1]
      exact Evt.of _
  | succ d ih =>
    intro i x hd hx
    by_cases h1 : (i : Int) < (a.size : Int)
    · obtain ⟨q, hq, hq2⟩ := tmod_in (bt a (i : Int)) (bt_low a _) 10 (by omega)
      have hq' : Int.tmod (bt a (i : Int)) 10 = (q : Int) := hq
      have h5 : ((q : Int) + 1) % 256 = ((q + 1 : Nat) : Int) := by omega
      have h6 : ((⟨#[97, 98, 42, 63, 91, 93, 33, 45, 97, 99]⟩ : ByteArray).extract q (q + 1)).size = 1 := by
        rw [ByteArray.size_extract]
        show min (q + 1) 10 - q = 1
        omega
      obtain ⟨r, h7, h8⟩ := ih (i + 1) (x ++ (⟨#[97, 98, 42, 63, 91, 93, 33, 45, 97, 99]⟩ : ByteArray).extract q (q + 1)) (by omega) (by rw [ByteArray.size_append, h6]; omega)
      refine ⟨r, h7, Evt.succ ?_⟩
      simp only [conchlaw6_Tame.l0, if_pos h1, if_pos (show ((i : Nat) : Int) < 12 by omega), if_pos (show (0 : Int) ≤ (i : Int) by omega), hq', if_pos (show (0 : Int) ≤ (q : Int) by omega), h5, if_pos (show ((q : Nat) : Int) ≤ ((q + 1 : Nat) : Int) by omega),
        if_pos (show ((q + 1 : Nat) : Int) ≤ 10 by omega), Int.toNat_natCast, if_pos (show x.size + ((⟨#[97, 98, 42, 63, 91, 93, 33, 45, 97, 99]⟩ : ByteArray).extract q (q + 1)).size ≤ 9223372036854775807 by omega), wn i (by omega)]
      exact h8
    · refine ⟨x, by omega, Evt.succ ?_⟩
      simp only [conchlaw6_Tame.l0, if_neg h1]
      exact Evt.of _
theorem tame_end (a : ByteArray) (ha : a.size < 1000000) : ∃ r : ByteArray, r.size ≤ 12 ∧ Evt (fun k => conchlaw6_Tame.f k a) r := tame_l0 a ha 12 0 _ rfl rfl
theorem letters_l0 (a : ByteArray) (ha : a.size < 1000000) : ∀ (d i : Nat) (x : ByteArray), d + i = 10 → x.size = i → ∃ r : ByteArray, r.size ≤ 10 ∧ Evt (fun k => conchlaw6_letters.l0 k a x (i : Int)) r := by
  intro d
  induction d with
  | zero =>
    intro i x hd hx
    refine ⟨x, by omega, Evt.succ ?_⟩
    by_cases h1 : (i : Int) < (a.size : Int)
    · simp only [conchlaw6_letters.l0, if_pos h1, if_neg (show ¬ ((i : Nat) : Int) < 10 by omega)]
      exact Evt.of _
    · simp only [conchlaw6_letters.l0, if_neg h1]
      exact Evt.of _
  | succ d ih =>
    intro i x hd hx
    by_cases h1 : (i : Int) < (a.size : Int)
    · obtain ⟨q, hq, hq2⟩ := tmod_in (bt a (i : Int)) (bt_low a _) 5 (by omega)
      have hq' : Int.tmod (bt a (i : Int)) 5 = (q : Int) := hq
      have h5 : ((q : Int) + 1) % 256 = ((q + 1 : Nat) : Int) := by omega
      have h6 : ((⟨#[97, 98, 99, 93, 45]⟩ : ByteArray).extract q (q + 1)).size = 1 := by
        rw [ByteArray.size_extract]
        show min (q + 1) 5 - q = 1
        omega
      obtain ⟨r, h7, h8⟩ := ih (i + 1) (x ++ (⟨#[97, 98, 99, 93, 45]⟩ : ByteArray).extract q (q + 1)) (by omega) (by rw [ByteArray.size_append, h6]; omega)
      refine ⟨r, h7, Evt.succ ?_⟩
      simp only [conchlaw6_letters.l0, if_pos h1, if_pos (show ((i : Nat) : Int) < 10 by omega), if_pos (show (0 : Int) ≤ (i : Int) by omega), hq', if_pos (show (0 : Int) ≤ (q : Int) by omega), h5, if_pos (show ((q : Nat) : Int) ≤ ((q + 1 : Nat) : Int) by omega),
        if_pos (show ((q + 1 : Nat) : Int) ≤ 5 by omega), Int.toNat_natCast, if_pos (show x.size + ((⟨#[97, 98, 99, 93, 45]⟩ : ByteArray).extract q (q + 1)).size ≤ 9223372036854775807 by omega), wn i (by omega)]
      exact h8
    · refine ⟨x, by omega, Evt.succ ?_⟩
      simp only [conchlaw6_letters.l0, if_neg h1]
      exact Evt.of _
theorem letters_end (a : ByteArray) (ha : a.size < 1000000) : ∃ r : ByteArray, r.size ≤ 10 ∧ Evt (fun k => conchlaw6_letters.f k a) r := letters_l0 a ha 10 0 _ rfl rfl
end Go.Proofs.Ytcfimlllgkknhaa.Mt
