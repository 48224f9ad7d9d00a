/-
  The law on ranges.
-/
import Derived.Test.YtlbonbkaddeeeaaLSet
import Derived.WalkLawsBesides
set_option linter.unusedSimpArgs false
set_option linter.unusedVariables false
namespace Go.Proofs.Ytlbonbkaddeeeaa
open Go.RowKit Go.Eng Go.Conch

set_option maxRecDepth 100000 in
set_option maxHeartbeats 8000000 in
theorem setranges_pure (a : Int) (a1 : -9223372036854775808 ≤ a) (a2 : a ≤ 9223372036854775807) (b : Int) (b1 : -9223372036854775808 ≤ b) (b2 : b ≤ 9223372036854775807) (c : Int) (c1 : -9223372036854775808 ≤ c) (c2 : c ≤ 9223372036854775807) :
    Pure Try.prog 4 #[.int .i64 a, .int .i64 b, .int .i64 c] (.bool true) := by
  intro w
  have ha := and255 a
  have hb := and255 b
  have hc := and255 c
  have A0 : 0 ≤ a % 256 := by omega
  have A1 : a % 256 ≤ 255 := by omega
  have B0 : 0 ≤ b % 256 := by omega
  have B1 : b % 256 ≤ 255 := by omega
  have C0 : 0 ≤ c % 256 := by omega
  have C1 : c % 256 ≤ 255 := by omega
  clear a1 a2 b1 b2 c1 c2
  generalize a % 256 = A at *
  generalize b % 256 = B at *
  generalize c % 256 = C at *
  obtain ⟨m, hm⟩ : ∃ m, (if B < A then B else A) = m := ⟨_, rfl⟩
  obtain ⟨M, hM⟩ : ∃ M, (if A < B then B else A) = M := ⟨_, rfl⟩
  obtain ⟨lo, hlo⟩ : ∃ lo, (if C < m then C else m) = lo := ⟨_, rfl⟩
  obtain ⟨hi, hhi⟩ : ∃ hi, (if M < C then C else M) = hi := ⟨_, rfl⟩
  have m0 : 0 ≤ m := by rw [← hm]; split <;> omega
  have mM : m ≤ M := by rw [← hm, ← hM]; split <;> split <;> omega
  have M1 : M ≤ 255 := by rw [← hM]; split <;> omega
  have lo0 : 0 ≤ lo := by rw [← hlo]; split <;> omega
  have hi1 : hi ≤ 255 := by rw [← hhi]; split <;> omega
  have lomid : lo ≤ A + B + C - lo - hi := by rw [← hlo, ← hhi, ← hm, ← hM]; split <;> split <;> split <;> split <;> omega
  have midhi : A + B + C - lo - hi ≤ hi := by rw [← hlo, ← hhi, ← hm, ← hM]; split <;> split <;> split <;> split <;> omega
  have eor := or_ranges lo (A + B + C - lo - hi) hi lo0 lomid midhi hi1
  have hcnt := cnt_rangeS m M m0 mM M1
  have hmem := fun (j : Nat) (hj : j < 256) => mem_rangeS' m M m0 (by omega) (by omega) M1 j hj
  have hne : A ≠ B → m < M := fun h => by rw [← hm, ← hM]; split <;> split <;> omega
  have HN := hide hne
  have HM := hide hmem
  have HC := hide hcnt
  have HO := hide eor
  clear hne hmem hcnt eor
  go_enter Try.func4, Try.ntmps4
  go_wp2_with (go_at_call 22; refine (Pure.go (range_pure _ _) _).mono ?_; rintro e w' ⟨rfl, x, rfl⟩)
  have hN := size_later w x
  go_loopw [8] (fun i wr => ∃ k : Nat, k ≤ 256 ∧ i = .int .i64 k ∧ Below w.heap.size w wr ∧ wr.heap[(later w x).heap.size]? = some (.cells #[.int .u64 (rangeS m M).a.toNat, .int .u64 (rangeS m M).b.toNat, .int .u64 (rangeS m M).c.toNat, .int .u64 (rangeS m M).d.toNat] 25 (0, 0))) (fun i _ => 256 - (intOf i).toNat)
  case atStart =>
    refine ⟨0, by omega, rfl, ?_, ?_⟩
    · repeat' (with_reducible (first | exact Below.refl _ _ | assumption | refine Below.drew ?_ | refine Below.alloc ?_ ?_ _ | refine Below.setCell ?_ ?_ _ | refine below_later ?_ ?_ _))
      all_goals (repeat' (with_reducible (first | exact Nat.le_refl _ | assumption | refine le_size_later ?_ | refine le_size_alloc ?_ | refine le_size_set ?_ | refine le_size_drew ?_)))
      all_goals (first | omega | (simp; done) | (simp; omega))
    · exact alloc_here rfl
  case round =>
    obtain ⟨k, hk, rfl, hb, h0⟩ := hrel
    obtain ⟨c00, c01, c02, c03, f0, l0⟩ := block_four h0
    have H0 := hide h0
    clear h0
    by_cases hlt : k < 256
    · have hmk := HM.out k hlt
      by_cases h1 : m ≤ (k : Int)
      · by_cases h2 : (k : Int) ≤ M
        · have hv : (rangeS m M).mem k = true := by rw [hmk]; simp [h1, h2]
          clear hmk
          go_wp2_with (go_at_call 20; refine (Pure.go (has_pure _ _ (by omega) (by omega)) _).mono ?_; rintro e w' ⟨rfl, x2, rfl⟩)
          go_roundw
          case rel =>
            refine ⟨k + 1, by omega, by go_num, ?_, block_later H0.out⟩
            repeat' (with_reducible (first | exact Below.refl _ _ | assumption | refine Below.drew ?_ | refine Below.alloc ?_ ?_ _ | refine Below.setCell ?_ ?_ _ | refine below_later ?_ ?_ _))
            all_goals (repeat' (with_reducible (first | exact Nat.le_refl _ | assumption | refine le_size_later ?_ | refine le_size_alloc ?_ | refine le_size_set ?_ | refine le_size_drew ?_)))
            all_goals (first | omega | (simp; done) | (simp; omega))
          case measure => simp [intOf]; omega
        · have hv : (rangeS m M).mem k = false := by rw [hmk]; simp [h1, h2]
          clear hmk
          go_wp2_with (go_at_call 20; refine (Pure.go (has_pure _ _ (by omega) (by omega)) _).mono ?_; rintro e w' ⟨rfl, x2, rfl⟩)
          go_roundw
          case rel =>
            refine ⟨k + 1, by omega, by go_num, ?_, block_later H0.out⟩
            repeat' (with_reducible (first | exact Below.refl _ _ | assumption | refine Below.drew ?_ | refine Below.alloc ?_ ?_ _ | refine Below.setCell ?_ ?_ _ | refine below_later ?_ ?_ _))
            all_goals (repeat' (with_reducible (first | exact Nat.le_refl _ | assumption | refine le_size_later ?_ | refine le_size_alloc ?_ | refine le_size_set ?_ | refine le_size_drew ?_)))
            all_goals (first | omega | (simp; done) | (simp; omega))
          case measure => simp [intOf]; omega
      · have hv : (rangeS m M).mem k = false := by rw [hmk]; simp [h1]
        clear hmk
        go_wp2_with (go_at_call 20; refine (Pure.go (has_pure _ _ (by omega) (by omega)) _).mono ?_; rintro e w' ⟨rfl, x2, rfl⟩)
        go_roundw
        case rel =>
          refine ⟨k + 1, by omega, by go_num, ?_, block_later H0.out⟩
          repeat' (with_reducible (first | exact Below.refl _ _ | assumption | refine Below.drew ?_ | refine Below.alloc ?_ ?_ _ | refine Below.setCell ?_ ?_ _ | refine below_later ?_ ?_ _))
          all_goals (repeat' (with_reducible (first | exact Nat.le_refl _ | assumption | refine le_size_later ?_ | refine le_size_alloc ?_ | refine le_size_set ?_ | refine le_size_drew ?_)))
          all_goals (first | omega | (simp; done) | (simp; omega))
        case measure => simp [intOf]; omega
    · have heq : ∀ W, Sem.run Try.prog (Op.equalIn 10000 25 ((rangeS lo (A + B + C - lo - hi)).or (rangeS (A + B + C - lo - hi) hi)).val (rangeS lo hi).val) W = .ok true W := fun W => by
        rw [eq_run, decide_eq_true HO.out]
      have hcnt := HC.out
      by_cases hAB : A = B
      · have hb1 : (A == B) = true := by simpa using hAB
        clear hAB
        go_wp2_with (first
          | (go_at_call 22; (first | (with_reducible refine (Pure.inn (range_pure _ _) _ _).mono ?_) | refine (Pure.go (range_pure _ _) _).mono ?_); rintro e w' ⟨rfl, x2, rfl⟩)
          | (go_at_call 23; (first | (with_reducible refine (Pure.inn (or_pure _ _) _ _).mono ?_) | refine (Pure.go (or_pure _ _) _).mono ?_); rintro e w' ⟨rfl, x2, rfl⟩)
          | (go_at_call 21; (first | (with_reducible refine (Pure.inn (count_pure _) _ _).mono ?_) | refine (Pure.go (count_pure _) _).mono ?_); rintro e w' ⟨rfl, x2, rfl⟩)
          | (go_at_call 17; (first | (with_reducible refine (Pure.inn awake3_pure _ _).mono ?_) | refine (Pure.go awake3_pure _).mono ?_); rintro e w' ⟨rfl, x2, rfl⟩))
        go_ret
        refine ⟨rfl, ?_⟩
        repeat' (with_reducible (first | exact Below.refl _ _ | assumption | refine Below.drew ?_ | refine Below.alloc ?_ ?_ _ | refine Below.setCell ?_ ?_ _ | refine below_later ?_ ?_ _))
        all_goals (repeat' (with_reducible (first | exact Nat.le_refl _ | assumption | refine le_size_later ?_ | refine le_size_alloc ?_ | refine le_size_set ?_ | refine le_size_drew ?_)))
        all_goals (first | omega | (simp; done) | (simp; omega))
      · have hb1 : (A == B) = false := by simpa using hAB
        have hc0 := cnt_range_none m M (HN.out hAB)
        clear hAB
        go_wp2_with (first
          | (go_at_call 22; (first | (with_reducible refine (Pure.inn (range_pure _ _) _ _).mono ?_) | refine (Pure.go (range_pure _ _) _).mono ?_); rintro e w' ⟨rfl, x2, rfl⟩)
          | (go_at_call 23; (first | (with_reducible refine (Pure.inn (or_pure _ _) _ _).mono ?_) | refine (Pure.go (or_pure _ _) _).mono ?_); rintro e w' ⟨rfl, x2, rfl⟩)
          | (go_at_call 21; (first | (with_reducible refine (Pure.inn (count_pure _) _ _).mono ?_) | refine (Pure.go (count_pure _) _).mono ?_); rintro e w' ⟨rfl, x2, rfl⟩)
          | (go_at_call 17; (first | (with_reducible refine (Pure.inn awake3_pure _ _).mono ?_) | refine (Pure.go awake3_pure _).mono ?_); rintro e w' ⟨rfl, x2, rfl⟩))
        go_ret
        refine ⟨rfl, ?_⟩
        repeat' (with_reducible (first | exact Below.refl _ _ | assumption | refine Below.drew ?_ | refine Below.alloc ?_ ?_ _ | refine Below.setCell ?_ ?_ _ | refine below_later ?_ ?_ _))
        all_goals (repeat' (with_reducible (first | exact Nat.le_refl _ | assumption | refine le_size_later ?_ | refine le_size_alloc ?_ | refine le_size_set ?_ | refine le_size_drew ?_)))
        all_goals (first | omega | (simp; done) | (simp; omega))

end Go.Proofs.Ytlbonbkaddeeeaa
