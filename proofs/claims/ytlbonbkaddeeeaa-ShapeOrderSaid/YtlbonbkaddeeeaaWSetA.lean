/-
  The walks of the functions on sets, with loops: each comes to its plain function.
-/
import Derived.Test.YtlbonbkaddeeeaaRows
import Derived.Test.YtlbonbkaddeeeaaEng
import Derived.Test.YtlbonbkaddeeeaaSets
import Derived.StillTailTactics
set_option linter.unusedSimpArgs false
set_option linter.unusedVariables false
namespace Go.Proofs.Ytlbonbkaddeeeaa
open Go.RowKit Go.Eng Go.Conch

set_option maxHeartbeats 1000000 in
theorem with_pure (s : S4) (c : Int) (h0 : 0 ≤ c) (h : c < 256) : Pure Try.prog 80 #[s.val, .int .i64 c] (s.ins c.toNat).val := by
  obtain ⟨n, rfl⟩ := Int.eq_ofNat_of_zero_le h0
  rw [Int.toNat_natCast]
  intro w
  have hn : n < 256 := by omega
  have hq : n / 64 = 0 ∨ n / 64 = 1 ∨ n / 64 = 2 ∨ n / 64 = 3 := by omega
  rcases hq with hq | hq | hq | hq
  all_goals
    have h6 := congrArg (fun n : Nat => (n : Int)) hq
    simp only [Int.natCast_ediv, Int.cast_ofNat_Int] at h6
    have HQ := hide hq
    have HH := hide hn
    clear hq hn h0
    go_enter Try.func80, Try.ntmps80
    go_wp2
    refine bodyPost_ret (v := (s.ins n).val) ?_ rfl ⟨rfl, ?_⟩
    · simp [results, Try.results80, go_sem, S4.ins, HQ.out, iv_set _ _ HH.out]
    · repeat' (with_reducible (first | exact Below.refl _ _ | assumption | refine Below.drew ?_ | refine Below.alloc ?_ ?_ _ | refine Below.setCell ?_ ?_ _ | refine below_later ?_ ?_ _))
      all_goals (repeat' (with_reducible (first | exact Nat.le_refl _ | assumption | refine le_size_later ?_ | refine le_size_alloc ?_ | refine le_size_set ?_ | refine le_size_drew ?_)))
      all_goals (first | omega | (simp; done) | (simp; omega))

set_option maxHeartbeats 1000000 in
theorem has_pure (s : S4) (c : Int) (h0 : 0 ≤ c) (h : c < 256) : Pure Try.prog 20 #[s.val, .int .u8 c] (.bool (s.mem c.toNat)) := by
  obtain ⟨n, rfl⟩ := Int.eq_ofNat_of_zero_le h0
  rw [Int.toNat_natCast]
  intro w
  have hn : n < 256 := by omega
  have hq : n / 64 = 0 ∨ n / 64 = 1 ∨ n / 64 = 2 ∨ n / 64 = 3 := by omega
  rcases hq with hq | hq | hq | hq
  all_goals
    have h6 := congrArg (fun n : Nat => (n : Int)) hq
    simp only [Int.natCast_ediv, Int.cast_ofNat_Int] at h6
    have HQ := hide hq
    clear hq h0
    go_enter Try.func20, Try.ntmps20
    go_wp2
    go_ret
    refine ⟨?_, ?_⟩
    · simp [S4.mem, S4.word, HQ.out, iv_has]
    · repeat' (with_reducible (first | exact Below.refl _ _ | assumption | refine Below.drew ?_ | refine Below.alloc ?_ ?_ _ | refine Below.setCell ?_ ?_ _ | refine below_later ?_ ?_ _))
      all_goals (repeat' (with_reducible (first | exact Nat.le_refl _ | assumption | refine le_size_later ?_ | refine le_size_alloc ?_ | refine le_size_set ?_ | refine le_size_drew ?_)))
      all_goals (first | omega | (simp; done) | (simp; omega))

theorem and3 (k : Int) (h : k = 0 ∨ k = 1 ∨ k = 2 ∨ k = 3) : bits .and .i64 k 3 = k := by
  rcases h with rfl | rfl | rfl | rfl <;> decide
theorem and63i (c : Nat) (h : c < 256) : bits .and .i64 (c : Int) 63 = (c : Int) % 64 := by rw [and63 c h]; omega

set_option maxHeartbeats 1000000 in
theorem refhas_pure (s : S4) (c : Int) (h0 : 0 ≤ c) (h : c < 256) : Pure Try.prog 24 #[s.val, .int .i64 c] (.bool (s.mem c.toNat)) := by
  obtain ⟨n, rfl⟩ := Int.eq_ofNat_of_zero_le h0
  rw [Int.toNat_natCast]
  intro w
  have hn : n < 256 := by omega
  have h63 := and63i n hn
  have hq : n / 64 = 0 ∨ n / 64 = 1 ∨ n / 64 = 2 ∨ n / 64 = 3 := by omega
  rcases hq with hq | hq | hq | hq
  all_goals
    have h6 := congrArg (fun n : Nat => (n : Int)) hq
    simp only [Int.natCast_ediv, Int.cast_ofNat_Int] at h6
    have h3 := and3 ((n : Int) / 64) (by omega)
    rw [h6] at h3
    have HQ := hide hq
    clear hq h0
    go_enter Try.func24, Try.ntmps24
    go_wp2
    go_ret
    refine ⟨?_, ?_⟩
    · simp [S4.mem, S4.word, HQ.out, iv_has]
    · repeat' (with_reducible (first | exact Below.refl _ _ | assumption | refine Below.drew ?_ | refine Below.alloc ?_ ?_ _ | refine Below.setCell ?_ ?_ _ | refine below_later ?_ ?_ _))
      all_goals (repeat' (with_reducible (first | exact Nat.le_refl _ | assumption | refine le_size_later ?_ | refine le_size_alloc ?_ | refine le_size_set ?_ | refine le_size_drew ?_)))
      all_goals (first | omega | (simp; done) | (simp; omega))

theorem iv_set' (x : UInt64) (c : Nat) (h : c < 256) :
    bits .or .u64 (x.toNat : Int) (IntKind.u64.wrap (2 ^ (c % 64))) = ((setBit x (c % 64)).toNat : Int) := by
  have hm : c % 64 < 64 := Nat.mod_lt _ (by omega)
  have hp : 2 ^ (c % 64) < 2 ^ 64 := Nat.pow_lt_pow_right (by omega) hm
  have e3 : (2 : Int) ^ (c % 64) = ((2 ^ (c % 64) : Nat) : Int) := by simp
  have e4 : IntKind.u64.wrap ((2 ^ (c % 64) : Nat) : Int) = ((2 ^ (c % 64) : Nat) : Int) := by
    generalize 2 ^ (c % 64) = p at hp
    rw [IntKind.wrap_u64]; omega
  rw [e3, e4, u64_or_nat _ _ x.toNat_lt hp, setBit_toNat x _ hm]

set_option maxHeartbeats 1000000 in
theorem refwith_pure (s : S4) (c : Int) (h0 : 0 ≤ c) (h : c < 256) : Pure Try.prog 82 #[s.val, .int .i64 c] (s.ins c.toNat).val := by
  obtain ⟨n, rfl⟩ := Int.eq_ofNat_of_zero_le h0
  rw [Int.toNat_natCast]
  intro w
  have hn : n < 256 := by omega
  have h63 := and63i n hn
  have hq : n / 64 = 0 ∨ n / 64 = 1 ∨ n / 64 = 2 ∨ n / 64 = 3 := by omega
  rcases hq with hq | hq | hq | hq
  all_goals
    have h6 := congrArg (fun n : Nat => (n : Int)) hq
    simp only [Int.natCast_ediv, Int.cast_ofNat_Int] at h6
    have h3 := and3 ((n : Int) / 64) (by omega)
    rw [h6] at h3
    have HQ := hide hq
    have HH := hide hn
    clear hq hn h0
    go_enter Try.func82, Try.ntmps82
    go_wp2
    refine region_drew_tail 13 (by kernel_rfl) (by kernel_rfl) ?_
    simp only [List.take_succ_cons, List.take_zero, List.drop_succ_cons, List.drop_zero]
    repeat still_step
    refine wpStill_nil ?_
    go_wp2
    refine bodyPost_ret (v := (s.ins n).val) ?_ rfl ⟨rfl, ?_⟩
    · simp [results, Try.results82, go_sem, S4.ins, HQ.out, iv_set' _ _ HH.out]
    · repeat' (with_reducible (first | exact Below.refl _ _ | assumption | refine Below.drew ?_ | refine Below.alloc ?_ ?_ _ | refine Below.setCell ?_ ?_ _ | refine below_later ?_ ?_ _))
      all_goals (repeat' (with_reducible (first | exact Nat.le_refl _ | assumption | refine le_size_later ?_ | refine le_size_alloc ?_ | refine le_size_set ?_ | refine le_size_drew ?_)))
      all_goals (first | omega | (simp; done) | (simp; omega))

end Go.Proofs.Ytlbonbkaddeeeaa
