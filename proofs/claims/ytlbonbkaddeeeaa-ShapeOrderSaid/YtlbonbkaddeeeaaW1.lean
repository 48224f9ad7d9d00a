/-
  The walks of the functions on sets: each comes to its plain function.
-/
import Derived.Test.YtlbonbkaddeeeaaRows
import Derived.Test.YtlbonbkaddeeeaaEng
import Derived.Test.YtlbonbkaddeeeaaSets
import Derived.StillTailTactics
set_option linter.unusedSimpArgs false
set_option linter.unusedVariables false
namespace Go.Proofs.Ytlbonbkaddeeeaa
open Go.RowKit Go.Eng Go.Conch

set_option maxHeartbeats 1000000 in
theorem or_pure (s t : S4) : Pure Try.prog 23 #[s.val, t.val] (s.or t).val := by
  intro w
  go_enter Try.func23, Try.ntmps23
  go_wp2
  refine wp_loop_rounds 5 ?_
  iterate 4
    rw [rounds_succ]
    go_wp2
    refine region_drew_tail 8 (by kernel_rfl) (by kernel_rfl) ?_
    simp only [List.take_succ_cons, List.take_zero, List.drop_succ_cons, List.drop_zero]
    repeat still_step
    refine wpStill_nil ?_
    go_wp2
  rw [rounds_succ]
  go_wp2
  refine bodyPost_ret (v := (s.or t).val) ?_ rfl ⟨rfl, ?_⟩
  · simp [results, Try.results23, go_sem, S4.or, iv_or]
  · repeat (first | exact Below.refl _ _ | refine Below.drew ?_ | refine Below.alloc ?_ (by simp <;> omega) _)

set_option maxHeartbeats 1000000 in
theorem refor_pure (s t : S4) : Pure Try.prog 27 #[s.val, t.val] (s.or t).val := by
  intro w
  go_enter Try.func27, Try.ntmps27
  go_wp2
  refine wp_loop_rounds 5 ?_
  iterate 4
    rw [rounds_succ]
    go_wp2
    refine region_drew_tail 9 (by kernel_rfl) (by kernel_rfl) ?_
    simp only [List.take_succ_cons, List.take_zero, List.drop_succ_cons, List.drop_zero]
    repeat still_step
    refine wpStill_nil ?_
    go_wp2
  rw [rounds_succ]
  go_wp2
  refine bodyPost_ret (v := (s.or t).val) ?_ rfl ⟨rfl, ?_⟩
  · simp [results, Try.results27, go_sem, S4.or, iv_or]
  · repeat (first | exact Below.refl _ _ | refine Below.drew ?_ | refine Below.alloc ?_ (by simp <;> omega) _)

set_option maxHeartbeats 1000000 in
theorem and_pure (s t : S4) : Pure Try.prog 28 #[s.val, t.val] (s.and t).val := by
  intro w
  go_enter Try.func28, Try.ntmps28
  go_wp2
  refine wp_loop_rounds 5 ?_
  iterate 4
    rw [rounds_succ]
    go_wp2
    refine region_drew_tail 8 (by kernel_rfl) (by kernel_rfl) ?_
    simp only [List.take_succ_cons, List.take_zero, List.drop_succ_cons, List.drop_zero]
    repeat still_step
    refine wpStill_nil ?_
    go_wp2
  rw [rounds_succ]
  go_wp2
  refine bodyPost_ret (v := (s.and t).val) ?_ rfl ⟨rfl, ?_⟩
  · simp [results, Try.results28, go_sem, S4.and, iv_and]
  · repeat (first | exact Below.refl _ _ | refine Below.drew ?_ | refine Below.alloc ?_ (by simp <;> omega) _)

set_option maxHeartbeats 1000000 in
theorem refand_pure (s t : S4) : Pure Try.prog 29 #[s.val, t.val] (s.and t).val := by
  intro w
  go_enter Try.func29, Try.ntmps29
  go_wp2
  refine wp_loop_rounds 5 ?_
  iterate 4
    rw [rounds_succ]
    go_wp2
    refine region_drew_tail 9 (by kernel_rfl) (by kernel_rfl) ?_
    simp only [List.take_succ_cons, List.take_zero, List.drop_succ_cons, List.drop_zero]
    repeat still_step
    refine wpStill_nil ?_
    go_wp2
  rw [rounds_succ]
  go_wp2
  refine bodyPost_ret (v := (s.and t).val) ?_ rfl ⟨rfl, ?_⟩
  · simp [results, Try.results29, go_sem, S4.and, iv_and]
  · repeat (first | exact Below.refl _ _ | refine Below.drew ?_ | refine Below.alloc ?_ (by simp <;> omega) _)

set_option maxHeartbeats 1000000 in
theorem less_pure (s t : S4) : Pure Try.prog 30 #[s.val, t.val] (s.less t).val := by
  intro w
  go_enter Try.func30, Try.ntmps30
  go_wp2
  refine wp_loop_rounds 5 ?_
  iterate 4
    rw [rounds_succ]
    go_wp2
    refine region_drew_tail 8 (by kernel_rfl) (by kernel_rfl) ?_
    simp only [List.take_succ_cons, List.take_zero, List.drop_succ_cons, List.drop_zero]
    repeat still_step
    refine wpStill_nil ?_
    go_wp2
  rw [rounds_succ]
  go_wp2
  refine bodyPost_ret (v := (s.less t).val) ?_ rfl ⟨rfl, ?_⟩
  · simp [results, Try.results30, go_sem, S4.less, iv_less]
  · repeat (first | exact Below.refl _ _ | refine Below.drew ?_ | refine Below.alloc ?_ (by simp <;> omega) _)

set_option maxHeartbeats 1000000 in
theorem refless_pure (s t : S4) : Pure Try.prog 31 #[s.val, t.val] (s.less t).val := by
  intro w
  go_enter Try.func31, Try.ntmps31
  go_wp2
  refine wp_loop_rounds 5 ?_
  iterate 4
    rw [rounds_succ]
    go_wp2
    refine region_drew_tail 9 (by kernel_rfl) (by kernel_rfl) ?_
    simp only [List.take_succ_cons, List.take_zero, List.drop_succ_cons, List.drop_zero]
    repeat still_step
    refine wpStill_nil ?_
    go_wp2
  rw [rounds_succ]
  go_wp2
  refine bodyPost_ret (v := (s.less t).val) ?_ rfl ⟨rfl, ?_⟩
  · simp [results, Try.results31, go_sem, S4.less, iv_less]
  · repeat (first | exact Below.refl _ _ | refine Below.drew ?_ | refine Below.alloc ?_ (by simp <;> omega) _)

end Go.Proofs.Ytlbonbkaddeeeaa
