/-
  The walks of the functions on shapes.
-/
import Derived.Test.YtlbonbkaddeeeaaWSetD
import Derived.Test.YtlbonbkaddeeeaaShapes
set_option linter.unusedSimpArgs false
set_option linter.unusedVariables false
namespace Go.Proofs.Ytlbonbkaddeeeaa
open Go.RowKit Go.Eng Go.Conch

set_option maxRecDepth 100000 in
set_option maxHeartbeats 2000000 in
theorem there_pure (x : Sh) : Pure Try.prog 83 #[x.val] (.bool x.there) := by
  intro w
  obtain ⟨u, e, h, k, l⟩ := x
  have hez := fun (s : S4) W => eq_zero s W
  cases k <;> cases e
  all_goals
    go_enter Try.func83, Try.ntmps83
    go_wp2
    go_ret
    refine ⟨?_, ?_⟩
    · simp [Sh.there]
    · repeat' (with_reducible (first | exact Below.refl _ _ | assumption | refine Below.drew ?_ | refine Below.alloc ?_ ?_ _ | refine Below.setCell ?_ ?_ _ | refine below_later ?_ ?_ _))
      all_goals (repeat' (with_reducible (first | exact Nat.le_refl _ | assumption | refine le_size_later ?_ | refine le_size_alloc ?_ | refine le_size_set ?_ | refine le_size_drew ?_)))
      all_goals (first | omega | (simp; done) | (simp; omega))

set_option maxRecDepth 100000 in
set_option maxHeartbeats 2000000 in
theorem could_pure (x : Sh) : Pure Try.prog 91 #[x.val] (.bool x.there) := by
  intro w
  obtain ⟨u, e, h, k, l⟩ := x
  cases k <;> cases e
  all_goals
    go_enter Try.func91, Try.ntmps91
    go_wp2_with (go_at_call 92; (first | (with_reducible refine (Pure.inn (none_pure _) _ _).mono ?_) | refine (Pure.go (none_pure _) _).mono ?_); rintro e w' ⟨rfl, x, rfl⟩)
    go_ret
    refine ⟨?_, ?_⟩
    · simp [Sh.there]
    · repeat' (with_reducible (first | exact Below.refl _ _ | assumption | refine Below.drew ?_ | refine Below.alloc ?_ ?_ _ | refine Below.setCell ?_ ?_ _ | refine below_later ?_ ?_ _))
      all_goals (repeat' (with_reducible (first | exact Nat.le_refl _ | assumption | refine le_size_later ?_ | refine le_size_alloc ?_ | refine le_size_set ?_ | refine le_size_drew ?_)))
      all_goals (first | omega | (simp; done) | (simp; omega))

set_option maxRecDepth 100000 in
set_option maxHeartbeats 2000000 in
theorem shnone_pure (x : Sh) : Pure Try.prog 36 #[x.val] (.bool x.none) := by
  intro w
  have p := there_pure x
  have e1 : x.none = (!x.u && !x.there) := rfl
  rw [e1]
  generalize x.there = t at *
  obtain ⟨u, e, h, k, l⟩ := x
  cases u
  all_goals
    go_enter Try.func36, Try.ntmps36
    go_wp2_with (go_at_call 83; (first | (with_reducible refine (Pure.inn p _ _).mono ?_) | refine (Pure.go p _).mono ?_); rintro e w' ⟨rfl, x, rfl⟩)
    go_ret
    refine ⟨?_, ?_⟩
    · simp
    · repeat' (with_reducible (first | exact Below.refl _ _ | assumption | refine Below.drew ?_ | refine Below.alloc ?_ ?_ _ | refine Below.setCell ?_ ?_ _ | refine below_later ?_ ?_ _))
      all_goals (repeat' (with_reducible (first | exact Nat.le_refl _ | assumption | refine le_size_later ?_ | refine le_size_alloc ?_ | refine le_size_set ?_ | refine le_size_drew ?_)))
      all_goals (first | omega | (simp; done) | (simp; omega))

set_option maxRecDepth 100000 in
set_option maxHeartbeats 2000000 in
theorem refshnone_pure (x : Sh) : Pure Try.prog 61 #[x.val] (.bool x.none) := by
  intro w
  have p := could_pure x
  have e1 : x.none = (!x.u && !x.there) := rfl
  rw [e1]
  generalize x.there = t at *
  obtain ⟨u, e, h, k, l⟩ := x
  cases u
  all_goals
    go_enter Try.func61, Try.ntmps61
    go_wp2_with (go_at_call 91; (first | (with_reducible refine (Pure.inn p _ _).mono ?_) | refine (Pure.go p _).mono ?_); rintro e w' ⟨rfl, x, rfl⟩)
    go_ret
    refine ⟨?_, ?_⟩
    · simp
    · repeat' (with_reducible (first | exact Below.refl _ _ | assumption | refine Below.drew ?_ | refine Below.alloc ?_ ?_ _ | refine Below.setCell ?_ ?_ _ | refine below_later ?_ ?_ _))
      all_goals (repeat' (with_reducible (first | exact Nat.le_refl _ | assumption | refine le_size_later ?_ | refine le_size_alloc ?_ | refine le_size_set ?_ | refine le_size_drew ?_)))
      all_goals (first | omega | (simp; done) | (simp; omega))

set_option maxRecDepth 100000 in
set_option maxHeartbeats 2000000 in
theorem loose_pure (x : Sh) : Pure Try.prog 62 #[x.val] x.loose.val := by
  intro w
  go_enter Try.func62, Try.ntmps62
  go_wp2
  refine bodyPost_ret (v := x.loose.val) ?_ rfl ⟨rfl, ?_⟩
  · simp [results, Try.results62, go_sem, Sh.loose]
  · repeat' (with_reducible (first | exact Below.refl _ _ | assumption | refine Below.drew ?_ | refine Below.alloc ?_ ?_ _ | refine Below.setCell ?_ ?_ _ | refine below_later ?_ ?_ _))
    all_goals (repeat' (with_reducible (first | exact Nat.le_refl _ | assumption | refine le_size_later ?_ | refine le_size_alloc ?_ | refine le_size_set ?_ | refine le_size_drew ?_)))
    all_goals (first | omega | (simp; done) | (simp; omega))

set_option maxRecDepth 100000 in
set_option maxHeartbeats 2000000 in
theorem refloose_pure (x : Sh) : Pure Try.prog 63 #[x.val] { x.loose with k := false }.val := by
  intro w
  go_enter Try.func63, Try.ntmps63
  go_wp2
  refine bodyPost_ret (v := { x.loose with k := false }.val) ?_ rfl ⟨rfl, ?_⟩
  · simp [results, Try.results63, go_sem, Sh.loose]
  · repeat' (with_reducible (first | exact Below.refl _ _ | assumption | refine Below.drew ?_ | refine Below.alloc ?_ ?_ _ | refine Below.setCell ?_ ?_ _ | refine below_later ?_ ?_ _))
    all_goals (repeat' (with_reducible (first | exact Nat.le_refl _ | assumption | refine le_size_later ?_ | refine le_size_alloc ?_ | refine le_size_set ?_ | refine le_size_drew ?_)))
    all_goals (first | omega | (simp; done) | (simp; omega))

set_option maxRecDepth 100000 in
set_option maxHeartbeats 2000000 in
theorem clean_pure (a : S4) : Pure Try.prog 90 #[a.val] (a.and allS).val := by
  intro w
  go_enter Try.func90, Try.ntmps90
  go_wp2
  refine region_pure_tail 3 (by kernel_rfl) (by kernel_rfl) ?_
  simp only [List.take_succ_cons, List.take_zero, List.drop_succ_cons, List.drop_zero]
  repeat go_big_quiet_step (first | (go_at_call 79; exact Pure.inn all_pure _ _) | (go_at_call 28; exact Pure.inn (and_pure _ _) _ _))
  refine wpQuiet_nil ?_
  intro x
  go_wp2
  refine bodyPost_ret (v := (a.and allS).val) ?_ rfl ⟨rfl, ?_⟩
  · simp [results, Try.results90, go_sem]
  · repeat' (with_reducible (first | exact Below.refl _ _ | assumption | refine Below.drew ?_ | refine Below.alloc ?_ ?_ _ | refine Below.setCell ?_ ?_ _ | refine below_later ?_ ?_ _))
    all_goals (repeat' (with_reducible (first | exact Nat.le_refl _ | assumption | refine le_size_later ?_ | refine le_size_alloc ?_ | refine le_size_set ?_ | refine le_size_drew ?_)))
    all_goals (first | omega | (simp; done) | (simp; omega))

set_option maxRecDepth 100000 in
set_option maxHeartbeats 2000000 in
theorem ofs_pure (a : S4) (e : Bool) : Pure Try.prog 56 #[a.val, .bool e] (ofS a e).val := by
  intro w
  go_enter Try.func56, Try.ntmps56
  go_wp2_with (go_at_call 90; (first | (with_reducible refine (Pure.inn (clean_pure _) _ _).mono ?_) | refine (Pure.go (clean_pure _) _).mono ?_); rintro e w' ⟨rfl, x, rfl⟩)
  refine bodyPost_ret (v := (ofS a e).val) ?_ rfl ⟨rfl, ?_⟩
  · simp [results, Try.results56, go_sem, ofS]
  · repeat' (with_reducible (first | exact Below.refl _ _ | assumption | refine Below.drew ?_ | refine Below.alloc ?_ ?_ _ | refine Below.setCell ?_ ?_ _ | refine below_later ?_ ?_ _))
    all_goals (repeat' (with_reducible (first | exact Nat.le_refl _ | assumption | refine le_size_later ?_ | refine le_size_alloc ?_ | refine le_size_set ?_ | refine le_size_drew ?_)))
    all_goals (first | omega | (simp; done) | (simp; omega))

theorem clean_eq (a : S4) : a.less (S4.zero.ins 0) = a.and allS := by
  apply S4.ext_mem
  intro j hj
  rw [S4.mem_less, S4.mem_and, S4.mem_ins _ _ _ (by omega) hj, S4.mem_zero, allS, mem_rangeS' _ _ (by omega) (by omega) (by omega) (by omega) _ hj]
  by_cases h : j = 0
  · subst h; simp
  · have h1 : (1 : Int) ≤ (j : Int) := by omega
    have h2 : (j : Int) ≤ 255 := by omega
    simp [h, h1, h2]

set_option maxRecDepth 100000 in
set_option maxHeartbeats 2000000 in
theorem refofs_pure (a : S4) (e : Bool) : Pure Try.prog 57 #[a.val, .bool e] (ofS a e).val := by
  intro w
  have hz : Pure Try.prog 82 #[.agg #[.int .u64 0, .int .u64 0, .int .u64 0, .int .u64 0], .int .i64 0] (S4.zero.ins 0).val := refwith_pure S4.zero 0 (by omega) (by omega)
  go_enter Try.func57, Try.ntmps57
  go_wp2
  refine region_pure_tail 6 (by kernel_rfl) (by kernel_rfl) ?_
  simp only [List.take_succ_cons, List.take_zero, List.drop_succ_cons, List.drop_zero]
  repeat go_big_quiet_step (first | (go_at_call 82; exact Pure.inn hz _ _) | (go_at_call 31; exact Pure.inn (refless_pure _ _) _ _))
  refine wpQuiet_nil ?_
  intro x
  go_wp2
  refine bodyPost_ret (v := (ofS a e).val) ?_ rfl ⟨rfl, ?_⟩
  · simp [results, Try.results57, go_sem, ofS, clean_eq]
  · repeat' (with_reducible (first | exact Below.refl _ _ | assumption | refine Below.drew ?_ | refine Below.alloc ?_ ?_ _ | refine Below.setCell ?_ ?_ _ | refine below_later ?_ ?_ _))
    all_goals (repeat' (with_reducible (first | exact Nat.le_refl _ | assumption | refine le_size_later ?_ | refine le_size_alloc ?_ | refine le_size_set ?_ | refine le_size_drew ?_)))
    all_goals (first | omega | (simp; done) | (simp; omega))

set_option maxRecDepth 100000 in
set_option maxHeartbeats 2000000 in
theorem unset_pure : Pure Try.prog 54 #[] Sh.unset.val := by
  intro w
  go_enter Try.func54, Try.ntmps54
  go_wp2
  refine bodyPost_ret (v := Sh.unset.val) ?_ rfl ⟨rfl, ?_⟩
  · simp [results, Try.results54, go_sem, Sh.unset, Sh.zero, S4.zero]
  · repeat' (with_reducible (first | exact Below.refl _ _ | assumption | refine Below.drew ?_ | refine Below.alloc ?_ ?_ _ | refine Below.setCell ?_ ?_ _ | refine below_later ?_ ?_ _))
    all_goals (repeat' (with_reducible (first | exact Nat.le_refl _ | assumption | refine le_size_later ?_ | refine le_size_alloc ?_ | refine le_size_set ?_ | refine le_size_drew ?_)))
    all_goals (first | omega | (simp; done) | (simp; omega))
set_option maxRecDepth 100000 in
set_option maxHeartbeats 2000000 in
theorem refunset_pure : Pure Try.prog 55 #[] Sh.unset.val := by
  intro w
  go_enter Try.func55, Try.ntmps55
  go_wp2
  refine bodyPost_ret (v := Sh.unset.val) ?_ rfl ⟨rfl, ?_⟩
  · simp [results, Try.results55, go_sem, Sh.unset, Sh.zero, S4.zero]
  · repeat' (with_reducible (first | exact Below.refl _ _ | assumption | refine Below.drew ?_ | refine Below.alloc ?_ ?_ _ | refine Below.setCell ?_ ?_ _ | refine below_later ?_ ?_ _))
    all_goals (repeat' (with_reducible (first | exact Nat.le_refl _ | assumption | refine le_size_later ?_ | refine le_size_alloc ?_ | refine le_size_set ?_ | refine le_size_drew ?_)))
    all_goals (first | omega | (simp; done) | (simp; omega))
set_option maxRecDepth 100000 in
set_option maxHeartbeats 2000000 in
theorem any_pure : Pure Try.prog 40 #[] anyS.val := by
  intro w
  go_enter Try.func40, Try.ntmps40
  go_wp2_with (first | (go_at_call 79; (first | (with_reducible refine (Pure.inn all_pure _ _).mono ?_) | refine (Pure.go all_pure _).mono ?_); rintro e w' ⟨rfl, x, rfl⟩) | (go_at_call 56; (first | (with_reducible refine (Pure.inn (ofs_pure _ _) _ _).mono ?_) | refine (Pure.go (ofs_pure _ _) _).mono ?_); rintro e w' ⟨rfl, x, rfl⟩))
  refine bodyPost_ret (v := anyS.val) ?_ rfl ⟨rfl, ?_⟩
  · simp [results, Try.results40, go_sem, anyS]
  · repeat' (with_reducible (first | exact Below.refl _ _ | assumption | refine Below.drew ?_ | refine Below.alloc ?_ ?_ _ | refine Below.setCell ?_ ?_ _ | refine below_later ?_ ?_ _))
    all_goals (repeat' (with_reducible (first | exact Nat.le_refl _ | assumption | refine le_size_later ?_ | refine le_size_alloc ?_ | refine le_size_set ?_ | refine le_size_drew ?_)))
    all_goals (first | omega | (simp; done) | (simp; omega))
set_option maxRecDepth 100000 in
set_option maxHeartbeats 2000000 in
theorem refany_pure : Pure Try.prog 53 #[] anyS.val := by
  intro w
  go_enter Try.func53, Try.ntmps53
  go_wp2_with (first | (go_at_call 89; (first | (with_reducible refine (Pure.inn refall_pure _ _).mono ?_) | refine (Pure.go refall_pure _).mono ?_); rintro e w' ⟨rfl, x, rfl⟩) | (go_at_call 57; (first | (with_reducible refine (Pure.inn (refofs_pure _ _) _ _).mono ?_) | refine (Pure.go (refofs_pure _ _) _).mono ?_); rintro e w' ⟨rfl, x, rfl⟩))
  refine bodyPost_ret (v := anyS.val) ?_ rfl ⟨rfl, ?_⟩
  · simp [results, Try.results53, go_sem, anyS]
  · repeat' (with_reducible (first | exact Below.refl _ _ | assumption | refine Below.drew ?_ | refine Below.alloc ?_ ?_ _ | refine Below.setCell ?_ ?_ _ | refine below_later ?_ ?_ _))
    all_goals (repeat' (with_reducible (first | exact Nat.le_refl _ | assumption | refine le_size_later ?_ | refine le_size_alloc ?_ | refine le_size_set ?_ | refine le_size_drew ?_)))
    all_goals (first | omega | (simp; done) | (simp; omega))

end Go.Proofs.Ytlbonbkaddeeeaa
