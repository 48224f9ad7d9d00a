/-
  The walks of the questions on shapes.
-/
import Derived.Test.YtlbonbkaddeeeaaSA
import Derived.Test.YtlbonbkaddeeeaaEngB
set_option linter.unusedSimpArgs false
set_option linter.unusedVariables false
namespace Go.Proofs.Ytlbonbkaddeeeaa
open Go.RowKit Go.Eng Go.Conch

theorem toList_beq (l v : ByteArray) : (l.toList == v.toList) = decide (l = v) := by
  rw [ByteArray.toList_eq, ByteArray.toList_eq, Bool.eq_iff_iff, beq_iff_eq, decide_eq_true_iff]
  exact ⟨fun h => ByteArray.ext (Array.toList_inj.1 h), fun h => by rw [h]⟩
theorem toList_isEmpty (v : ByteArray) : v.toList.isEmpty = decide (v = ⟨#[]⟩) := by
  rw [ByteArray.toList_eq, Bool.eq_iff_iff, decide_eq_true_iff, List.isEmpty_iff]
  constructor
  · intro h
    apply ByteArray.ext
    apply Array.toList_inj.1
    exact h
  · intro h; rw [h]

set_option maxRecDepth 100000 in
set_option maxHeartbeats 2000000 in
theorem may_pure (x : Sh) (is : Bool) (v : ByteArray) (hv : v.size ≤ 9223372036854775807) : Pure Try.prog 37 #[x.val, .bool is, .string v] (.bool (x.may is v)) := by
  intro w
  obtain ⟨u, e, h, k, l⟩ := x
  go_enter Try.func37, Try.ntmps37
  go_wp2
  · go_ret
    refine ⟨?_, ?_⟩
    · simp_all [Sh.may]
    · repeat' (with_reducible (first | exact Below.refl _ _ | assumption | refine Below.drew ?_ | refine Below.alloc ?_ ?_ _ | refine Below.setCell ?_ ?_ _ | refine below_later ?_ ?_ _))
      all_goals (repeat' (with_reducible (first | exact Nat.le_refl _ | assumption | refine le_size_later ?_ | refine le_size_alloc ?_ | refine le_size_set ?_ | refine le_size_drew ?_)))
      all_goals (first | omega | (simp; done) | (simp; omega))
  · go_ret
    refine ⟨?_, ?_⟩
    · simp_all [Sh.may, toList_beq]
    · repeat' (with_reducible (first | exact Below.refl _ _ | assumption | refine Below.drew ?_ | refine Below.alloc ?_ ?_ _ | refine Below.setCell ?_ ?_ _ | refine below_later ?_ ?_ _))
      all_goals (repeat' (with_reducible (first | exact Nat.le_refl _ | assumption | refine le_size_later ?_ | refine le_size_alloc ?_ | refine le_size_set ?_ | refine le_size_drew ?_)))
      all_goals (first | omega | (simp; done) | (simp; omega))
  · go_ret
    refine ⟨?_, ?_⟩
    · simp_all [Sh.may, toList_isEmpty]
    · repeat' (with_reducible (first | exact Below.refl _ _ | assumption | refine Below.drew ?_ | refine Below.alloc ?_ ?_ _ | refine Below.setCell ?_ ?_ _ | refine below_later ?_ ?_ _))
      all_goals (repeat' (with_reducible (first | exact Nat.le_refl _ | assumption | refine le_size_later ?_ | refine le_size_alloc ?_ | refine le_size_set ?_ | refine le_size_drew ?_)))
      all_goals (first | omega | (simp; done) | (simp; omega))
  · refine region_pure (by kernel_rfl) (by kernel_rfl) ?_
    repeat go_big_quiet_step (first | (go_at_call 18; exact Pure.inn (of_pure _ hv) _ _) | (go_at_call 32; exact Pure.inn (within_pure _ _) _ _))
    refine wpQuiet_nil ?_
    intro x
    go_wp2
    go_ret
    refine ⟨?_, ?_⟩
    · simp_all [Sh.may, toList_isEmpty, subS]
    · repeat' (with_reducible (first | exact Below.refl _ _ | assumption | refine Below.drew ?_ | refine Below.alloc ?_ ?_ _ | refine Below.setCell ?_ ?_ _ | refine below_later ?_ ?_ _))
      all_goals (repeat' (with_reducible (first | exact Nat.le_refl _ | assumption | refine le_size_later ?_ | refine le_size_alloc ?_ | refine le_size_set ?_ | refine le_size_drew ?_)))
      all_goals (first | omega | (simp; done) | (simp; omega))

set_option maxRecDepth 100000 in
set_option maxHeartbeats 2000000 in
theorem refmay_pure (x : Sh) (is : Bool) (v : ByteArray) (hv : v.size ≤ 9223372036854775807) : Pure Try.prog 60 #[x.val, .bool is, .string v] (.bool (x.may is v)) := by
  intro w
  obtain ⟨u, e, h, k, l⟩ := x
  go_enter Try.func60, Try.ntmps60
  go_wp2
  · go_ret
    refine ⟨?_, ?_⟩
    · simp_all [Sh.may]
    · repeat' (with_reducible (first | exact Below.refl _ _ | assumption | refine Below.drew ?_ | refine Below.alloc ?_ ?_ _ | refine Below.setCell ?_ ?_ _ | refine below_later ?_ ?_ _))
      all_goals (repeat' (with_reducible (first | exact Nat.le_refl _ | assumption | refine le_size_later ?_ | refine le_size_alloc ?_ | refine le_size_set ?_ | refine le_size_drew ?_)))
      all_goals (first | omega | (simp; done) | (simp; omega))
  · go_ret
    refine ⟨?_, ?_⟩
    · simp_all [Sh.may, toList_beq]
    · repeat' (with_reducible (first | exact Below.refl _ _ | assumption | refine Below.drew ?_ | refine Below.alloc ?_ ?_ _ | refine Below.setCell ?_ ?_ _ | refine below_later ?_ ?_ _))
      all_goals (repeat' (with_reducible (first | exact Nat.le_refl _ | assumption | refine le_size_later ?_ | refine le_size_alloc ?_ | refine le_size_set ?_ | refine le_size_drew ?_)))
      all_goals (first | omega | (simp; done) | (simp; omega))
  · go_ret
    refine ⟨?_, ?_⟩
    · simp_all [Sh.may, toList_isEmpty]
    · repeat' (with_reducible (first | exact Below.refl _ _ | assumption | refine Below.drew ?_ | refine Below.alloc ?_ ?_ _ | refine Below.setCell ?_ ?_ _ | refine below_later ?_ ?_ _))
      all_goals (repeat' (with_reducible (first | exact Nat.le_refl _ | assumption | refine le_size_later ?_ | refine le_size_alloc ?_ | refine le_size_set ?_ | refine le_size_drew ?_)))
      all_goals (first | omega | (simp; done) | (simp; omega))
  · refine region_pure (by kernel_rfl) (by kernel_rfl) ?_
    repeat go_big_quiet_step (first | (go_at_call 26; exact Pure.inn (refof_pure _ hv) _ _) | (go_at_call 31; exact Pure.inn (refless_pure _ _) _ _) | (go_at_call 92; exact Pure.inn (none_pure _) _ _))
    refine wpQuiet_nil ?_
    intro x
    go_wp2
    go_ret
    refine ⟨?_, ?_⟩
    · simp_all [Sh.may, toList_isEmpty, subS]
    · repeat' (with_reducible (first | exact Below.refl _ _ | assumption | refine Below.drew ?_ | refine Below.alloc ?_ ?_ _ | refine Below.setCell ?_ ?_ _ | refine below_later ?_ ?_ _))
      all_goals (repeat' (with_reducible (first | exact Nat.le_refl _ | assumption | refine le_size_later ?_ | refine le_size_alloc ?_ | refine le_size_set ?_ | refine le_size_drew ?_)))
      all_goals (first | omega | (simp; done) | (simp; omega))

set_option maxRecDepth 100000 in
set_option maxHeartbeats 2000000 in
theorem swithin_pure (x : Sh) (v : ByteArray) : Pure Try.prog 84 #[x.val, .string v] (.bool (x.within v)) := by
  intro w
  have p := there_pure x
  have hez := fun (s : S4) W => eq_zero s W
  obtain ⟨u, e, h, k, l⟩ := x
  have e1 : (Sh.mk u e h k l).within v = (!(Sh.mk u e h k l).there || (decide (v = ⟨#[]⟩) && (e && decide (h = S4.zero)))) := rfl
  rw [e1]
  generalize (Sh.mk u e h k l).there = t at *
  rw [← toList_isEmpty]
  cases t <;> cases hv : v.toList.isEmpty <;> cases e
  all_goals
    go_enter Try.func84, Try.ntmps84
    go_wp2_with (go_at_call 83; (first | (with_reducible refine (Pure.inn p _ _).mono ?_) | refine (Pure.go p _).mono ?_); rintro e w' ⟨rfl, x, rfl⟩)
    go_ret
    refine ⟨?_, ?_⟩
    · simp_all [toList_beq]
    · repeat' (with_reducible (first | exact Below.refl _ _ | assumption | refine Below.drew ?_ | refine Below.alloc ?_ ?_ _ | refine Below.setCell ?_ ?_ _ | refine below_later ?_ ?_ _))
      all_goals (repeat' (with_reducible (first | exact Nat.le_refl _ | assumption | refine le_size_later ?_ | refine le_size_alloc ?_ | refine le_size_set ?_ | refine le_size_drew ?_)))
      all_goals (first | omega | (simp; done) | (simp; omega))

set_option maxRecDepth 100000 in
set_option maxHeartbeats 4000000 in
theorem leq_pure (x y : Sh) (hx : x.lit.size ≤ 9223372036854775807) : Pure Try.prog 38 #[x.val, y.val] (.bool (x.leq y)) := by
  intro w
  have pm := may_pure y true x.lit hx
  have pw := swithin_pure x y.lit
  have pi := within_pure x.has y.has
  have e1 : x.leq y = if x.u && !y.u then false
    else if x.k && y.k then decide (x.lit = y.lit)
    else if x.k then y.may true x.lit
    else if y.k then x.within y.lit
    else (!x.e || y.e) && decide (x.has.less y.has = S4.zero) := rfl
  rw [e1, ← toList_beq]
  generalize y.may true x.lit = tm at *
  generalize x.within y.lit = tw at *
  generalize decide (x.has.less y.has = S4.zero) = ti at *
  obtain ⟨u, e, h, k, l⟩ := x
  obtain ⟨u2, e2, h2, k2, l2⟩ := y
  rcases u with _ | _
  · rcases k with _ | _ <;> rcases k2 with _ | _
    · rcases e with _ | _ <;> rcases e2 with _ | _
      all_goals
        go_enter Try.func38, Try.ntmps38
        go_wp2_with (first | (go_at_call 37; (first | (with_reducible refine (Pure.inn pm _ _).mono ?_) | refine (Pure.go pm _).mono ?_); rintro e w' ⟨rfl, x, rfl⟩) | (go_at_call 84; (first | (with_reducible refine (Pure.inn pw _ _).mono ?_) | refine (Pure.go pw _).mono ?_); rintro e w' ⟨rfl, x, rfl⟩) | (go_at_call 32; (first | (with_reducible refine (Pure.inn pi _ _).mono ?_) | refine (Pure.go pi _).mono ?_); rintro e w' ⟨rfl, x, rfl⟩))
        go_ret
        refine ⟨?_, ?_⟩
        · simp
        · repeat' (with_reducible (first | exact Below.refl _ _ | assumption | refine Below.drew ?_ | refine Below.alloc ?_ ?_ _ | refine Below.setCell ?_ ?_ _ | refine below_later ?_ ?_ _))
          all_goals (repeat' (with_reducible (first | exact Nat.le_refl _ | assumption | refine le_size_later ?_ | refine le_size_alloc ?_ | refine le_size_set ?_ | refine le_size_drew ?_)))
          all_goals (first | omega | (simp; done) | (simp; omega))
    all_goals
      go_enter Try.func38, Try.ntmps38
      go_wp2_with (first | (go_at_call 37; (first | (with_reducible refine (Pure.inn pm _ _).mono ?_) | refine (Pure.go pm _).mono ?_); rintro e w' ⟨rfl, x, rfl⟩) | (go_at_call 84; (first | (with_reducible refine (Pure.inn pw _ _).mono ?_) | refine (Pure.go pw _).mono ?_); rintro e w' ⟨rfl, x, rfl⟩) | (go_at_call 32; (first | (with_reducible refine (Pure.inn pi _ _).mono ?_) | refine (Pure.go pi _).mono ?_); rintro e w' ⟨rfl, x, rfl⟩))
      go_ret
      refine ⟨?_, ?_⟩
      · simp
      · repeat' (with_reducible (first | exact Below.refl _ _ | assumption | refine Below.drew ?_ | refine Below.alloc ?_ ?_ _ | refine Below.setCell ?_ ?_ _ | refine below_later ?_ ?_ _))
        all_goals (repeat' (with_reducible (first | exact Nat.le_refl _ | assumption | refine le_size_later ?_ | refine le_size_alloc ?_ | refine le_size_set ?_ | refine le_size_drew ?_)))
        all_goals (first | omega | (simp; done) | (simp; omega))
  · rcases u2 with _ | _
    · go_enter Try.func38, Try.ntmps38
      go_wp2_with (first | (go_at_call 37; (first | (with_reducible refine (Pure.inn pm _ _).mono ?_) | refine (Pure.go pm _).mono ?_); rintro e w' ⟨rfl, x, rfl⟩) | (go_at_call 84; (first | (with_reducible refine (Pure.inn pw _ _).mono ?_) | refine (Pure.go pw _).mono ?_); rintro e w' ⟨rfl, x, rfl⟩) | (go_at_call 32; (first | (with_reducible refine (Pure.inn pi _ _).mono ?_) | refine (Pure.go pi _).mono ?_); rintro e w' ⟨rfl, x, rfl⟩))
      go_ret
      refine ⟨?_, ?_⟩
      · simp
      · repeat' (with_reducible (first | exact Below.refl _ _ | assumption | refine Below.drew ?_ | refine Below.alloc ?_ ?_ _ | refine Below.setCell ?_ ?_ _ | refine below_later ?_ ?_ _))
        all_goals (repeat' (with_reducible (first | exact Nat.le_refl _ | assumption | refine le_size_later ?_ | refine le_size_alloc ?_ | refine le_size_set ?_ | refine le_size_drew ?_)))
        all_goals (first | omega | (simp; done) | (simp; omega))
    · rcases k with _ | _ <;> rcases k2 with _ | _
      · rcases e with _ | _ <;> rcases e2 with _ | _
        all_goals
          go_enter Try.func38, Try.ntmps38
          go_wp2_with (first | (go_at_call 37; (first | (with_reducible refine (Pure.inn pm _ _).mono ?_) | refine (Pure.go pm _).mono ?_); rintro e w' ⟨rfl, x, rfl⟩) | (go_at_call 84; (first | (with_reducible refine (Pure.inn pw _ _).mono ?_) | refine (Pure.go pw _).mono ?_); rintro e w' ⟨rfl, x, rfl⟩) | (go_at_call 32; (first | (with_reducible refine (Pure.inn pi _ _).mono ?_) | refine (Pure.go pi _).mono ?_); rintro e w' ⟨rfl, x, rfl⟩))
          go_ret
          refine ⟨?_, ?_⟩
          · simp
          · repeat' (with_reducible (first | exact Below.refl _ _ | assumption | refine Below.drew ?_ | refine Below.alloc ?_ ?_ _ | refine Below.setCell ?_ ?_ _ | refine below_later ?_ ?_ _))
            all_goals (repeat' (with_reducible (first | exact Nat.le_refl _ | assumption | refine le_size_later ?_ | refine le_size_alloc ?_ | refine le_size_set ?_ | refine le_size_drew ?_)))
            all_goals (first | omega | (simp; done) | (simp; omega))
      all_goals
        go_enter Try.func38, Try.ntmps38
        go_wp2_with (first | (go_at_call 37; (first | (with_reducible refine (Pure.inn pm _ _).mono ?_) | refine (Pure.go pm _).mono ?_); rintro e w' ⟨rfl, x, rfl⟩) | (go_at_call 84; (first | (with_reducible refine (Pure.inn pw _ _).mono ?_) | refine (Pure.go pw _).mono ?_); rintro e w' ⟨rfl, x, rfl⟩) | (go_at_call 32; (first | (with_reducible refine (Pure.inn pi _ _).mono ?_) | refine (Pure.go pi _).mono ?_); rintro e w' ⟨rfl, x, rfl⟩))
        go_ret
        refine ⟨?_, ?_⟩
        · simp
        · repeat' (with_reducible (first | exact Below.refl _ _ | assumption | refine Below.drew ?_ | refine Below.alloc ?_ ?_ _ | refine Below.setCell ?_ ?_ _ | refine below_later ?_ ?_ _))
          all_goals (repeat' (with_reducible (first | exact Nat.le_refl _ | assumption | refine le_size_later ?_ | refine le_size_alloc ?_ | refine le_size_set ?_ | refine le_size_drew ?_)))
          all_goals (first | omega | (simp; done) | (simp; omega))

end Go.Proofs.Ytlbonbkaddeeeaa
