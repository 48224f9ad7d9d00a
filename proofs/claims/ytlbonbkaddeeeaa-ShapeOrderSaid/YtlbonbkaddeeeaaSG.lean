/-
  The walks of whether a shape is Ok.
-/
import Derived.Test.YtlbonbkaddeeeaaSF
import Derived.Test.YtlbonbkaddeeeaaLTells
set_option linter.unusedSimpArgs false
set_option linter.unusedVariables false
namespace Go.Proofs.Ytlbonbkaddeeeaa
open Go.RowKit Go.Eng Go.Conch

def okS (x : Sh) : Bool :=
  if x.has.mem 0 then false
  else if x.k = false then decide (x.lit = ⟨#[]⟩)
  else decide (x.lit.size ≤ 64) && (!(x.lit.data.toList.contains 0) && (decide (x.has = ofBytes x.lit.data.toList) && (x.e == decide (x.lit = ⟨#[]⟩))))

set_option maxRecDepth 100000 in
set_option maxHeartbeats 4000000 in
theorem ok_pure (x : Sh) (hs : x.lit.size ≤ 9223372036854775807) : Pure Try.prog 50 #[x.val] (.bool (okS x)) := by
  intro w
  have ph := has_pure x.has 0 (by omega) (by omega)
  have pi := indexbyte_pure x.lit
  have po := of_pure x.lit hs
  have e0 : x.lit.data.toList.contains 0 = decide (0 ≤ Lib.indexByte x.lit.data.toList 0) := Lib.contains_iff_indexByte _ _
  have heq := fun W => eq_run x.has (ofBytes x.lit.data.toList) W
  have e1 : okS x = if x.has.mem 0 then false else if x.k = false then x.lit.toList.isEmpty
      else decide ((x.lit.size : Int) ≤ 64) && (decide (Lib.indexByte x.lit.data.toList 0 < 0) && (decide (x.has = ofBytes x.lit.data.toList) && (x.e == x.lit.toList.isEmpty))) := by
    have e2 : decide ((x.lit.size : Int) ≤ 64) = decide (x.lit.size ≤ 64) := by simp; omega
    have e3 : decide (Lib.indexByte x.lit.data.toList 0 < 0) = !decide (0 ≤ Lib.indexByte x.lit.data.toList 0) := by
      by_cases h : Lib.indexByte x.lit.data.toList 0 < 0
      · rw [decide_eq_true h, decide_eq_false (by omega)]; rfl
      · rw [decide_eq_false h, decide_eq_true (by omega)]; rfl
    unfold okS; rw [e0, toList_isEmpty, e2, e3]
  rw [e1]
  clear e1 e0
  have ez : (0 : Int).toNat = 0 := rfl
  rw [ez] at ph
  generalize x.has.mem 0 = m at *
  generalize decide (x.has = ofBytes x.lit.data.toList) = q at *
  generalize Lib.indexByte x.lit.data.toList 0 = n at *
  generalize ofBytes x.lit.data.toList = t at *
  obtain ⟨u, e, h, k, l⟩ := x
  rcases m with _ | _
  · rcases k with _ | _
    · go_enter Try.func50, Try.ntmps50
      go_wp2_with (go_at_call 20; (first | (with_reducible refine (Pure.inn ph _ _).mono ?_) | (with_reducible refine (Pure.go ph _).mono ?_)); rintro e w' ⟨rfl, x, rfl⟩)
      go_ret
      refine ⟨?_, ?_⟩
      · simp_all [toList_beq]
      · repeat' (with_reducible (first | exact Below.refl _ _ | assumption | refine Below.drew ?_ | refine Below.alloc ?_ ?_ _ | refine Below.setCell ?_ ?_ _ | refine below_later ?_ ?_ _))
        all_goals (repeat' (with_reducible (first | exact Nat.le_refl _ | assumption | refine le_size_later ?_ | refine le_size_alloc ?_ | refine le_size_set ?_ | refine le_size_drew ?_)))
        all_goals (first | omega | (simp; done) | (simp; omega))
    · cases hz : decide ((l.size : Int) ≤ 64) <;> cases hn : decide (n < 0) <;> rcases q with _ | _
      all_goals
        go_enter Try.func50, Try.ntmps50
        go_wp2_with (go_at_call 20; (first | (with_reducible refine (Pure.inn ph _ _).mono ?_) | (with_reducible refine (Pure.go ph _).mono ?_)); rintro e w' ⟨rfl, x, rfl⟩)
        first | (refine region_pure_on (by kernel_rfl) (by kernel_rfl) ?_) | (refine region_pure (by kernel_rfl) (by kernel_rfl) ?_)
        repeat go_big_quiet_step (first | (go_at_call 88; exact Pure.inn pi _ _) | (go_at_call 18; exact Pure.inn po _ _))
        refine wpQuiet_nil ?_
        intro x
        go_wp2
        all_goals
          go_ret
          refine ⟨?_, ?_⟩
          · simp_all [toList_beq]
          · repeat' (with_reducible (first | exact Below.refl _ _ | assumption | refine Below.drew ?_ | refine Below.alloc ?_ ?_ _ | refine Below.setCell ?_ ?_ _ | refine below_later ?_ ?_ _))
            all_goals (repeat' (with_reducible (first | exact Nat.le_refl _ | assumption | refine le_size_later ?_ | refine le_size_alloc ?_ | refine le_size_set ?_ | refine le_size_drew ?_)))
            all_goals (first | omega | (simp; done) | (simp; omega))
  · go_enter Try.func50, Try.ntmps50
    go_wp2_with (go_at_call 20; (first | (with_reducible refine (Pure.inn ph _ _).mono ?_) | (with_reducible refine (Pure.go ph _).mono ?_)); rintro e w' ⟨rfl, x, rfl⟩)
    go_ret
    refine ⟨?_, ?_⟩
    · simp_all [toList_beq]
    · repeat' (with_reducible (first | exact Below.refl _ _ | assumption | refine Below.drew ?_ | refine Below.alloc ?_ ?_ _ | refine Below.setCell ?_ ?_ _ | refine below_later ?_ ?_ _))
      all_goals (repeat' (with_reducible (first | exact Nat.le_refl _ | assumption | refine le_size_later ?_ | refine le_size_alloc ?_ | refine le_size_set ?_ | refine le_size_drew ?_)))
      all_goals (first | omega | (simp; done) | (simp; omega))

set_option maxRecDepth 100000 in
set_option maxHeartbeats 4000000 in
theorem refok_pure (x : Sh) (hs : x.lit.size ≤ 9223372036854775807) : Pure Try.prog 51 #[x.val] (.bool (okS x)) := by
  intro w
  have ph := refhas_pure x.has 0 (by omega) (by omega)
  have pi := in_pure x.lit hs
  have po := refof_pure x.lit hs
  have heq := fun W => eq_run x.has (ofBytes x.lit.data.toList) W
  have e1 : okS x = if x.has.mem 0 then false else if x.k = false then x.lit.toList.isEmpty
      else decide ((x.lit.size : Int) ≤ 64) && (!x.lit.data.toList.contains 0 && (decide (x.has = ofBytes x.lit.data.toList) && (x.e == x.lit.toList.isEmpty))) := by
    have e2 : decide ((x.lit.size : Int) ≤ 64) = decide (x.lit.size ≤ 64) := by simp; omega
    unfold okS; rw [toList_isEmpty, e2]
  rw [e1]
  clear e1
  have ez : (0 : Int).toNat = 0 := rfl
  rw [ez] at ph
  generalize x.has.mem 0 = m at *
  generalize decide (x.has = ofBytes x.lit.data.toList) = q at *
  generalize x.lit.data.toList.contains 0 = n at *
  generalize ofBytes x.lit.data.toList = t at *
  obtain ⟨u, e, h, k, l⟩ := x
  rcases m with _ | _
  · rcases k with _ | _
    · go_enter Try.func51, Try.ntmps51
      go_wp2_with (go_at_call 24; (first | (with_reducible refine (Pure.inn ph _ _).mono ?_) | (with_reducible refine (Pure.go ph _).mono ?_)); rintro e w' ⟨rfl, x, rfl⟩)
      go_ret
      refine ⟨?_, ?_⟩
      · simp_all [toList_beq]
      · repeat' (with_reducible (first | exact Below.refl _ _ | assumption | refine Below.drew ?_ | refine Below.alloc ?_ ?_ _ | refine Below.setCell ?_ ?_ _ | refine below_later ?_ ?_ _))
        all_goals (repeat' (with_reducible (first | exact Nat.le_refl _ | assumption | refine le_size_later ?_ | refine le_size_alloc ?_ | refine le_size_set ?_ | refine le_size_drew ?_)))
        all_goals (first | omega | (simp; done) | (simp; omega))
    · cases hz : decide ((l.size : Int) ≤ 64) <;> rcases n with _ | _ <;> rcases q with _ | _
      all_goals
        go_enter Try.func51, Try.ntmps51
        go_wp2_with (go_at_call 24; (first | (with_reducible refine (Pure.inn ph _ _).mono ?_) | (with_reducible refine (Pure.go ph _).mono ?_)); rintro e w' ⟨rfl, x, rfl⟩)
        first | (refine region_pure_on (by kernel_rfl) (by kernel_rfl) ?_) | (refine region_pure (by kernel_rfl) (by kernel_rfl) ?_)
        repeat go_big_quiet_step (first | (go_at_call 85; exact Pure.inn pi _ _) | (go_at_call 26; exact Pure.inn po _ _))
        refine wpQuiet_nil ?_
        intro x
        go_wp2
        all_goals
          go_ret
          refine ⟨?_, ?_⟩
          · simp_all [toList_beq]
          · repeat' (with_reducible (first | exact Below.refl _ _ | assumption | refine Below.drew ?_ | refine Below.alloc ?_ ?_ _ | refine Below.setCell ?_ ?_ _ | refine below_later ?_ ?_ _))
            all_goals (repeat' (with_reducible (first | exact Nat.le_refl _ | assumption | refine le_size_later ?_ | refine le_size_alloc ?_ | refine le_size_set ?_ | refine le_size_drew ?_)))
            all_goals (first | omega | (simp; done) | (simp; omega))
  · go_enter Try.func51, Try.ntmps51
    go_wp2_with (go_at_call 24; (first | (with_reducible refine (Pure.inn ph _ _).mono ?_) | (with_reducible refine (Pure.go ph _).mono ?_)); rintro e w' ⟨rfl, x, rfl⟩)
    go_ret
    refine ⟨?_, ?_⟩
    · simp_all [toList_beq]
    · repeat' (with_reducible (first | exact Below.refl _ _ | assumption | refine Below.drew ?_ | refine Below.alloc ?_ ?_ _ | refine Below.setCell ?_ ?_ _ | refine below_later ?_ ?_ _))
      all_goals (repeat' (with_reducible (first | exact Nat.le_refl _ | assumption | refine le_size_later ?_ | refine le_size_alloc ?_ | refine le_size_set ?_ | refine le_size_drew ?_)))
      all_goals (first | omega | (simp; done) | (simp; omega))

end Go.Proofs.Ytlbonbkaddeeeaa
