/-
  The walk of the document's order of shapes.
-/
import Derived.Test.YtlbonbkaddeeeaaSG
set_option linter.unusedSimpArgs false
set_option linter.unusedVariables false
namespace Go.Proofs.Ytlbonbkaddeeeaa
open Go.RowKit Go.Eng Go.Conch

set_option maxRecDepth 100000 in
set_option maxHeartbeats 4000000 in
theorem refleq_pure (x y : Sh) : Pure Try.prog 59 #[x.val, y.val] (.bool (x.refLeq y)) := by
  intro w
  have px := could_pure x
  have pz := none_pure x.has
  have pl := refless_pure x.has y.has
  have pn := none_pure (x.has.less y.has)
  have e1 : x.refLeq y = if x.u && !y.u then false
    else if !x.there then true
    else if y.k then (x.k && (x.lit.toList == y.lit.toList)) || (!x.k && (x.e && (decide (x.has = S4.zero) && y.lit.toList.isEmpty)))
    else decide (x.has.less y.has = S4.zero) && (!x.e || y.e) := by
    rw [toList_beq, toList_isEmpty]; rfl
  rw [e1]
  clear e1
  generalize x.there = tx at *
  generalize decide (x.has = S4.zero) = z at *
  generalize decide (x.has.less y.has = S4.zero) = sb at *
  generalize x.has.less y.has = ls at *
  obtain ⟨u, e, h, k, l⟩ := x
  obtain ⟨u2, e2, h2, k2, l2⟩ := y
  rcases u with _ | _
  · rcases tx with _ | _
    · skip
      go_enter Try.func59, Try.ntmps59
      go_wp2_with (first | (go_at_call 91; (first | (with_reducible refine (Pure.inn px _ _).mono ?_) | (with_reducible refine (Pure.go px _).mono ?_)); rintro e w' ⟨rfl, x, rfl⟩) | (go_at_call 92; (first | (with_reducible refine (Pure.inn pz _ _).mono ?_) | (with_reducible refine (Pure.go pz _).mono ?_)); rintro e w' ⟨rfl, x, rfl⟩) | (go_at_call 31; (first | (with_reducible refine (Pure.inn pl _ _).mono ?_) | (with_reducible refine (Pure.go pl _).mono ?_)); rintro e w' ⟨rfl, x, rfl⟩) | (go_at_call 92; (first | (with_reducible refine (Pure.inn pn _ _).mono ?_) | (with_reducible refine (Pure.go pn _).mono ?_)); rintro e w' ⟨rfl, x, rfl⟩))
      all_goals
        go_ret
        refine ⟨?_, ?_⟩
        · simp_all [toList_beq]
        · repeat' (with_reducible (first | exact Below.refl _ _ | assumption | refine Below.drew ?_ | refine Below.alloc ?_ ?_ _ | refine Below.setCell ?_ ?_ _ | refine below_later ?_ ?_ _))
          all_goals (repeat' (with_reducible (first | exact Nat.le_refl _ | assumption | refine le_size_later ?_ | refine le_size_alloc ?_ | refine le_size_set ?_ | refine le_size_drew ?_)))
          all_goals (first | omega | (simp; done) | (simp; omega))
    · rcases k2 with _ | _
      · rcases sb with _ | _ <;> rcases e with _ | _
        all_goals
          go_enter Try.func59, Try.ntmps59
          go_wp2_with (first | (go_at_call 91; (first | (with_reducible refine (Pure.inn px _ _).mono ?_) | (with_reducible refine (Pure.go px _).mono ?_)); rintro e w' ⟨rfl, x, rfl⟩) | (go_at_call 92; (first | (with_reducible refine (Pure.inn pz _ _).mono ?_) | (with_reducible refine (Pure.go pz _).mono ?_)); rintro e w' ⟨rfl, x, rfl⟩) | (go_at_call 31; (first | (with_reducible refine (Pure.inn pl _ _).mono ?_) | (with_reducible refine (Pure.go pl _).mono ?_)); rintro e w' ⟨rfl, x, rfl⟩) | (go_at_call 92; (first | (with_reducible refine (Pure.inn pn _ _).mono ?_) | (with_reducible refine (Pure.go pn _).mono ?_)); rintro e w' ⟨rfl, x, rfl⟩))
          all_goals
            go_ret
            refine ⟨?_, ?_⟩
            · simp_all [toList_beq]
            · repeat' (with_reducible (first | exact Below.refl _ _ | assumption | refine Below.drew ?_ | refine Below.alloc ?_ ?_ _ | refine Below.setCell ?_ ?_ _ | refine below_later ?_ ?_ _))
              all_goals (repeat' (with_reducible (first | exact Nat.le_refl _ | assumption | refine le_size_later ?_ | refine le_size_alloc ?_ | refine le_size_set ?_ | refine le_size_drew ?_)))
              all_goals (first | omega | (simp; done) | (simp; omega))
      · rcases k with _ | _
        · rcases e with _ | _ <;> rcases z with _ | _
          all_goals
            go_enter Try.func59, Try.ntmps59
            go_wp2_with (first | (go_at_call 91; (first | (with_reducible refine (Pure.inn px _ _).mono ?_) | (with_reducible refine (Pure.go px _).mono ?_)); rintro e w' ⟨rfl, x, rfl⟩) | (go_at_call 92; (first | (with_reducible refine (Pure.inn pz _ _).mono ?_) | (with_reducible refine (Pure.go pz _).mono ?_)); rintro e w' ⟨rfl, x, rfl⟩) | (go_at_call 31; (first | (with_reducible refine (Pure.inn pl _ _).mono ?_) | (with_reducible refine (Pure.go pl _).mono ?_)); rintro e w' ⟨rfl, x, rfl⟩) | (go_at_call 92; (first | (with_reducible refine (Pure.inn pn _ _).mono ?_) | (with_reducible refine (Pure.go pn _).mono ?_)); rintro e w' ⟨rfl, x, rfl⟩))
            all_goals
              go_ret
              refine ⟨?_, ?_⟩
              · simp_all [toList_beq]
              · repeat' (with_reducible (first | exact Below.refl _ _ | assumption | refine Below.drew ?_ | refine Below.alloc ?_ ?_ _ | refine Below.setCell ?_ ?_ _ | refine below_later ?_ ?_ _))
                all_goals (repeat' (with_reducible (first | exact Nat.le_refl _ | assumption | refine le_size_later ?_ | refine le_size_alloc ?_ | refine le_size_set ?_ | refine le_size_drew ?_)))
                all_goals (first | omega | (simp; done) | (simp; omega))
        · cases hl : (l.toList == l2.toList)
          all_goals
            go_enter Try.func59, Try.ntmps59
            go_wp2_with (first | (go_at_call 91; (first | (with_reducible refine (Pure.inn px _ _).mono ?_) | (with_reducible refine (Pure.go px _).mono ?_)); rintro e w' ⟨rfl, x, rfl⟩) | (go_at_call 92; (first | (with_reducible refine (Pure.inn pz _ _).mono ?_) | (with_reducible refine (Pure.go pz _).mono ?_)); rintro e w' ⟨rfl, x, rfl⟩) | (go_at_call 31; (first | (with_reducible refine (Pure.inn pl _ _).mono ?_) | (with_reducible refine (Pure.go pl _).mono ?_)); rintro e w' ⟨rfl, x, rfl⟩) | (go_at_call 92; (first | (with_reducible refine (Pure.inn pn _ _).mono ?_) | (with_reducible refine (Pure.go pn _).mono ?_)); rintro e w' ⟨rfl, x, rfl⟩))
            all_goals
              go_ret
              refine ⟨?_, ?_⟩
              · simp_all [toList_beq]
              · repeat' (with_reducible (first | exact Below.refl _ _ | assumption | refine Below.drew ?_ | refine Below.alloc ?_ ?_ _ | refine Below.setCell ?_ ?_ _ | refine below_later ?_ ?_ _))
                all_goals (repeat' (with_reducible (first | exact Nat.le_refl _ | assumption | refine le_size_later ?_ | refine le_size_alloc ?_ | refine le_size_set ?_ | refine le_size_drew ?_)))
                all_goals (first | omega | (simp; done) | (simp; omega))
  · rcases u2 with _ | _
    · skip
      go_enter Try.func59, Try.ntmps59
      go_wp2_with (first | (go_at_call 91; (first | (with_reducible refine (Pure.inn px _ _).mono ?_) | (with_reducible refine (Pure.go px _).mono ?_)); rintro e w' ⟨rfl, x, rfl⟩) | (go_at_call 92; (first | (with_reducible refine (Pure.inn pz _ _).mono ?_) | (with_reducible refine (Pure.go pz _).mono ?_)); rintro e w' ⟨rfl, x, rfl⟩) | (go_at_call 31; (first | (with_reducible refine (Pure.inn pl _ _).mono ?_) | (with_reducible refine (Pure.go pl _).mono ?_)); rintro e w' ⟨rfl, x, rfl⟩) | (go_at_call 92; (first | (with_reducible refine (Pure.inn pn _ _).mono ?_) | (with_reducible refine (Pure.go pn _).mono ?_)); rintro e w' ⟨rfl, x, rfl⟩))
      all_goals
        go_ret
        refine ⟨?_, ?_⟩
        · simp_all [toList_beq]
        · repeat' (with_reducible (first | exact Below.refl _ _ | assumption | refine Below.drew ?_ | refine Below.alloc ?_ ?_ _ | refine Below.setCell ?_ ?_ _ | refine below_later ?_ ?_ _))
          all_goals (repeat' (with_reducible (first | exact Nat.le_refl _ | assumption | refine le_size_later ?_ | refine le_size_alloc ?_ | refine le_size_set ?_ | refine le_size_drew ?_)))
          all_goals (first | omega | (simp; done) | (simp; omega))
    · rcases tx with _ | _
      · skip
        go_enter Try.func59, Try.ntmps59
        go_wp2_with (first | (go_at_call 91; (first | (with_reducible refine (Pure.inn px _ _).mono ?_) | (with_reducible refine (Pure.go px _).mono ?_)); rintro e w' ⟨rfl, x, rfl⟩) | (go_at_call 92; (first | (with_reducible refine (Pure.inn pz _ _).mono ?_) | (with_reducible refine (Pure.go pz _).mono ?_)); rintro e w' ⟨rfl, x, rfl⟩) | (go_at_call 31; (first | (with_reducible refine (Pure.inn pl _ _).mono ?_) | (with_reducible refine (Pure.go pl _).mono ?_)); rintro e w' ⟨rfl, x, rfl⟩) | (go_at_call 92; (first | (with_reducible refine (Pure.inn pn _ _).mono ?_) | (with_reducible refine (Pure.go pn _).mono ?_)); rintro e w' ⟨rfl, x, rfl⟩))
        all_goals
          go_ret
          refine ⟨?_, ?_⟩
          · simp_all [toList_beq]
          · repeat' (with_reducible (first | exact Below.refl _ _ | assumption | refine Below.drew ?_ | refine Below.alloc ?_ ?_ _ | refine Below.setCell ?_ ?_ _ | refine below_later ?_ ?_ _))
            all_goals (repeat' (with_reducible (first | exact Nat.le_refl _ | assumption | refine le_size_later ?_ | refine le_size_alloc ?_ | refine le_size_set ?_ | refine le_size_drew ?_)))
            all_goals (first | omega | (simp; done) | (simp; omega))
      · rcases k2 with _ | _
        · rcases sb with _ | _ <;> rcases e with _ | _
          all_goals
            go_enter Try.func59, Try.ntmps59
            go_wp2_with (first | (go_at_call 91; (first | (with_reducible refine (Pure.inn px _ _).mono ?_) | (with_reducible refine (Pure.go px _).mono ?_)); rintro e w' ⟨rfl, x, rfl⟩) | (go_at_call 92; (first | (with_reducible refine (Pure.inn pz _ _).mono ?_) | (with_reducible refine (Pure.go pz _).mono ?_)); rintro e w' ⟨rfl, x, rfl⟩) | (go_at_call 31; (first | (with_reducible refine (Pure.inn pl _ _).mono ?_) | (with_reducible refine (Pure.go pl _).mono ?_)); rintro e w' ⟨rfl, x, rfl⟩) | (go_at_call 92; (first | (with_reducible refine (Pure.inn pn _ _).mono ?_) | (with_reducible refine (Pure.go pn _).mono ?_)); rintro e w' ⟨rfl, x, rfl⟩))
            all_goals
              go_ret
              refine ⟨?_, ?_⟩
              · simp_all [toList_beq]
              · repeat' (with_reducible (first | exact Below.refl _ _ | assumption | refine Below.drew ?_ | refine Below.alloc ?_ ?_ _ | refine Below.setCell ?_ ?_ _ | refine below_later ?_ ?_ _))
                all_goals (repeat' (with_reducible (first | exact Nat.le_refl _ | assumption | refine le_size_later ?_ | refine le_size_alloc ?_ | refine le_size_set ?_ | refine le_size_drew ?_)))
                all_goals (first | omega | (simp; done) | (simp; omega))
        · rcases k with _ | _
          · rcases e with _ | _ <;> rcases z with _ | _
            all_goals
              go_enter Try.func59, Try.ntmps59
              go_wp2_with (first | (go_at_call 91; (first | (with_reducible refine (Pure.inn px _ _).mono ?_) | (with_reducible refine (Pure.go px _).mono ?_)); rintro e w' ⟨rfl, x, rfl⟩) | (go_at_call 92; (first | (with_reducible refine (Pure.inn pz _ _).mono ?_) | (with_reducible refine (Pure.go pz _).mono ?_)); rintro e w' ⟨rfl, x, rfl⟩) | (go_at_call 31; (first | (with_reducible refine (Pure.inn pl _ _).mono ?_) | (with_reducible refine (Pure.go pl _).mono ?_)); rintro e w' ⟨rfl, x, rfl⟩) | (go_at_call 92; (first | (with_reducible refine (Pure.inn pn _ _).mono ?_) | (with_reducible refine (Pure.go pn _).mono ?_)); rintro e w' ⟨rfl, x, rfl⟩))
              all_goals
                go_ret
                refine ⟨?_, ?_⟩
                · simp_all [toList_beq]
                · repeat' (with_reducible (first | exact Below.refl _ _ | assumption | refine Below.drew ?_ | refine Below.alloc ?_ ?_ _ | refine Below.setCell ?_ ?_ _ | refine below_later ?_ ?_ _))
                  all_goals (repeat' (with_reducible (first | exact Nat.le_refl _ | assumption | refine le_size_later ?_ | refine le_size_alloc ?_ | refine le_size_set ?_ | refine le_size_drew ?_)))
                  all_goals (first | omega | (simp; done) | (simp; omega))
          · cases hl : (l.toList == l2.toList)
            all_goals
              go_enter Try.func59, Try.ntmps59
              go_wp2_with (first | (go_at_call 91; (first | (with_reducible refine (Pure.inn px _ _).mono ?_) | (with_reducible refine (Pure.go px _).mono ?_)); rintro e w' ⟨rfl, x, rfl⟩) | (go_at_call 92; (first | (with_reducible refine (Pure.inn pz _ _).mono ?_) | (with_reducible refine (Pure.go pz _).mono ?_)); rintro e w' ⟨rfl, x, rfl⟩) | (go_at_call 31; (first | (with_reducible refine (Pure.inn pl _ _).mono ?_) | (with_reducible refine (Pure.go pl _).mono ?_)); rintro e w' ⟨rfl, x, rfl⟩) | (go_at_call 92; (first | (with_reducible refine (Pure.inn pn _ _).mono ?_) | (with_reducible refine (Pure.go pn _).mono ?_)); rintro e w' ⟨rfl, x, rfl⟩))
              all_goals
                go_ret
                refine ⟨?_, ?_⟩
                · simp_all [toList_beq]
                · repeat' (with_reducible (first | exact Below.refl _ _ | assumption | refine Below.drew ?_ | refine Below.alloc ?_ ?_ _ | refine Below.setCell ?_ ?_ _ | refine below_later ?_ ?_ _))
                  all_goals (repeat' (with_reducible (first | exact Nat.le_refl _ | assumption | refine le_size_later ?_ | refine le_size_alloc ?_ | refine le_size_set ?_ | refine le_size_drew ?_)))
                  all_goals (first | omega | (simp; done) | (simp; omega))

end Go.Proofs.Ytlbonbkaddeeeaa
