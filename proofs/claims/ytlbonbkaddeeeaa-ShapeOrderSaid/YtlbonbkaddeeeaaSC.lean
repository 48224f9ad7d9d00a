/-
  The walks of what joins shapes.
-/
import Derived.Test.YtlbonbkaddeeeaaSB
set_option linter.unusedSimpArgs false
set_option linter.unusedVariables false
namespace Go.Proofs.Ytlbonbkaddeeeaa
open Go.RowKit Go.Eng Go.Conch

theorem later4 {w x wr : World} {o0 o1 o2 o3 : Obj} (h : later ((((w.alloc o0).alloc o1).alloc o2).alloc o3) x = wr) :
    Below w.heap.size w wr ∧ wr.heap[w.heap.size]? = some o0 ∧ wr.heap[w.heap.size + 1]? = some o1 ∧ wr.heap[w.heap.size + 1 + 1]? = some o2 ∧ wr.heap[w.heap.size + 1 + 1 + 1]? = some o3 := by
  subst h
  refine ⟨?_, ?_, ?_, ?_, ?_⟩
  · repeat' (with_reducible (first | exact Below.refl _ _ | assumption | refine Below.drew ?_ | refine Below.alloc ?_ ?_ _ | refine Below.setCell ?_ ?_ _ | refine below_later ?_ ?_ _))
    all_goals (repeat' (with_reducible (first | exact Nat.le_refl _ | assumption | refine le_size_later ?_ | refine le_size_alloc ?_ | refine le_size_set ?_ | refine le_size_drew ?_)))
    all_goals (first | omega | (simp; done) | (simp; omega))
  · refine block_later ?_
    repeat (first | (refine alloc_here ?_; simp; done) | (refine (alloc_old ?_).trans ?_; (simp <;> omega)))
  · refine block_later ?_
    repeat (first | (refine alloc_here ?_; simp; done) | (refine (alloc_old ?_).trans ?_; (simp <;> omega)))
  · refine block_later ?_
    repeat (first | (refine alloc_here ?_; simp; done) | (refine (alloc_old ?_).trans ?_; (simp <;> omega)))
  · refine block_later ?_
    repeat (first | (refine alloc_here ?_; simp; done) | (refine (alloc_old ?_).trans ?_; (simp <;> omega)))

theorem later_keep {w wr x wv : World} {b0 b1 b2 b3 : Nat} {o0 o1 o2 o3 : Obj} (hB : Below w.heap.size w wr) (h0 : wr.heap[b0]? = some o0) (h1 : wr.heap[b1]? = some o1) (h2 : wr.heap[b2]? = some o2) (h3 : wr.heap[b3]? = some o3)
    (h : later wr x = wv) : Below w.heap.size w wv ∧ wv.heap[b0]? = some o0 ∧ wv.heap[b1]? = some o1 ∧ wv.heap[b2]? = some o2 ∧ wv.heap[b3]? = some o3 := by
  subst h
  exact ⟨below_later hB hB.size x, block_later h0, block_later h1, block_later h2, block_later h3⟩

set_option maxRecDepth 100000 in
set_option maxHeartbeats 20000000 in
theorem join_pure (x y : Sh) : Pure Try.prog 39 #[x.val, y.val] (x.join y).val := by
  intro w
  have px := there_pure x
  have py := there_pure y
  have e1 : x.join y = ⟨x.u || y.u, (if !x.there then y else if y.there && !(x.k && (y.k && (x.lit.toList == y.lit.toList))) then ⟨false, x.e || y.e, x.has.or y.has, false, ⟨#[]⟩⟩ else x).e,
      (if !x.there then y else if y.there && !(x.k && (y.k && (x.lit.toList == y.lit.toList))) then ⟨false, x.e || y.e, x.has.or y.has, false, ⟨#[]⟩⟩ else x).has,
      (if !x.there then y else if y.there && !(x.k && (y.k && (x.lit.toList == y.lit.toList))) then ⟨false, x.e || y.e, x.has.or y.has, false, ⟨#[]⟩⟩ else x).k,
      (if !x.there then y else if y.there && !(x.k && (y.k && (x.lit.toList == y.lit.toList))) then ⟨false, x.e || y.e, x.has.or y.has, false, ⟨#[]⟩⟩ else x).lit⟩ := by
    rw [toList_beq]; rfl
  generalize hR : (x.join y).val = R
  rw [e1] at hR
  clear e1
  replace hR := hide hR
  generalize x.there = tx at *
  generalize y.there = ty at *
  obtain ⟨u, e, h, k, l⟩ := x
  obtain ⟨u2, e2, h2, k2, l2⟩ := y
  rcases u with _ | _
  · rcases tx with _ | _
    · skip
      go_enter Try.func39, Try.ntmps39
      go_wp2_with (first | ((go_at_call 83; (first | (with_reducible refine (Pure.inn px _ _).mono ?_) | (with_reducible refine (Pure.go px _).mono ?_)); rintro e w' ⟨rfl, x, rfl⟩); generalize hw : later (World.alloc _ _) _ = wr; obtain ⟨hB, f0, f1, f2, f3⟩ := later4 hw; clear hw; obtain ⟨c00, c01, c02, c03, c04, c05, c06, c07, c08, c09⟩ := block_eight f0; obtain ⟨c10, c11, c12, c13, c14, c15, c16, c17, c18, c19⟩ := block_eight f1; obtain ⟨c20, c21, c22, c23, c24, c25, c26, c27, c28, c29⟩ := block_eight f2; obtain ⟨c30, c31, c32, c33, c34, c35, c36, c37, c38, c39⟩ := block_eight f3) | ((go_at_call 83; (first | (with_reducible refine (Pure.inn py _ _).mono ?_) | (with_reducible refine (Pure.go py _).mono ?_)); rintro e w' ⟨rfl, x, rfl⟩); clear c00 c01 c02 c03 c04 c05 c06 c07 c08 c09 c10 c11 c12 c13 c14 c15 c16 c17 c18 c19 c20 c21 c22 c23 c24 c25 c26 c27 c28 c29 c30 c31 c32 c33 c34 c35 c36 c37 c38 c39; generalize hw : later wr _ = wv; obtain ⟨hB', g0, g1, g2, g3⟩ := later_keep hB f0 f1 f2 f3 hw; clear hw hB f0 f1 f2 f3; clear wr; revert hB' g0 g1 g2 g3; revert wv; intro wr hB f0 f1 f2 f3; obtain ⟨c00, c01, c02, c03, c04, c05, c06, c07, c08, c09⟩ := block_eight f0; obtain ⟨c10, c11, c12, c13, c14, c15, c16, c17, c18, c19⟩ := block_eight f1; obtain ⟨c20, c21, c22, c23, c24, c25, c26, c27, c28, c29⟩ := block_eight f2; obtain ⟨c30, c31, c32, c33, c34, c35, c36, c37, c38, c39⟩ := block_eight f3))
      refine bodyPost_ret (v := R) ?_ rfl ⟨rfl, ?_⟩
      · simp [results, Try.results39, go_sem, ← hR.out, c20, c21, c22, c23, c24, c25, c26, c27, c28, c29]
      · repeat' (with_reducible (first | exact Below.refl _ _ | assumption | refine Below.drew ?_ | refine Below.alloc ?_ ?_ _ | refine Below.setCell ?_ ?_ _ | refine below_later ?_ ?_ _))
        all_goals (repeat' (with_reducible (first | exact Nat.le_refl _ | assumption | refine le_size_later ?_ | refine le_size_alloc ?_ | refine le_size_set ?_ | refine le_size_drew ?_)))
        all_goals (first | omega | (simp; done) | (simp; omega))
    · rcases ty with _ | _
      · skip
        go_enter Try.func39, Try.ntmps39
        go_wp2_with (first | ((go_at_call 83; (first | (with_reducible refine (Pure.inn px _ _).mono ?_) | (with_reducible refine (Pure.go px _).mono ?_)); rintro e w' ⟨rfl, x, rfl⟩); generalize hw : later (World.alloc _ _) _ = wr; obtain ⟨hB, f0, f1, f2, f3⟩ := later4 hw; clear hw; obtain ⟨c00, c01, c02, c03, c04, c05, c06, c07, c08, c09⟩ := block_eight f0; obtain ⟨c10, c11, c12, c13, c14, c15, c16, c17, c18, c19⟩ := block_eight f1; obtain ⟨c20, c21, c22, c23, c24, c25, c26, c27, c28, c29⟩ := block_eight f2; obtain ⟨c30, c31, c32, c33, c34, c35, c36, c37, c38, c39⟩ := block_eight f3) | ((go_at_call 83; (first | (with_reducible refine (Pure.inn py _ _).mono ?_) | (with_reducible refine (Pure.go py _).mono ?_)); rintro e w' ⟨rfl, x, rfl⟩); clear c00 c01 c02 c03 c04 c05 c06 c07 c08 c09 c10 c11 c12 c13 c14 c15 c16 c17 c18 c19 c20 c21 c22 c23 c24 c25 c26 c27 c28 c29 c30 c31 c32 c33 c34 c35 c36 c37 c38 c39; generalize hw : later wr _ = wv; obtain ⟨hB', g0, g1, g2, g3⟩ := later_keep hB f0 f1 f2 f3 hw; clear hw hB f0 f1 f2 f3; clear wr; revert hB' g0 g1 g2 g3; revert wv; intro wr hB f0 f1 f2 f3; obtain ⟨c00, c01, c02, c03, c04, c05, c06, c07, c08, c09⟩ := block_eight f0; obtain ⟨c10, c11, c12, c13, c14, c15, c16, c17, c18, c19⟩ := block_eight f1; obtain ⟨c20, c21, c22, c23, c24, c25, c26, c27, c28, c29⟩ := block_eight f2; obtain ⟨c30, c31, c32, c33, c34, c35, c36, c37, c38, c39⟩ := block_eight f3))
        refine bodyPost_ret (v := R) ?_ rfl ⟨rfl, ?_⟩
        · simp [results, Try.results39, go_sem, ← hR.out, c20, c21, c22, c23, c24, c25, c26, c27, c28, c29]
        · repeat' (with_reducible (first | exact Below.refl _ _ | assumption | refine Below.drew ?_ | refine Below.alloc ?_ ?_ _ | refine Below.setCell ?_ ?_ _ | refine below_later ?_ ?_ _))
          all_goals (repeat' (with_reducible (first | exact Nat.le_refl _ | assumption | refine le_size_later ?_ | refine le_size_alloc ?_ | refine le_size_set ?_ | refine le_size_drew ?_)))
          all_goals (first | omega | (simp; done) | (simp; omega))
      · rcases k with _ | _
        · skip
          go_enter Try.func39, Try.ntmps39
          go_wp2_with (first | ((go_at_call 83; (first | (with_reducible refine (Pure.inn px _ _).mono ?_) | (with_reducible refine (Pure.go px _).mono ?_)); rintro e w' ⟨rfl, x, rfl⟩); generalize hw : later (World.alloc _ _) _ = wr; obtain ⟨hB, f0, f1, f2, f3⟩ := later4 hw; clear hw; obtain ⟨c00, c01, c02, c03, c04, c05, c06, c07, c08, c09⟩ := block_eight f0; obtain ⟨c10, c11, c12, c13, c14, c15, c16, c17, c18, c19⟩ := block_eight f1; obtain ⟨c20, c21, c22, c23, c24, c25, c26, c27, c28, c29⟩ := block_eight f2; obtain ⟨c30, c31, c32, c33, c34, c35, c36, c37, c38, c39⟩ := block_eight f3) | ((go_at_call 83; (first | (with_reducible refine (Pure.inn py _ _).mono ?_) | (with_reducible refine (Pure.go py _).mono ?_)); rintro e w' ⟨rfl, x, rfl⟩); clear c00 c01 c02 c03 c04 c05 c06 c07 c08 c09 c10 c11 c12 c13 c14 c15 c16 c17 c18 c19 c20 c21 c22 c23 c24 c25 c26 c27 c28 c29 c30 c31 c32 c33 c34 c35 c36 c37 c38 c39; generalize hw : later wr _ = wv; obtain ⟨hB', g0, g1, g2, g3⟩ := later_keep hB f0 f1 f2 f3 hw; clear hw hB f0 f1 f2 f3; clear wr; revert hB' g0 g1 g2 g3; revert wv; intro wr hB f0 f1 f2 f3; obtain ⟨c00, c01, c02, c03, c04, c05, c06, c07, c08, c09⟩ := block_eight f0; obtain ⟨c10, c11, c12, c13, c14, c15, c16, c17, c18, c19⟩ := block_eight f1; obtain ⟨c20, c21, c22, c23, c24, c25, c26, c27, c28, c29⟩ := block_eight f2; obtain ⟨c30, c31, c32, c33, c34, c35, c36, c37, c38, c39⟩ := block_eight f3))
          rcases e with _ | _
          all_goals
            refine region_pure_tail 12 (by kernel_rfl) (by kernel_rfl) ?_
            simp only [List.take_succ_cons, List.take_zero, List.drop_succ_cons, List.drop_zero]
            repeat go_big_quiet_step ((go_at_call 23; exact Pure.inn (or_pure _ _) _ _))
            refine wpQuiet_nil ?_
            intro x
            (clear c00 c01 c02 c03 c04 c05 c06 c07 c08 c09 c10 c11 c12 c13 c14 c15 c16 c17 c18 c19 c20 c21 c22 c23 c24 c25 c26 c27 c28 c29 c30 c31 c32 c33 c34 c35 c36 c37 c38 c39; generalize hw : later wr _ = wv; obtain ⟨hB', g0, g1, g2, g3⟩ := later_keep hB f0 f1 f2 f3 hw; clear hw hB f0 f1 f2 f3; clear wr; revert hB' g0 g1 g2 g3; revert wv; intro wr hB f0 f1 f2 f3; obtain ⟨c00, c01, c02, c03, c04, c05, c06, c07, c08, c09⟩ := block_eight f0; obtain ⟨c10, c11, c12, c13, c14, c15, c16, c17, c18, c19⟩ := block_eight f1; obtain ⟨c20, c21, c22, c23, c24, c25, c26, c27, c28, c29⟩ := block_eight f2; obtain ⟨c30, c31, c32, c33, c34, c35, c36, c37, c38, c39⟩ := block_eight f3)
            go_wp2
            refine bodyPost_ret (v := R) ?_ rfl ⟨rfl, ?_⟩
            · simp [results, Try.results39, go_sem, ← hR.out, c20, c21, c22, c23, c24, c25, c26, c27, c28, c29]
            · repeat' (with_reducible (first | exact Below.refl _ _ | assumption | refine Below.drew ?_ | refine Below.alloc ?_ ?_ _ | refine Below.setCell ?_ ?_ _ | refine below_later ?_ ?_ _))
              all_goals (repeat' (with_reducible (first | exact Nat.le_refl _ | assumption | refine le_size_later ?_ | refine le_size_alloc ?_ | refine le_size_set ?_ | refine le_size_drew ?_)))
              all_goals (first | omega | (simp; done) | (simp; omega))
        · rcases k2 with _ | _
          · skip
            go_enter Try.func39, Try.ntmps39
            go_wp2_with (first | ((go_at_call 83; (first | (with_reducible refine (Pure.inn px _ _).mono ?_) | (with_reducible refine (Pure.go px _).mono ?_)); rintro e w' ⟨rfl, x, rfl⟩); generalize hw : later (World.alloc _ _) _ = wr; obtain ⟨hB, f0, f1, f2, f3⟩ := later4 hw; clear hw; obtain ⟨c00, c01, c02, c03, c04, c05, c06, c07, c08, c09⟩ := block_eight f0; obtain ⟨c10, c11, c12, c13, c14, c15, c16, c17, c18, c19⟩ := block_eight f1; obtain ⟨c20, c21, c22, c23, c24, c25, c26, c27, c28, c29⟩ := block_eight f2; obtain ⟨c30, c31, c32, c33, c34, c35, c36, c37, c38, c39⟩ := block_eight f3) | ((go_at_call 83; (first | (with_reducible refine (Pure.inn py _ _).mono ?_) | (with_reducible refine (Pure.go py _).mono ?_)); rintro e w' ⟨rfl, x, rfl⟩); clear c00 c01 c02 c03 c04 c05 c06 c07 c08 c09 c10 c11 c12 c13 c14 c15 c16 c17 c18 c19 c20 c21 c22 c23 c24 c25 c26 c27 c28 c29 c30 c31 c32 c33 c34 c35 c36 c37 c38 c39; generalize hw : later wr _ = wv; obtain ⟨hB', g0, g1, g2, g3⟩ := later_keep hB f0 f1 f2 f3 hw; clear hw hB f0 f1 f2 f3; clear wr; revert hB' g0 g1 g2 g3; revert wv; intro wr hB f0 f1 f2 f3; obtain ⟨c00, c01, c02, c03, c04, c05, c06, c07, c08, c09⟩ := block_eight f0; obtain ⟨c10, c11, c12, c13, c14, c15, c16, c17, c18, c19⟩ := block_eight f1; obtain ⟨c20, c21, c22, c23, c24, c25, c26, c27, c28, c29⟩ := block_eight f2; obtain ⟨c30, c31, c32, c33, c34, c35, c36, c37, c38, c39⟩ := block_eight f3))
            rcases e with _ | _
            all_goals
              refine region_pure_tail 12 (by kernel_rfl) (by kernel_rfl) ?_
              simp only [List.take_succ_cons, List.take_zero, List.drop_succ_cons, List.drop_zero]
              repeat go_big_quiet_step ((go_at_call 23; exact Pure.inn (or_pure _ _) _ _))
              refine wpQuiet_nil ?_
              intro x
              (clear c00 c01 c02 c03 c04 c05 c06 c07 c08 c09 c10 c11 c12 c13 c14 c15 c16 c17 c18 c19 c20 c21 c22 c23 c24 c25 c26 c27 c28 c29 c30 c31 c32 c33 c34 c35 c36 c37 c38 c39; generalize hw : later wr _ = wv; obtain ⟨hB', g0, g1, g2, g3⟩ := later_keep hB f0 f1 f2 f3 hw; clear hw hB f0 f1 f2 f3; clear wr; revert hB' g0 g1 g2 g3; revert wv; intro wr hB f0 f1 f2 f3; obtain ⟨c00, c01, c02, c03, c04, c05, c06, c07, c08, c09⟩ := block_eight f0; obtain ⟨c10, c11, c12, c13, c14, c15, c16, c17, c18, c19⟩ := block_eight f1; obtain ⟨c20, c21, c22, c23, c24, c25, c26, c27, c28, c29⟩ := block_eight f2; obtain ⟨c30, c31, c32, c33, c34, c35, c36, c37, c38, c39⟩ := block_eight f3)
              go_wp2
              refine bodyPost_ret (v := R) ?_ rfl ⟨rfl, ?_⟩
              · simp [results, Try.results39, go_sem, ← hR.out, c20, c21, c22, c23, c24, c25, c26, c27, c28, c29]
              · repeat' (with_reducible (first | exact Below.refl _ _ | assumption | refine Below.drew ?_ | refine Below.alloc ?_ ?_ _ | refine Below.setCell ?_ ?_ _ | refine below_later ?_ ?_ _))
                all_goals (repeat' (with_reducible (first | exact Nat.le_refl _ | assumption | refine le_size_later ?_ | refine le_size_alloc ?_ | refine le_size_set ?_ | refine le_size_drew ?_)))
                all_goals (first | omega | (simp; done) | (simp; omega))
          · cases hl : (l.toList == l2.toList)
            · rw [hl] at hR
              go_enter Try.func39, Try.ntmps39
              go_wp2_with (first | ((go_at_call 83; (first | (with_reducible refine (Pure.inn px _ _).mono ?_) | (with_reducible refine (Pure.go px _).mono ?_)); rintro e w' ⟨rfl, x, rfl⟩); generalize hw : later (World.alloc _ _) _ = wr; obtain ⟨hB, f0, f1, f2, f3⟩ := later4 hw; clear hw; obtain ⟨c00, c01, c02, c03, c04, c05, c06, c07, c08, c09⟩ := block_eight f0; obtain ⟨c10, c11, c12, c13, c14, c15, c16, c17, c18, c19⟩ := block_eight f1; obtain ⟨c20, c21, c22, c23, c24, c25, c26, c27, c28, c29⟩ := block_eight f2; obtain ⟨c30, c31, c32, c33, c34, c35, c36, c37, c38, c39⟩ := block_eight f3) | ((go_at_call 83; (first | (with_reducible refine (Pure.inn py _ _).mono ?_) | (with_reducible refine (Pure.go py _).mono ?_)); rintro e w' ⟨rfl, x, rfl⟩); clear c00 c01 c02 c03 c04 c05 c06 c07 c08 c09 c10 c11 c12 c13 c14 c15 c16 c17 c18 c19 c20 c21 c22 c23 c24 c25 c26 c27 c28 c29 c30 c31 c32 c33 c34 c35 c36 c37 c38 c39; generalize hw : later wr _ = wv; obtain ⟨hB', g0, g1, g2, g3⟩ := later_keep hB f0 f1 f2 f3 hw; clear hw hB f0 f1 f2 f3; clear wr; revert hB' g0 g1 g2 g3; revert wv; intro wr hB f0 f1 f2 f3; obtain ⟨c00, c01, c02, c03, c04, c05, c06, c07, c08, c09⟩ := block_eight f0; obtain ⟨c10, c11, c12, c13, c14, c15, c16, c17, c18, c19⟩ := block_eight f1; obtain ⟨c20, c21, c22, c23, c24, c25, c26, c27, c28, c29⟩ := block_eight f2; obtain ⟨c30, c31, c32, c33, c34, c35, c36, c37, c38, c39⟩ := block_eight f3))
              rcases e with _ | _
              all_goals
                refine region_pure_tail 12 (by kernel_rfl) (by kernel_rfl) ?_
                simp only [List.take_succ_cons, List.take_zero, List.drop_succ_cons, List.drop_zero]
                repeat go_big_quiet_step ((go_at_call 23; exact Pure.inn (or_pure _ _) _ _))
                refine wpQuiet_nil ?_
                intro x
                (clear c00 c01 c02 c03 c04 c05 c06 c07 c08 c09 c10 c11 c12 c13 c14 c15 c16 c17 c18 c19 c20 c21 c22 c23 c24 c25 c26 c27 c28 c29 c30 c31 c32 c33 c34 c35 c36 c37 c38 c39; generalize hw : later wr _ = wv; obtain ⟨hB', g0, g1, g2, g3⟩ := later_keep hB f0 f1 f2 f3 hw; clear hw hB f0 f1 f2 f3; clear wr; revert hB' g0 g1 g2 g3; revert wv; intro wr hB f0 f1 f2 f3; obtain ⟨c00, c01, c02, c03, c04, c05, c06, c07, c08, c09⟩ := block_eight f0; obtain ⟨c10, c11, c12, c13, c14, c15, c16, c17, c18, c19⟩ := block_eight f1; obtain ⟨c20, c21, c22, c23, c24, c25, c26, c27, c28, c29⟩ := block_eight f2; obtain ⟨c30, c31, c32, c33, c34, c35, c36, c37, c38, c39⟩ := block_eight f3)
                go_wp2
                refine bodyPost_ret (v := R) ?_ rfl ⟨rfl, ?_⟩
                · simp [results, Try.results39, go_sem, ← hR.out, c20, c21, c22, c23, c24, c25, c26, c27, c28, c29, hl]
                · repeat' (with_reducible (first | exact Below.refl _ _ | assumption | refine Below.drew ?_ | refine Below.alloc ?_ ?_ _ | refine Below.setCell ?_ ?_ _ | refine below_later ?_ ?_ _))
                  all_goals (repeat' (with_reducible (first | exact Nat.le_refl _ | assumption | refine le_size_later ?_ | refine le_size_alloc ?_ | refine le_size_set ?_ | refine le_size_drew ?_)))
                  all_goals (first | omega | (simp; done) | (simp; omega))
            · rw [hl] at hR
              go_enter Try.func39, Try.ntmps39
              go_wp2_with (first | ((go_at_call 83; (first | (with_reducible refine (Pure.inn px _ _).mono ?_) | (with_reducible refine (Pure.go px _).mono ?_)); rintro e w' ⟨rfl, x, rfl⟩); generalize hw : later (World.alloc _ _) _ = wr; obtain ⟨hB, f0, f1, f2, f3⟩ := later4 hw; clear hw; obtain ⟨c00, c01, c02, c03, c04, c05, c06, c07, c08, c09⟩ := block_eight f0; obtain ⟨c10, c11, c12, c13, c14, c15, c16, c17, c18, c19⟩ := block_eight f1; obtain ⟨c20, c21, c22, c23, c24, c25, c26, c27, c28, c29⟩ := block_eight f2; obtain ⟨c30, c31, c32, c33, c34, c35, c36, c37, c38, c39⟩ := block_eight f3) | ((go_at_call 83; (first | (with_reducible refine (Pure.inn py _ _).mono ?_) | (with_reducible refine (Pure.go py _).mono ?_)); rintro e w' ⟨rfl, x, rfl⟩); clear c00 c01 c02 c03 c04 c05 c06 c07 c08 c09 c10 c11 c12 c13 c14 c15 c16 c17 c18 c19 c20 c21 c22 c23 c24 c25 c26 c27 c28 c29 c30 c31 c32 c33 c34 c35 c36 c37 c38 c39; generalize hw : later wr _ = wv; obtain ⟨hB', g0, g1, g2, g3⟩ := later_keep hB f0 f1 f2 f3 hw; clear hw hB f0 f1 f2 f3; clear wr; revert hB' g0 g1 g2 g3; revert wv; intro wr hB f0 f1 f2 f3; obtain ⟨c00, c01, c02, c03, c04, c05, c06, c07, c08, c09⟩ := block_eight f0; obtain ⟨c10, c11, c12, c13, c14, c15, c16, c17, c18, c19⟩ := block_eight f1; obtain ⟨c20, c21, c22, c23, c24, c25, c26, c27, c28, c29⟩ := block_eight f2; obtain ⟨c30, c31, c32, c33, c34, c35, c36, c37, c38, c39⟩ := block_eight f3))
              refine bodyPost_ret (v := R) ?_ rfl ⟨rfl, ?_⟩
              · simp [results, Try.results39, go_sem, ← hR.out, c20, c21, c22, c23, c24, c25, c26, c27, c28, c29]
              · repeat' (with_reducible (first | exact Below.refl _ _ | assumption | refine Below.drew ?_ | refine Below.alloc ?_ ?_ _ | refine Below.setCell ?_ ?_ _ | refine below_later ?_ ?_ _))
                all_goals (repeat' (with_reducible (first | exact Nat.le_refl _ | assumption | refine le_size_later ?_ | refine le_size_alloc ?_ | refine le_size_set ?_ | refine le_size_drew ?_)))
                all_goals (first | omega | (simp; done) | (simp; omega))
  · rcases tx with _ | _
    · skip
      go_enter Try.func39, Try.ntmps39
      go_wp2_with (first | ((go_at_call 83; (first | (with_reducible refine (Pure.inn px _ _).mono ?_) | (with_reducible refine (Pure.go px _).mono ?_)); rintro e w' ⟨rfl, x, rfl⟩); generalize hw : later (World.alloc _ _) _ = wr; obtain ⟨hB, f0, f1, f2, f3⟩ := later4 hw; clear hw; obtain ⟨c00, c01, c02, c03, c04, c05, c06, c07, c08, c09⟩ := block_eight f0; obtain ⟨c10, c11, c12, c13, c14, c15, c16, c17, c18, c19⟩ := block_eight f1; obtain ⟨c20, c21, c22, c23, c24, c25, c26, c27, c28, c29⟩ := block_eight f2; obtain ⟨c30, c31, c32, c33, c34, c35, c36, c37, c38, c39⟩ := block_eight f3) | ((go_at_call 83; (first | (with_reducible refine (Pure.inn py _ _).mono ?_) | (with_reducible refine (Pure.go py _).mono ?_)); rintro e w' ⟨rfl, x, rfl⟩); clear c00 c01 c02 c03 c04 c05 c06 c07 c08 c09 c10 c11 c12 c13 c14 c15 c16 c17 c18 c19 c20 c21 c22 c23 c24 c25 c26 c27 c28 c29 c30 c31 c32 c33 c34 c35 c36 c37 c38 c39; generalize hw : later wr _ = wv; obtain ⟨hB', g0, g1, g2, g3⟩ := later_keep hB f0 f1 f2 f3 hw; clear hw hB f0 f1 f2 f3; clear wr; revert hB' g0 g1 g2 g3; revert wv; intro wr hB f0 f1 f2 f3; obtain ⟨c00, c01, c02, c03, c04, c05, c06, c07, c08, c09⟩ := block_eight f0; obtain ⟨c10, c11, c12, c13, c14, c15, c16, c17, c18, c19⟩ := block_eight f1; obtain ⟨c20, c21, c22, c23, c24, c25, c26, c27, c28, c29⟩ := block_eight f2; obtain ⟨c30, c31, c32, c33, c34, c35, c36, c37, c38, c39⟩ := block_eight f3))
      refine bodyPost_ret (v := R) ?_ rfl ⟨rfl, ?_⟩
      · simp [results, Try.results39, go_sem, ← hR.out, c20, c21, c22, c23, c24, c25, c26, c27, c28, c29]
      · repeat' (with_reducible (first | exact Below.refl _ _ | assumption | refine Below.drew ?_ | refine Below.alloc ?_ ?_ _ | refine Below.setCell ?_ ?_ _ | refine below_later ?_ ?_ _))
        all_goals (repeat' (with_reducible (first | exact Nat.le_refl _ | assumption | refine le_size_later ?_ | refine le_size_alloc ?_ | refine le_size_set ?_ | refine le_size_drew ?_)))
        all_goals (first | omega | (simp; done) | (simp; omega))
    · rcases ty with _ | _
      · skip
        go_enter Try.func39, Try.ntmps39
        go_wp2_with (first | ((go_at_call 83; (first | (with_reducible refine (Pure.inn px _ _).mono ?_) | (with_reducible refine (Pure.go px _).mono ?_)); rintro e w' ⟨rfl, x, rfl⟩); generalize hw : later (World.alloc _ _) _ = wr; obtain ⟨hB, f0, f1, f2, f3⟩ := later4 hw; clear hw; obtain ⟨c00, c01, c02, c03, c04, c05, c06, c07, c08, c09⟩ := block_eight f0; obtain ⟨c10, c11, c12, c13, c14, c15, c16, c17, c18, c19⟩ := block_eight f1; obtain ⟨c20, c21, c22, c23, c24, c25, c26, c27, c28, c29⟩ := block_eight f2; obtain ⟨c30, c31, c32, c33, c34, c35, c36, c37, c38, c39⟩ := block_eight f3) | ((go_at_call 83; (first | (with_reducible refine (Pure.inn py _ _).mono ?_) | (with_reducible refine (Pure.go py _).mono ?_)); rintro e w' ⟨rfl, x, rfl⟩); clear c00 c01 c02 c03 c04 c05 c06 c07 c08 c09 c10 c11 c12 c13 c14 c15 c16 c17 c18 c19 c20 c21 c22 c23 c24 c25 c26 c27 c28 c29 c30 c31 c32 c33 c34 c35 c36 c37 c38 c39; generalize hw : later wr _ = wv; obtain ⟨hB', g0, g1, g2, g3⟩ := later_keep hB f0 f1 f2 f3 hw; clear hw hB f0 f1 f2 f3; clear wr; revert hB' g0 g1 g2 g3; revert wv; intro wr hB f0 f1 f2 f3; obtain ⟨c00, c01, c02, c03, c04, c05, c06, c07, c08, c09⟩ := block_eight f0; obtain ⟨c10, c11, c12, c13, c14, c15, c16, c17, c18, c19⟩ := block_eight f1; obtain ⟨c20, c21, c22, c23, c24, c25, c26, c27, c28, c29⟩ := block_eight f2; obtain ⟨c30, c31, c32, c33, c34, c35, c36, c37, c38, c39⟩ := block_eight f3))
        refine bodyPost_ret (v := R) ?_ rfl ⟨rfl, ?_⟩
        · simp [results, Try.results39, go_sem, ← hR.out, c20, c21, c22, c23, c24, c25, c26, c27, c28, c29]
        · repeat' (with_reducible (first | exact Below.refl _ _ | assumption | refine Below.drew ?_ | refine Below.alloc ?_ ?_ _ | refine Below.setCell ?_ ?_ _ | refine below_later ?_ ?_ _))
          all_goals (repeat' (with_reducible (first | exact Nat.le_refl _ | assumption | refine le_size_later ?_ | refine le_size_alloc ?_ | refine le_size_set ?_ | refine le_size_drew ?_)))
          all_goals (first | omega | (simp; done) | (simp; omega))
      · rcases k with _ | _
        · skip
          go_enter Try.func39, Try.ntmps39
          go_wp2_with (first | ((go_at_call 83; (first | (with_reducible refine (Pure.inn px _ _).mono ?_) | (with_reducible refine (Pure.go px _).mono ?_)); rintro e w' ⟨rfl, x, rfl⟩); generalize hw : later (World.alloc _ _) _ = wr; obtain ⟨hB, f0, f1, f2, f3⟩ := later4 hw; clear hw; obtain ⟨c00, c01, c02, c03, c04, c05, c06, c07, c08, c09⟩ := block_eight f0; obtain ⟨c10, c11, c12, c13, c14, c15, c16, c17, c18, c19⟩ := block_eight f1; obtain ⟨c20, c21, c22, c23, c24, c25, c26, c27, c28, c29⟩ := block_eight f2; obtain ⟨c30, c31, c32, c33, c34, c35, c36, c37, c38, c39⟩ := block_eight f3) | ((go_at_call 83; (first | (with_reducible refine (Pure.inn py _ _).mono ?_) | (with_reducible refine (Pure.go py _).mono ?_)); rintro e w' ⟨rfl, x, rfl⟩); clear c00 c01 c02 c03 c04 c05 c06 c07 c08 c09 c10 c11 c12 c13 c14 c15 c16 c17 c18 c19 c20 c21 c22 c23 c24 c25 c26 c27 c28 c29 c30 c31 c32 c33 c34 c35 c36 c37 c38 c39; generalize hw : later wr _ = wv; obtain ⟨hB', g0, g1, g2, g3⟩ := later_keep hB f0 f1 f2 f3 hw; clear hw hB f0 f1 f2 f3; clear wr; revert hB' g0 g1 g2 g3; revert wv; intro wr hB f0 f1 f2 f3; obtain ⟨c00, c01, c02, c03, c04, c05, c06, c07, c08, c09⟩ := block_eight f0; obtain ⟨c10, c11, c12, c13, c14, c15, c16, c17, c18, c19⟩ := block_eight f1; obtain ⟨c20, c21, c22, c23, c24, c25, c26, c27, c28, c29⟩ := block_eight f2; obtain ⟨c30, c31, c32, c33, c34, c35, c36, c37, c38, c39⟩ := block_eight f3))
          rcases e with _ | _
          all_goals
            refine region_pure_tail 12 (by kernel_rfl) (by kernel_rfl) ?_
            simp only [List.take_succ_cons, List.take_zero, List.drop_succ_cons, List.drop_zero]
            repeat go_big_quiet_step ((go_at_call 23; exact Pure.inn (or_pure _ _) _ _))
            refine wpQuiet_nil ?_
            intro x
            (clear c00 c01 c02 c03 c04 c05 c06 c07 c08 c09 c10 c11 c12 c13 c14 c15 c16 c17 c18 c19 c20 c21 c22 c23 c24 c25 c26 c27 c28 c29 c30 c31 c32 c33 c34 c35 c36 c37 c38 c39; generalize hw : later wr _ = wv; obtain ⟨hB', g0, g1, g2, g3⟩ := later_keep hB f0 f1 f2 f3 hw; clear hw hB f0 f1 f2 f3; clear wr; revert hB' g0 g1 g2 g3; revert wv; intro wr hB f0 f1 f2 f3; obtain ⟨c00, c01, c02, c03, c04, c05, c06, c07, c08, c09⟩ := block_eight f0; obtain ⟨c10, c11, c12, c13, c14, c15, c16, c17, c18, c19⟩ := block_eight f1; obtain ⟨c20, c21, c22, c23, c24, c25, c26, c27, c28, c29⟩ := block_eight f2; obtain ⟨c30, c31, c32, c33, c34, c35, c36, c37, c38, c39⟩ := block_eight f3)
            go_wp2
            refine bodyPost_ret (v := R) ?_ rfl ⟨rfl, ?_⟩
            · simp [results, Try.results39, go_sem, ← hR.out, c20, c21, c22, c23, c24, c25, c26, c27, c28, c29]
            · repeat' (with_reducible (first | exact Below.refl _ _ | assumption | refine Below.drew ?_ | refine Below.alloc ?_ ?_ _ | refine Below.setCell ?_ ?_ _ | refine below_later ?_ ?_ _))
              all_goals (repeat' (with_reducible (first | exact Nat.le_refl _ | assumption | refine le_size_later ?_ | refine le_size_alloc ?_ | refine le_size_set ?_ | refine le_size_drew ?_)))
              all_goals (first | omega | (simp; done) | (simp; omega))
        · rcases k2 with _ | _
          · skip
            go_enter Try.func39, Try.ntmps39
            go_wp2_with (first | ((go_at_call 83; (first | (with_reducible refine (Pure.inn px _ _).mono ?_) | (with_reducible refine (Pure.go px _).mono ?_)); rintro e w' ⟨rfl, x, rfl⟩); generalize hw : later (World.alloc _ _) _ = wr; obtain ⟨hB, f0, f1, f2, f3⟩ := later4 hw; clear hw; obtain ⟨c00, c01, c02, c03, c04, c05, c06, c07, c08, c09⟩ := block_eight f0; obtain ⟨c10, c11, c12, c13, c14, c15, c16, c17, c18, c19⟩ := block_eight f1; obtain ⟨c20, c21, c22, c23, c24, c25, c26, c27, c28, c29⟩ := block_eight f2; obtain ⟨c30, c31, c32, c33, c34, c35, c36, c37, c38, c39⟩ := block_eight f3) | ((go_at_call 83; (first | (with_reducible refine (Pure.inn py _ _).mono ?_) | (with_reducible refine (Pure.go py _).mono ?_)); rintro e w' ⟨rfl, x, rfl⟩); clear c00 c01 c02 c03 c04 c05 c06 c07 c08 c09 c10 c11 c12 c13 c14 c15 c16 c17 c18 c19 c20 c21 c22 c23 c24 c25 c26 c27 c28 c29 c30 c31 c32 c33 c34 c35 c36 c37 c38 c39; generalize hw : later wr _ = wv; obtain ⟨hB', g0, g1, g2, g3⟩ := later_keep hB f0 f1 f2 f3 hw; clear hw hB f0 f1 f2 f3; clear wr; revert hB' g0 g1 g2 g3; revert wv; intro wr hB f0 f1 f2 f3; obtain ⟨c00, c01, c02, c03, c04, c05, c06, c07, c08, c09⟩ := block_eight f0; obtain ⟨c10, c11, c12, c13, c14, c15, c16, c17, c18, c19⟩ := block_eight f1; obtain ⟨c20, c21, c22, c23, c24, c25, c26, c27, c28, c29⟩ := block_eight f2; obtain ⟨c30, c31, c32, c33, c34, c35, c36, c37, c38, c39⟩ := block_eight f3))
            rcases e with _ | _
            all_goals
              refine region_pure_tail 12 (by kernel_rfl) (by kernel_rfl) ?_
              simp only [List.take_succ_cons, List.take_zero, List.drop_succ_cons, List.drop_zero]
              repeat go_big_quiet_step ((go_at_call 23; exact Pure.inn (or_pure _ _) _ _))
              refine wpQuiet_nil ?_
              intro x
              (clear c00 c01 c02 c03 c04 c05 c06 c07 c08 c09 c10 c11 c12 c13 c14 c15 c16 c17 c18 c19 c20 c21 c22 c23 c24 c25 c26 c27 c28 c29 c30 c31 c32 c33 c34 c35 c36 c37 c38 c39; generalize hw : later wr _ = wv; obtain ⟨hB', g0, g1, g2, g3⟩ := later_keep hB f0 f1 f2 f3 hw; clear hw hB f0 f1 f2 f3; clear wr; revert hB' g0 g1 g2 g3; revert wv; intro wr hB f0 f1 f2 f3; obtain ⟨c00, c01, c02, c03, c04, c05, c06, c07, c08, c09⟩ := block_eight f0; obtain ⟨c10, c11, c12, c13, c14, c15, c16, c17, c18, c19⟩ := block_eight f1; obtain ⟨c20, c21, c22, c23, c24, c25, c26, c27, c28, c29⟩ := block_eight f2; obtain ⟨c30, c31, c32, c33, c34, c35, c36, c37, c38, c39⟩ := block_eight f3)
              go_wp2
              refine bodyPost_ret (v := R) ?_ rfl ⟨rfl, ?_⟩
              · simp [results, Try.results39, go_sem, ← hR.out, c20, c21, c22, c23, c24, c25, c26, c27, c28, c29]
              · repeat' (with_reducible (first | exact Below.refl _ _ | assumption | refine Below.drew ?_ | refine Below.alloc ?_ ?_ _ | refine Below.setCell ?_ ?_ _ | refine below_later ?_ ?_ _))
                all_goals (repeat' (with_reducible (first | exact Nat.le_refl _ | assumption | refine le_size_later ?_ | refine le_size_alloc ?_ | refine le_size_set ?_ | refine le_size_drew ?_)))
                all_goals (first | omega | (simp; done) | (simp; omega))
          · cases hl : (l.toList == l2.toList)
            · rw [hl] at hR
              go_enter Try.func39, Try.ntmps39
              go_wp2_with (first | ((go_at_call 83; (first | (with_reducible refine (Pure.inn px _ _).mono ?_) | (with_reducible refine (Pure.go px _).mono ?_)); rintro e w' ⟨rfl, x, rfl⟩); generalize hw : later (World.alloc _ _) _ = wr; obtain ⟨hB, f0, f1, f2, f3⟩ := later4 hw; clear hw; obtain ⟨c00, c01, c02, c03, c04, c05, c06, c07, c08, c09⟩ := block_eight f0; obtain ⟨c10, c11, c12, c13, c14, c15, c16, c17, c18, c19⟩ := block_eight f1; obtain ⟨c20, c21, c22, c23, c24, c25, c26, c27, c28, c29⟩ := block_eight f2; obtain ⟨c30, c31, c32, c33, c34, c35, c36, c37, c38, c39⟩ := block_eight f3) | ((go_at_call 83; (first | (with_reducible refine (Pure.inn py _ _).mono ?_) | (with_reducible refine (Pure.go py _).mono ?_)); rintro e w' ⟨rfl, x, rfl⟩); clear c00 c01 c02 c03 c04 c05 c06 c07 c08 c09 c10 c11 c12 c13 c14 c15 c16 c17 c18 c19 c20 c21 c22 c23 c24 c25 c26 c27 c28 c29 c30 c31 c32 c33 c34 c35 c36 c37 c38 c39; generalize hw : later wr _ = wv; obtain ⟨hB', g0, g1, g2, g3⟩ := later_keep hB f0 f1 f2 f3 hw; clear hw hB f0 f1 f2 f3; clear wr; revert hB' g0 g1 g2 g3; revert wv; intro wr hB f0 f1 f2 f3; obtain ⟨c00, c01, c02, c03, c04, c05, c06, c07, c08, c09⟩ := block_eight f0; obtain ⟨c10, c11, c12, c13, c14, c15, c16, c17, c18, c19⟩ := block_eight f1; obtain ⟨c20, c21, c22, c23, c24, c25, c26, c27, c28, c29⟩ := block_eight f2; obtain ⟨c30, c31, c32, c33, c34, c35, c36, c37, c38, c39⟩ := block_eight f3))
              rcases e with _ | _
              all_goals
                refine region_pure_tail 12 (by kernel_rfl) (by kernel_rfl) ?_
                simp only [List.take_succ_cons, List.take_zero, List.drop_succ_cons, List.drop_zero]
                repeat go_big_quiet_step ((go_at_call 23; exact Pure.inn (or_pure _ _) _ _))
                refine wpQuiet_nil ?_
                intro x
                (clear c00 c01 c02 c03 c04 c05 c06 c07 c08 c09 c10 c11 c12 c13 c14 c15 c16 c17 c18 c19 c20 c21 c22 c23 c24 c25 c26 c27 c28 c29 c30 c31 c32 c33 c34 c35 c36 c37 c38 c39; generalize hw : later wr _ = wv; obtain ⟨hB', g0, g1, g2, g3⟩ := later_keep hB f0 f1 f2 f3 hw; clear hw hB f0 f1 f2 f3; clear wr; revert hB' g0 g1 g2 g3; revert wv; intro wr hB f0 f1 f2 f3; obtain ⟨c00, c01, c02, c03, c04, c05, c06, c07, c08, c09⟩ := block_eight f0; obtain ⟨c10, c11, c12, c13, c14, c15, c16, c17, c18, c19⟩ := block_eight f1; obtain ⟨c20, c21, c22, c23, c24, c25, c26, c27, c28, c29⟩ := block_eight f2; obtain ⟨c30, c31, c32, c33, c34, c35, c36, c37, c38, c39⟩ := block_eight f3)
                go_wp2
                refine bodyPost_ret (v := R) ?_ rfl ⟨rfl, ?_⟩
                · simp [results, Try.results39, go_sem, ← hR.out, c20, c21, c22, c23, c24, c25, c26, c27, c28, c29, hl]
                · repeat' (with_reducible (first | exact Below.refl _ _ | assumption | refine Below.drew ?_ | refine Below.alloc ?_ ?_ _ | refine Below.setCell ?_ ?_ _ | refine below_later ?_ ?_ _))
                  all_goals (repeat' (with_reducible (first | exact Nat.le_refl _ | assumption | refine le_size_later ?_ | refine le_size_alloc ?_ | refine le_size_set ?_ | refine le_size_drew ?_)))
                  all_goals (first | omega | (simp; done) | (simp; omega))
            · rw [hl] at hR
              go_enter Try.func39, Try.ntmps39
              go_wp2_with (first | ((go_at_call 83; (first | (with_reducible refine (Pure.inn px _ _).mono ?_) | (with_reducible refine (Pure.go px _).mono ?_)); rintro e w' ⟨rfl, x, rfl⟩); generalize hw : later (World.alloc _ _) _ = wr; obtain ⟨hB, f0, f1, f2, f3⟩ := later4 hw; clear hw; obtain ⟨c00, c01, c02, c03, c04, c05, c06, c07, c08, c09⟩ := block_eight f0; obtain ⟨c10, c11, c12, c13, c14, c15, c16, c17, c18, c19⟩ := block_eight f1; obtain ⟨c20, c21, c22, c23, c24, c25, c26, c27, c28, c29⟩ := block_eight f2; obtain ⟨c30, c31, c32, c33, c34, c35, c36, c37, c38, c39⟩ := block_eight f3) | ((go_at_call 83; (first | (with_reducible refine (Pure.inn py _ _).mono ?_) | (with_reducible refine (Pure.go py _).mono ?_)); rintro e w' ⟨rfl, x, rfl⟩); clear c00 c01 c02 c03 c04 c05 c06 c07 c08 c09 c10 c11 c12 c13 c14 c15 c16 c17 c18 c19 c20 c21 c22 c23 c24 c25 c26 c27 c28 c29 c30 c31 c32 c33 c34 c35 c36 c37 c38 c39; generalize hw : later wr _ = wv; obtain ⟨hB', g0, g1, g2, g3⟩ := later_keep hB f0 f1 f2 f3 hw; clear hw hB f0 f1 f2 f3; clear wr; revert hB' g0 g1 g2 g3; revert wv; intro wr hB f0 f1 f2 f3; obtain ⟨c00, c01, c02, c03, c04, c05, c06, c07, c08, c09⟩ := block_eight f0; obtain ⟨c10, c11, c12, c13, c14, c15, c16, c17, c18, c19⟩ := block_eight f1; obtain ⟨c20, c21, c22, c23, c24, c25, c26, c27, c28, c29⟩ := block_eight f2; obtain ⟨c30, c31, c32, c33, c34, c35, c36, c37, c38, c39⟩ := block_eight f3))
              refine bodyPost_ret (v := R) ?_ rfl ⟨rfl, ?_⟩
              · simp [results, Try.results39, go_sem, ← hR.out, c20, c21, c22, c23, c24, c25, c26, c27, c28, c29]
              · repeat' (with_reducible (first | exact Below.refl _ _ | assumption | refine Below.drew ?_ | refine Below.alloc ?_ ?_ _ | refine Below.setCell ?_ ?_ _ | refine below_later ?_ ?_ _))
                all_goals (repeat' (with_reducible (first | exact Nat.le_refl _ | assumption | refine le_size_later ?_ | refine le_size_alloc ?_ | refine le_size_set ?_ | refine le_size_drew ?_)))
                all_goals (first | omega | (simp; done) | (simp; omega))

end Go.Proofs.Ytlbonbkaddeeeaa
