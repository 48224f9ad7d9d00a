/-
  The walks of the reference's Range, of All, Within, none.
-/
import Derived.Test.YtlbonbkaddeeeaaWSetB
import Derived.Test.YtlbonbkaddeeeaaW1
import Derived.Test.YtlbonbkaddeeeaaShapes
import Derived.ChangeKeysEq
set_option linter.unusedSimpArgs false
set_option linter.unusedVariables false
namespace Go.Proofs.Ytlbonbkaddeeeaa
open Go.RowKit Go.Eng Go.Conch

set_option maxRecDepth 100000 in
set_option maxHeartbeats 2000000 in
theorem refrange_pure (lo hi : Int) : Pure Try.prog 25 #[.int .i64 lo, .int .i64 hi] (rangeS lo hi).val := by
  rw [← refRange_eq]
  intro w
  go_enter Try.func25, Try.ntmps25
  go_wp2
  go_loopw [6] (fun i wr => ∃ k : Nat, k ≤ 256 ∧ i = .int .i64 k ∧ Below w.heap.size w wr ∧ wr.heap[w.heap.size]? = some (.cells #[.int .u64 0, .int .u64 0, .int .u64 0, .int .u64 0] 25 (0, 0)) ∧
    (∃ t : S4, t = refLoop lo hi k ∧ wr.heap[w.heap.size + 1]? = some (.cells #[.int .u64 t.a.toNat, .int .u64 t.b.toNat, .int .u64 t.c.toNat, .int .u64 t.d.toNat] 25 (0, 0)))) (fun i _ => 256 - (intOf i).toNat)
  case atStart =>
    refine ⟨0, by omega, rfl, ?_, ?_, S4.zero, rfl, ?_⟩
    · repeat' (with_reducible (first | exact Below.refl _ _ | assumption | refine Below.drew ?_ | refine Below.alloc ?_ ?_ _ | refine Below.setCell ?_ ?_ _ | refine below_later ?_ ?_ _))
      all_goals (repeat' (with_reducible (first | exact Nat.le_refl _ | assumption | refine le_size_later ?_ | refine le_size_alloc ?_ | refine le_size_set ?_ | refine le_size_drew ?_)))
      all_goals (first | omega | (simp; done) | (simp; omega))
    · repeat (first | (refine alloc_here ?_; simp; done) | (refine (alloc_old ?_).trans ?_; (simp <;> omega)))
    · repeat (first | (refine alloc_here ?_; simp; done) | (refine (alloc_old ?_).trans ?_; (simp <;> omega)))
  case round =>
    obtain ⟨k, hk, rfl, hb, h0, t, ht, h1⟩ := hrel
    obtain ⟨c00, c01, c02, c03, f0, l0⟩ := block_four h0
    obtain ⟨c10, c11, c12, c13, f1, l1⟩ := block_four h1
    have HT := hide ht
    have H0 := hide h0
    have H1 := hide h1
    clear ht h0 h1
    by_cases hlt : k < 256
    · by_cases hin : max lo 0 ≤ (k : Int) ∧ (k : Int) ≤ hi
      · have hnext : refLoop lo hi (k + 1) = (refLoop lo hi k).ins k := by rw [refLoop, if_pos hin]
        have HN := hide hnext
        have i1 : lo ≤ (k : Int) := by omega
        have i2 : (k : Int) ≤ hi := by omega
        clear hin hnext
        by_cases hneg : lo < 0
        all_goals
          go_wp2_with (go_at_call 82; refine (Pure.go (refwith_pure _ _ (by omega) (by omega)) _).mono ?_; rintro e w' ⟨rfl, x, rfl⟩)
          go_roundw
          case rel =>
            refine ⟨k + 1, by omega, by go_num, ?_, ?_, t.ins k, ?_, ?_⟩
            · repeat' (with_reducible (first | exact Below.refl _ _ | assumption | refine Below.drew ?_ | refine Below.alloc ?_ ?_ _ | refine Below.setCell ?_ ?_ _ | refine below_later ?_ ?_ _))
              all_goals (repeat' (with_reducible (first | exact Nat.le_refl _ | assumption | refine le_size_later ?_ | refine le_size_alloc ?_ | refine le_size_set ?_ | refine le_size_drew ?_)))
              all_goals (first | omega | (simp; done) | (simp; omega))
            · rw [store_four_ne (by omega)]; exact block_later H0.out
            · rw [HN.out, HT.out]
            · exact store_four (block_later H1.out) _ _ _ _
          case measure => simp [intOf]; omega
      · have hnext : refLoop lo hi (k + 1) = refLoop lo hi k := by rw [refLoop, if_neg hin]
        have HN := hide hnext
        clear hnext
        by_cases hneg : lo < 0
        all_goals
          by_cases hlo : lo ≤ (k : Int)
          all_goals
            have hin2 : ((k : Int) < lo ∨ hi < k) := by omega
            clear hin
            by_cases hhi : hi < (k : Int)
            all_goals first | (exfalso; omega) | skip
            all_goals
              go_wp2
              go_roundw
              case rel =>
                refine ⟨k + 1, by omega, by go_num, hb, H0.out, t, ?_, H1.out⟩
                rw [HN.out, HT.out]
              case measure => simp [intOf]; omega
    · obtain rfl : k = 256 := by omega
      by_cases h1 : lo ≤ hi ∧ hi < 0
      · have hv : refRange lo hi = (refLoop lo hi 256).ins 0 := by rw [refRange, if_pos h1]
        have HV := hide hv
        have i1 := h1.1
        have i2 := h1.2
        clear hv h1
        go_wp2_with (go_at_call 82; refine (Pure.go (refwith_pure _ _ (by omega) (by omega)) _).mono ?_; rintro e w' ⟨rfl, x, rfl⟩)
        refine bodyPost_ret (v := (refRange lo hi).val) ?_ rfl ⟨rfl, ?_⟩
        · rw [HV.out, ← HT.out]
          simp [results, Try.results25, go_sem, c00, c01, c02, c03, f0, l0]
        · repeat' (with_reducible (first | exact Below.refl _ _ | assumption | refine Below.drew ?_ | refine Below.alloc ?_ ?_ _ | refine Below.setCell ?_ ?_ _ | refine below_later ?_ ?_ _))
          all_goals (repeat' (with_reducible (first | exact Nat.le_refl _ | assumption | refine le_size_later ?_ | refine le_size_alloc ?_ | refine le_size_set ?_ | refine le_size_drew ?_)))
          all_goals (first | omega | (simp; done) | (simp; omega))
      · by_cases h2 : lo ≤ hi ∧ lo > 255
        · have hv : refRange lo hi = (refLoop lo hi 256).ins 255 := by rw [refRange, if_neg h1, if_pos h2]
          have HV := hide hv
          have i1 := h2.1
          have i2 := h2.2
          have i3 : 0 ≤ hi := by omega
          clear hv h2 h1
          go_wp2_with (go_at_call 82; refine (Pure.go (refwith_pure _ _ (by omega) (by omega)) _).mono ?_; rintro e w' ⟨rfl, x, rfl⟩)
          refine bodyPost_ret (v := (refRange lo hi).val) ?_ rfl ⟨rfl, ?_⟩
          · rw [HV.out, ← HT.out]
            simp [results, Try.results25, go_sem, c00, c01, c02, c03, f0, l0]
          · repeat' (with_reducible (first | exact Below.refl _ _ | assumption | refine Below.drew ?_ | refine Below.alloc ?_ ?_ _ | refine Below.setCell ?_ ?_ _ | refine below_later ?_ ?_ _))
            all_goals (repeat' (with_reducible (first | exact Nat.le_refl _ | assumption | refine le_size_later ?_ | refine le_size_alloc ?_ | refine le_size_set ?_ | refine le_size_drew ?_)))
            all_goals (first | omega | (simp; done) | (simp; omega))
        · have hv : refRange lo hi = refLoop lo hi 256 := by rw [refRange, if_neg h1, if_neg h2]
          have HV := hide hv
          clear hv
          by_cases i1 : lo ≤ hi
          · have i2 : 0 ≤ hi := by omega
            have i3 : lo ≤ 255 := by omega
            clear h1 h2
            go_wp2
            refine bodyPost_ret (v := (refRange lo hi).val) ?_ rfl ⟨rfl, ?_⟩
            · rw [HV.out, ← HT.out]
              simp [results, Try.results25, go_sem, c00, c01, c02, c03, f0, l0]
            · repeat' (with_reducible (first | exact Below.refl _ _ | assumption | refine Below.drew ?_ | refine Below.alloc ?_ ?_ _ | refine Below.setCell ?_ ?_ _ | refine below_later ?_ ?_ _))
              all_goals (repeat' (with_reducible (first | exact Nat.le_refl _ | assumption | refine le_size_later ?_ | refine le_size_alloc ?_ | refine le_size_set ?_ | refine le_size_drew ?_)))
              all_goals (first | omega | (simp; done) | (simp; omega))
          · clear h1 h2
            go_wp2
            refine bodyPost_ret (v := (refRange lo hi).val) ?_ rfl ⟨rfl, ?_⟩
            · rw [HV.out, ← HT.out]
              simp [results, Try.results25, go_sem, c00, c01, c02, c03, f0, l0]
            · repeat' (with_reducible (first | exact Below.refl _ _ | assumption | refine Below.drew ?_ | refine Below.alloc ?_ ?_ _ | refine Below.setCell ?_ ?_ _ | refine below_later ?_ ?_ _))
              all_goals (repeat' (with_reducible (first | exact Nat.le_refl _ | assumption | refine le_size_later ?_ | refine le_size_alloc ?_ | refine le_size_set ?_ | refine le_size_drew ?_)))
              all_goals (first | omega | (simp; done) | (simp; omega))



set_option maxHeartbeats 1000000 in
theorem all_pure : Pure Try.prog 79 #[] allS.val := by
  intro w
  go_enter Try.func79, Try.ntmps79
  go_wp2_with (go_at_call 22; refine (Pure.go (range_pure _ _) _).mono ?_; rintro e w' ⟨rfl, x, rfl⟩)
  refine bodyPost_ret (v := allS.val) ?_ rfl ⟨rfl, ?_⟩
  · simp [results, Try.results79, go_sem, allS]
  · repeat' (with_reducible (first | exact Below.refl _ _ | assumption | refine Below.drew ?_ | refine Below.alloc ?_ ?_ _ | refine Below.setCell ?_ ?_ _ | refine below_later ?_ ?_ _))
    all_goals (repeat' (with_reducible (first | exact Nat.le_refl _ | assumption | refine le_size_later ?_ | refine le_size_alloc ?_ | refine le_size_set ?_ | refine le_size_drew ?_)))
    all_goals (first | omega | (simp; done) | (simp; omega))
set_option maxHeartbeats 1000000 in
theorem refall_pure : Pure Try.prog 89 #[] allS.val := by
  intro w
  go_enter Try.func89, Try.ntmps89
  go_wp2_with (go_at_call 25; refine (Pure.go (refrange_pure _ _) _).mono ?_; rintro e w' ⟨rfl, x, rfl⟩)
  refine bodyPost_ret (v := allS.val) ?_ rfl ⟨rfl, ?_⟩
  · simp [results, Try.results89, go_sem, allS]
  · repeat' (with_reducible (first | exact Below.refl _ _ | assumption | refine Below.drew ?_ | refine Below.alloc ?_ ?_ _ | refine Below.setCell ?_ ?_ _ | refine below_later ?_ ?_ _))
    all_goals (repeat' (with_reducible (first | exact Nat.le_refl _ | assumption | refine le_size_later ?_ | refine le_size_alloc ?_ | refine le_size_set ?_ | refine le_size_drew ?_)))
    all_goals (first | omega | (simp; done) | (simp; omega))


theorem plain23 : Try.prog.plainKey 23 = true := by kernel_rfl
theorem partU (x0 x1 x2 x3 : Value) (W : World) :
    (part 23 #[x0, x1, x2, x3] 0).run Try.prog W = .ok x0 W ∧ (part 23 #[x0, x1, x2, x3] 1).run Try.prog W = .ok x1 W ∧
    (part 23 #[x0, x1, x2, x3] 2).run Try.prog W = .ok x2 W ∧ (part 23 #[x0, x1, x2, x3] 3).run Try.prog W = .ok x3 W :=
  ⟨run_part_plain _ plain23 rfl, run_part_plain _ plain23 rfl, run_part_plain _ plain23 rfl, run_part_plain _ plain23 rfl⟩
theorem eq_words (a0 a1 a2 a3 b0 b1 b2 b3 : Int) (d : Nat) (W : World) :
    Sem.run Try.prog (Op.equalIn (d + 2) 25 (.agg #[.int .u64 a0, .int .u64 a1, .int .u64 a2, .int .u64 a3]) (.agg #[.int .u64 b0, .int .u64 b1, .int .u64 b2, .int .u64 b3])) W =
      .ok (a0 == b0 && (a1 == b1 && (a2 == b2 && a3 == b3))) W := by
  unfold Op.equalIn
  have p0 := fun x0 x1 x2 x3 W => (partU x0 x1 x2 x3 W).1
  have p1 := fun x0 x1 x2 x3 W => (partU x0 x1 x2 x3 W).2.1
  have p2 := fun x0 x1 x2 x3 W => (partU x0 x1 x2 x3 W).2.2.1
  have p3 := fun x0 x1 x2 x3 W => (partU x0 x1 x2 x3 W).2.2.2
  have e := fun (a b : Int) W => run_equalIn_int (P := Try.prog) W d 23 .u64 _ a b Try.underlying23
  simp [run_underlying Try.underlying25, List.range', p0, p1, p2, p3, e]
  by_cases h0 : a0 = b0 <;> by_cases h1 : a1 = b1 <;> by_cases h2 : a2 = b2 <;> by_cases h3 : a3 = b3 <;> simp [h0, h1, h2, h3]

theorem beq_u64 (x y : UInt64) : ((x.toNat : Int) == (y.toNat : Int)) = decide (x = y) := by
  rw [Bool.eq_iff_iff]
  simp [← UInt64.toNat_inj]
  omega
theorem eqB (s t : S4) : ((s.a.toNat : Int) == t.a.toNat && ((s.b.toNat : Int) == t.b.toNat && ((s.c.toNat : Int) == t.c.toNat && (s.d.toNat : Int) == t.d.toNat))) = decide (s = t) := by
  rw [beq_u64, beq_u64, beq_u64, beq_u64]
  obtain ⟨a, b, c, d⟩ := s
  obtain ⟨a', b', c', d'⟩ := t
  simp
theorem eqZ (s : S4) : ((s.a.toNat : Int) == 0 && ((s.b.toNat : Int) == 0 && ((s.c.toNat : Int) == 0 && (s.d.toNat : Int) == 0))) = decide (s = S4.zero) := eqB s S4.zero
/-- '==' of two sets, as the walk meets it. -/
theorem eq_run (s t : S4) (W : World) : Sem.run Try.prog (Op.equalIn 10000 25 (.agg #[.int .u64 s.a.toNat, .int .u64 s.b.toNat, .int .u64 s.c.toNat, .int .u64 s.d.toNat]) (.agg #[.int .u64 t.a.toNat, .int .u64 t.b.toNat, .int .u64 t.c.toNat, .int .u64 t.d.toNat])) W = .ok (decide (s = t)) W := by
  rw [eq_words, eqB]
theorem eq_zero (s : S4) (W : World) : Sem.run Try.prog (Op.equalIn 10000 25 (.agg #[.int .u64 s.a.toNat, .int .u64 s.b.toNat, .int .u64 s.c.toNat, .int .u64 s.d.toNat]) (.agg #[.int .u64 0, .int .u64 0, .int .u64 0, .int .u64 0])) W = .ok (decide (s = S4.zero)) W := by
  rw [eq_words, eqZ]

set_option maxHeartbeats 1000000 in
theorem none_pure (s : S4) : Pure Try.prog 92 #[s.val] (.bool (decide (s = S4.zero))) := by
  intro w
  have he := fun W => eq_zero s W
  go_enter Try.func92, Try.ntmps92
  go_wp2
  go_ret
  refine ⟨rfl, ?_⟩
  repeat' (with_reducible (first | exact Below.refl _ _ | assumption | refine Below.drew ?_ | refine Below.alloc ?_ ?_ _ | refine Below.setCell ?_ ?_ _ | refine below_later ?_ ?_ _))
  all_goals (repeat' (with_reducible (first | exact Nat.le_refl _ | assumption | refine le_size_later ?_ | refine le_size_alloc ?_ | refine le_size_set ?_ | refine le_size_drew ?_)))
  all_goals (first | omega | (simp; done) | (simp; omega))
set_option maxHeartbeats 1000000 in
theorem within_pure (s t : S4) : Pure Try.prog 32 #[s.val, t.val] (.bool (decide (s.less t = S4.zero))) := by
  intro w
  have he := fun W => eq_zero (s.less t) W
  go_enter Try.func32, Try.ntmps32
  go_wp2_with (go_at_call 30; refine (Pure.go (less_pure _ _) _).mono ?_; rintro e w' ⟨rfl, x, rfl⟩)
  go_ret
  refine ⟨rfl, ?_⟩
  repeat' (with_reducible (first | exact Below.refl _ _ | assumption | refine Below.drew ?_ | refine Below.alloc ?_ ?_ _ | refine Below.setCell ?_ ?_ _ | refine below_later ?_ ?_ _))
  all_goals (repeat' (with_reducible (first | exact Nat.le_refl _ | assumption | refine le_size_later ?_ | refine le_size_alloc ?_ | refine le_size_set ?_ | refine le_size_drew ?_)))
  all_goals (first | omega | (simp; done) | (simp; omega))

end Go.Proofs.Ytlbonbkaddeeeaa
