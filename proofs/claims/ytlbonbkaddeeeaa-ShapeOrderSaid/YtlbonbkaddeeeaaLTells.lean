/-
  The law that sets are as the document says.
-/
import Derived.Test.YtlbonbkaddeeeaaLSet
set_option linter.unusedSimpArgs false
set_option linter.unusedVariables false
namespace Go.Proofs.Ytlbonbkaddeeeaa
open Go.RowKit Go.Eng Go.Conch

theorem eq_self (s : S4) (W : World) : Sem.run Try.prog (Op.equalIn 10000 25 (.agg #[.int .u64 s.a.toNat, .int .u64 s.b.toNat, .int .u64 s.c.toNat, .int .u64 s.d.toNat]) (.agg #[.int .u64 s.a.toNat, .int .u64 s.b.toNat, .int .u64 s.c.toNat, .int .u64 s.d.toNat])) W = .ok true W := by
  rw [eq_run]; simp

set_option maxRecDepth 100000 in
set_option maxHeartbeats 8000000 in
theorem settells_pure (s : ByteArray) (hs : s.size ≤ 9223372036854775807) (a b : S4) (lo : Int) (lo1 : -9223372036854775808 ≤ lo) (lo2 : lo ≤ 9223372036854775807) (hi : Int) (hi1 : -9223372036854775808 ≤ hi) (hi2 : hi ≤ 9223372036854775807) :
    Pure Try.prog 5 #[.string s, a.val, b.val, .int .i64 lo, .int .i64 hi] (.bool true) := by
  intro w
  by_cases hlen : 400 < s.size
  · go_enter Try.func5, Try.ntmps5
    go_wp2_with (go_at_call 17; refine (Pure.go awake3_pure _).mono ?_; rintro e w' ⟨rfl, x, rfl⟩)
    go_ret
    refine ⟨rfl, ?_⟩
    repeat' (with_reducible (first | exact Below.refl _ _ | assumption | refine Below.drew ?_ | refine Below.alloc ?_ ?_ _ | refine Below.setCell ?_ ?_ _ | refine below_later ?_ ?_ _))
    all_goals (repeat' (with_reducible (first | exact Nat.le_refl _ | assumption | refine le_size_later ?_ | refine le_size_alloc ?_ | refine le_size_set ?_ | refine le_size_drew ?_)))
    all_goals (first | omega | (simp; done) | (simp; omega))
  clear lo1 lo2 hi1 hi2
  go_enter Try.func5, Try.ntmps5
  go_wp2
  go_loopw [11] (fun i wr => ∃ k : Nat, k ≤ 256 ∧ i = .int .i64 k ∧ Below w.heap.size w wr ∧ wr.heap[w.heap.size]? = some (.cells #[.int .u64 a.a.toNat, .int .u64 a.b.toNat, .int .u64 a.c.toNat, .int .u64 a.d.toNat] 25 (0, 0)) ∧
    wr.heap[w.heap.size + 1]? = some (.cells #[.int .u64 b.a.toNat, .int .u64 b.b.toNat, .int .u64 b.c.toNat, .int .u64 b.d.toNat] 25 (0, 0))) (fun i _ => 256 - (intOf i).toNat)
  case atStart =>
    refine ⟨0, by omega, rfl, ?_, ?_, ?_⟩
    · repeat' (with_reducible (first | exact Below.refl _ _ | assumption | refine Below.drew ?_ | refine Below.alloc ?_ ?_ _ | refine Below.setCell ?_ ?_ _ | refine below_later ?_ ?_ _))
      all_goals (repeat' (with_reducible (first | exact Nat.le_refl _ | assumption | refine le_size_later ?_ | refine le_size_alloc ?_ | refine le_size_set ?_ | refine le_size_drew ?_)))
      all_goals (first | omega | (simp; done) | (simp; omega))
    · repeat (first | (refine alloc_here ?_; simp; done) | (refine (alloc_old ?_).trans ?_; (simp <;> omega)))
    · repeat (first | (refine alloc_here ?_; simp; done) | (refine (alloc_old ?_).trans ?_; (simp <;> omega)))
  case round =>
    obtain ⟨k, hk, rfl, hb, h0, h1⟩ := hrel
    obtain ⟨c00, c01, c02, c03, f0, l0⟩ := block_four h0
    obtain ⟨c10, c11, c12, c13, f1, l1⟩ := block_four h1
    have H0 := hide h0
    have H1 := hide h1
    clear h0 h1
    by_cases hlt : k < 256
    · have hu : IntKind.u8.wrap (k : Int) = k := by rw [IntKind.wrap_u8]; omega
      go_wp2
      refine region_pure (by kernel_rfl) (by kernel_rfl) ?_
      repeat go_big_quiet_step (first
        | (go_at_call 20; exact Pure.inn (has_pure _ _ (by omega) (by omega)) _ _)
        | (go_at_call 24; exact Pure.inn (refhas_pure _ _ (by omega) (by omega)) _ _))
      refine wpQuiet_nil ?_
      intro x
      go_wp2
      go_roundw
      case rel =>
        refine ⟨k + 1, by omega, by go_num, ?_, block_later H0.out, block_later H1.out⟩
        repeat' (with_reducible (first | exact Below.refl _ _ | assumption | refine Below.drew ?_ | refine Below.alloc ?_ ?_ _ | refine Below.setCell ?_ ?_ _ | refine below_later ?_ ?_ _))
        all_goals (repeat' (with_reducible (first | exact Nat.le_refl _ | assumption | refine le_size_later ?_ | refine le_size_alloc ?_ | refine le_size_set ?_ | refine le_size_drew ?_)))
        all_goals (first | omega | (simp; done) | (simp; omega))
      case measure => simp [intOf]; omega
    · clear c00 c01 c02 c03 f0 c10 c11 c12 c13 f1 l0 l1
      go_wp2
      go_loopw [3, 4, 12] (fun l h i wr' => ∃ n : Nat, n ≤ 2 ∧ i = .int .i64 n ∧ (∃ x : Int, l = .int .i64 x) ∧ (∃ y : Int, h = .int .i64 y) ∧ Below w.heap.size w wr' ∧ wr'.heap[w.heap.size]? = some (.cells #[.int .u64 a.a.toNat, .int .u64 a.b.toNat, .int .u64 a.c.toNat, .int .u64 a.d.toNat] 25 (0, 0)) ∧
        wr'.heap[w.heap.size + 1]? = some (.cells #[.int .u64 b.a.toNat, .int .u64 b.b.toNat, .int .u64 b.c.toNat, .int .u64 b.d.toNat] 25 (0, 0))) (fun _ _ i _ => 2 - (intOf i).toNat)
      case atStart => exact ⟨0, by omega, rfl, ⟨_, rfl⟩, ⟨_, rfl⟩, hb, H0.out, H1.out⟩
      case round =>
        clear hb H0 H1 hk hlt
        obtain ⟨n, hn, rfl, ⟨L, rfl⟩, ⟨R, rfl⟩, hb, h0, h1⟩ := hrel
        obtain ⟨c00, c01, c02, c03, f0, l0⟩ := block_four h0
        obtain ⟨c10, c11, c12, c13, f1, l1⟩ := block_four h1
        have H0 := hide h0
        have H1 := hide h1
        clear h0 h1
        by_cases hlt : n < 2
        · have heq := fun W => eq_self (rangeS L R) W
          clear c00 c01 c02 c03 f0 c10 c11 c12 c13 f1
          go_wp2_with (first
            | (go_at_call 22; refine (Pure.go (range_pure _ _) _).mono ?_; rintro e w' ⟨rfl, x1, rfl⟩)
            | (go_at_call 25; refine (Pure.go (refrange_pure _ _) _).mono ?_; rintro e w' ⟨rfl, x2, rfl⟩))
          go_roundw
          case rel =>
            refine ⟨n + 1, by omega, by go_num, ⟨_, rfl⟩, ⟨_, rfl⟩, ?_, block_later (block_later H0.out), block_later (block_later H1.out)⟩
            repeat' (with_reducible (first | exact Below.refl _ _ | assumption | refine Below.drew ?_ | refine Below.alloc ?_ ?_ _ | refine Below.setCell ?_ ?_ _ | refine below_later ?_ ?_ _))
            all_goals (repeat' (with_reducible (first | exact Nat.le_refl _ | assumption | refine le_size_later ?_ | refine le_size_alloc ?_ | refine le_size_set ?_ | refine le_size_drew ?_)))
            all_goals (first | omega | (simp; done) | (simp; omega))
          case measure => simp [intOf]; omega
        · have e1 := fun W => eq_self (ofBytes s.data.toList) W
          have e2 := fun W => eq_self (a.or b) W
          have e3 := fun W => eq_self (a.and b) W
          have e4 := fun W => eq_self (a.less b) W
          have e5 := fun W => eq_zero (a.less b) W
          have e6 : (bytesTo a 256).toArray.size = cnt a := by rw [cnt_eq]; simp
          go_wp2
          refine region_pure (by kernel_rfl) (by kernel_rfl) ?_
          repeat go_big_quiet_step (first
            | (go_at_call 18; exact Pure.inn (of_pure _ hs) _ _)
            | (go_at_call 26; exact Pure.inn (refof_pure _ hs) _ _)
            | (go_at_call 23; exact Pure.inn (or_pure _ _) _ _)
            | (go_at_call 27; exact Pure.inn (refor_pure _ _) _ _)
            | (go_at_call 28; exact Pure.inn (and_pure _ _) _ _)
            | (go_at_call 29; exact Pure.inn (refand_pure _ _) _ _)
            | (go_at_call 30; exact Pure.inn (less_pure _ _) _ _)
            | (go_at_call 31; exact Pure.inn (refless_pure _ _) _ _)
            | (go_at_call 32; exact Pure.inn (within_pure _ _) _ _)
            | (go_at_call 19; exact Pure.inn (bytes_pure _) _ _)
            | (go_at_call 33; exact Pure.inn (refbytes_pure _) _ _)
            | (go_at_call 21; exact Pure.inn (count_pure _) _ _)
            | (go_at_call 17; exact Pure.inn awake3_pure _ _))
          refine wpQuiet_nil ?_
          intro x
          go_wp2
          go_ret
          refine ⟨rfl, ?_⟩
          repeat' (with_reducible (first | exact Below.refl _ _ | assumption | refine Below.drew ?_ | refine Below.alloc ?_ ?_ _ | refine Below.setCell ?_ ?_ _ | refine below_later ?_ ?_ _))
          all_goals (repeat' (with_reducible (first | exact Nat.le_refl _ | assumption | refine le_size_later ?_ | refine le_size_alloc ?_ | refine le_size_set ?_ | refine le_size_drew ?_)))
          all_goals (first | omega | (simp; done) | (simp; omega))

end Go.Proofs.Ytlbonbkaddeeeaa
