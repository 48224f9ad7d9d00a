/-
  The walks of the functions on sets that loop over bytes: each comes to its plain function.
-/
import Derived.Test.YtlbonbkaddeeeaaWSetA
set_option linter.unusedSimpArgs false
set_option linter.unusedVariables false
namespace Go.Proofs.Ytlbonbkaddeeeaa
open Go.RowKit Go.Eng Go.Conch

set_option maxHeartbeats 1000000 in
theorem of_pure (s : ByteArray) (hs : s.size ≤ 9223372036854775807) : Pure Try.prog 18 #[.string s] (ofBytes s.data.toList).val := by
  intro w
  go_enter Try.func18, Try.ntmps18
  go_wp2
  go_loopw [7] (fun i wr => ∃ k : Nat, k ≤ s.size ∧ i = .int .i64 k ∧ Below w.heap.size w wr ∧ wr.heap[w.heap.size]? = some (.cells #[.int .u64 0, .int .u64 0, .int .u64 0, .int .u64 0] 25 (0, 0)) ∧
    (∃ t : S4, t = ofBytes (s.data.toList.take k) ∧ wr.heap[w.heap.size + 1]? = some (.cells #[.int .u64 t.a.toNat, .int .u64 t.b.toNat, .int .u64 t.c.toNat, .int .u64 t.d.toNat] 25 (0, 0)))) (fun i _ => s.size - (intOf i).toNat)
  case atStart =>
    refine ⟨0, Nat.zero_le _, rfl, ?_, ?_, S4.zero, rfl, ?_⟩
    · repeat' (with_reducible (first | exact Below.refl _ _ | assumption | refine Below.drew ?_ | refine Below.alloc ?_ ?_ _ | refine Below.setCell ?_ ?_ _ | refine below_later ?_ ?_ _))
      all_goals (repeat' (with_reducible (first | exact Nat.le_refl _ | assumption | refine le_size_later ?_ | refine le_size_alloc ?_ | refine le_size_set ?_ | refine le_size_drew ?_)))
      all_goals (first | omega | (simp; done) | (simp; omega))
    · repeat (first | (refine alloc_here ?_; simp; done) | (refine (alloc_old ?_).trans ?_; (simp <;> omega)))
    · repeat (first | (refine alloc_here ?_; simp; done) | (refine (alloc_old ?_).trans ?_; (simp <;> omega)))
  case round =>
    obtain ⟨k, hk, rfl, hb, h0, t, ht, h1⟩ := hrel
    obtain ⟨c00, c01, c02, c03, f0, l0⟩ := block_four h0
    obtain ⟨c10, c11, c12, c13, f1, l1⟩ := block_four h1
    have HT := hide ht
    have H0 := hide h0
    have H1 := hide h1
    clear ht h0 h1
    by_cases hlt : k < s.size
    · have hbt := s[k].toNat_lt
      have hbw := hide (byte_wrap s[k])
      go_wp2
      refine region_pure_tail 6 (by kernel_rfl) (by kernel_rfl) ?_
      simp only [List.take_succ_cons, List.take_zero, List.drop_succ_cons, List.drop_zero]
      repeat quiet_step ((go_at_call 80; exact Pure.inn (with_pure _ _ (by rw [hbw.out]; omega) (by rw [hbw.out]; omega)) _ _))
      refine wpQuiet_nil ?_
      intro x
      go_wp2
      go_roundw
      case rel =>
        refine ⟨k + 1, by omega, by go_num, ?_, ?_, t.ins s[k].toNat, ?_, ?_⟩
        · repeat' (with_reducible (first | exact Below.refl _ _ | assumption | refine Below.drew ?_ | refine Below.alloc ?_ ?_ _ | refine Below.setCell ?_ ?_ _ | refine below_later ?_ ?_ _))
          all_goals (repeat' (with_reducible (first | exact Nat.le_refl _ | assumption | refine le_size_later ?_ | refine le_size_alloc ?_ | refine le_size_set ?_ | refine le_size_drew ?_)))
          all_goals (first | omega | (simp; done) | (simp; omega))
        · rw [store_four_ne (by omega)]; exact block_later H0.out
        · rw [ofBytes_take s k hlt, HT.out]
        · exact store_four (block_later H1.out) _ _ _ _
      case measure => simp [intOf]; omega
    · go_wp2
      have e : k = s.size := by omega
      refine bodyPost_ret (v := (ofBytes s.data.toList).val) ?_ rfl ⟨rfl, ?_⟩
      · have h2 := HT.out
        rw [List.take_of_length_le (by simp; omega)] at h2
        simp [results, Try.results18, go_sem, h2, c00, c01, c02, c03, f0]
      · repeat' (with_reducible (first | exact Below.refl _ _ | assumption | refine Below.drew ?_ | refine Below.alloc ?_ ?_ _ | refine Below.setCell ?_ ?_ _ | refine below_later ?_ ?_ _))
        all_goals (repeat' (with_reducible (first | exact Nat.le_refl _ | assumption | refine le_size_later ?_ | refine le_size_alloc ?_ | refine le_size_set ?_ | refine le_size_drew ?_)))
        all_goals (first | omega | (simp; done) | (simp; omega))

theorem clampI (n : Int) : (n < 0 ∧ (clamp n : Int) ≤ 0 ∧ 0 ≤ (clamp n : Int)) ∨ (0 ≤ n ∧ n ≤ 255 ∧ (clamp n : Int) ≤ n ∧ n ≤ (clamp n : Int)) ∨ (255 < n ∧ (clamp n : Int) ≤ 255 ∧ 255 ≤ (clamp n : Int)) := by
  unfold clamp; omega

theorem ofBytes_all (s : ByteArray) (k : Nat) (h : s.size ≤ k) : ofBytes (s.data.toList.take k) = ofBytes s.data.toList := by
  rw [List.take_of_length_le (by simpa using h)]

set_option maxHeartbeats 1000000 in
theorem refof_pure (s : ByteArray) (hs : s.size ≤ 9223372036854775807) : Pure Try.prog 26 #[.string s] (ofBytes s.data.toList).val := by
  intro w
  go_enter Try.func26, Try.ntmps26
  go_wp2
  go_loopw [4] (fun i wr => ∃ k : Nat, k ≤ s.size ∧ i = .int .i64 k ∧ Below w.heap.size w wr ∧ wr.heap[w.heap.size]? = some (.cells #[.int .u64 0, .int .u64 0, .int .u64 0, .int .u64 0] 25 (0, 0)) ∧
    (∃ t : S4, t = ofBytes (s.data.toList.take k) ∧ wr.heap[w.heap.size + 1]? = some (.cells #[.int .u64 t.a.toNat, .int .u64 t.b.toNat, .int .u64 t.c.toNat, .int .u64 t.d.toNat] 25 (0, 0)))) (fun i _ => s.size - (intOf i).toNat)
  case atStart =>
    refine ⟨0, Nat.zero_le _, rfl, ?_, ?_, S4.zero, rfl, ?_⟩
    · repeat' (with_reducible (first | exact Below.refl _ _ | assumption | refine Below.drew ?_ | refine Below.alloc ?_ ?_ _ | refine Below.setCell ?_ ?_ _ | refine below_later ?_ ?_ _))
      all_goals (repeat' (with_reducible (first | exact Nat.le_refl _ | assumption | refine le_size_later ?_ | refine le_size_alloc ?_ | refine le_size_set ?_ | refine le_size_drew ?_)))
      all_goals (first | omega | (simp; done) | (simp; omega))
    · repeat (first | (refine alloc_here ?_; simp; done) | (refine (alloc_old ?_).trans ?_; (simp <;> omega)))
    · repeat (first | (refine alloc_here ?_; simp; done) | (refine (alloc_old ?_).trans ?_; (simp <;> omega)))
  case round =>
    obtain ⟨k, hk, rfl, hb, h0, t, ht, h1⟩ := hrel
    obtain ⟨c00, c01, c02, c03, f0, l0⟩ := block_four h0
    obtain ⟨c10, c11, c12, c13, f1, l1⟩ := block_four h1
    have HT := hide ht
    have H0 := hide h0
    have H1 := hide h1
    clear ht h0 h1
    by_cases hlt : k < s.size
    · have hbt := s[k].toNat_lt
      have hbw := hide (byte_wrap s[k])
      go_wp2
      refine region_pure_tail 6 (by kernel_rfl) (by kernel_rfl) ?_
      simp only [List.take_succ_cons, List.take_zero, List.drop_succ_cons, List.drop_zero]
      repeat quiet_step ((go_at_call 82; exact Pure.inn (refwith_pure _ _ (by rw [hbw.out]; omega) (by rw [hbw.out]; omega)) _ _))
      refine wpQuiet_nil ?_
      intro x
      go_wp2
      go_roundw
      case rel =>
        refine ⟨k + 1, by omega, by go_num, ?_, ?_, t.ins s[k].toNat, ?_, ?_⟩
        · repeat' (with_reducible (first | exact Below.refl _ _ | assumption | refine Below.drew ?_ | refine Below.alloc ?_ ?_ _ | refine Below.setCell ?_ ?_ _ | refine below_later ?_ ?_ _))
          all_goals (repeat' (with_reducible (first | exact Nat.le_refl _ | assumption | refine le_size_later ?_ | refine le_size_alloc ?_ | refine le_size_set ?_ | refine le_size_drew ?_)))
          all_goals (first | omega | (simp; done) | (simp; omega))
        · rw [store_four_ne (by omega)]; exact block_later H0.out
        · rw [ofBytes_take s k hlt, HT.out]
        · exact store_four (block_later H1.out) _ _ _ _
      case measure => simp [intOf]; omega
    · go_wp2
      refine bodyPost_ret (v := (ofBytes s.data.toList).val) ?_ rfl ⟨rfl, ?_⟩
      · have h2 := HT.out
        rw [ofBytes_all s k (by omega)] at h2
        simp [results, Try.results26, go_sem, h2, c00, c01, c02, c03, f0]
      · repeat' (with_reducible (first | exact Below.refl _ _ | assumption | refine Below.drew ?_ | refine Below.alloc ?_ ?_ _ | refine Below.setCell ?_ ?_ _ | refine below_later ?_ ?_ _))
        all_goals (repeat' (with_reducible (first | exact Nat.le_refl _ | assumption | refine le_size_later ?_ | refine le_size_alloc ?_ | refine le_size_set ?_ | refine le_size_drew ?_)))
        all_goals (first | omega | (simp; done) | (simp; omega))

set_option maxHeartbeats 1000000 in
theorem range_pure (lo hi : Int) : Pure Try.prog 22 #[.int .i64 lo, .int .i64 hi] (rangeS lo hi).val := by
  intro w
  by_cases h : hi < lo
  · go_enter Try.func22, Try.ntmps22
    go_wp2
    refine bodyPost_ret (v := (rangeS lo hi).val) ?_ rfl ⟨rfl, ?_⟩
    · simp [results, Try.results22, go_sem, rangeS, h, S4.zero]
    · repeat' (with_reducible (first | exact Below.refl _ _ | assumption | refine Below.drew ?_ | refine Below.alloc ?_ ?_ _ | refine Below.setCell ?_ ?_ _ | refine below_later ?_ ?_ _))
      all_goals (repeat' (with_reducible (first | exact Nat.le_refl _ | assumption | refine le_size_later ?_ | refine le_size_alloc ?_ | refine le_size_set ?_ | refine le_size_drew ?_)))
      all_goals (first | omega | (simp; done) | (simp; omega))
  · have hle : clamp lo ≤ clamp hi := by unfold clamp; omega
    have hv : rangeS lo hi = fromTo (clamp lo) (clamp hi + 1 - clamp lo) := by rw [rangeS, if_neg h]
    have HV := hide hv
    clear hv
    have hcl := clamp_le hi
    rcases clampI lo with ⟨a1, a2, a3⟩ | ⟨a1, a2, a3, a4⟩ | ⟨a1, a2, a3⟩ <;> rcases clampI hi with ⟨b1, b2, b3⟩ | ⟨b1, b2, b3, b4⟩ | ⟨b1, b2, b3⟩
    all_goals first | (exfalso; omega) | skip
    all_goals
      generalize clamp lo = L at *
      generalize clamp hi = H at *
      go_enter Try.func22, Try.ntmps22
      go_wp2
      go_loopw [6] (fun i wr => ∃ k : Nat, L + k ≤ H + 1 ∧ i = .int .i64 ((L + k : Nat) : Int) ∧ Below w.heap.size w wr ∧ wr.heap[w.heap.size]? = some (.cells #[.int .u64 0, .int .u64 0, .int .u64 0, .int .u64 0] 25 (0, 0)) ∧
        (∃ t : S4, t = fromTo L k ∧ wr.heap[w.heap.size + 1]? = some (.cells #[.int .u64 t.a.toNat, .int .u64 t.b.toNat, .int .u64 t.c.toNat, .int .u64 t.d.toNat] 25 (0, 0)))) (fun i _ => 300 - (intOf i).toNat)
      case atStart =>
        refine ⟨0, by omega, ?_, ?_, ?_, S4.zero, rfl, ?_⟩
        · exact congrArg (Value.int .i64) (by omega)
        · repeat' (with_reducible (first | exact Below.refl _ _ | assumption | refine Below.drew ?_ | refine Below.alloc ?_ ?_ _ | refine Below.setCell ?_ ?_ _ | refine below_later ?_ ?_ _))
          all_goals (repeat' (with_reducible (first | exact Nat.le_refl _ | assumption | refine le_size_later ?_ | refine le_size_alloc ?_ | refine le_size_set ?_ | refine le_size_drew ?_)))
          all_goals (first | omega | (simp; done) | (simp; omega))
        · repeat (first | (refine alloc_here ?_; simp; done) | (refine (alloc_old ?_).trans ?_; (simp <;> omega)))
        · repeat (first | (refine alloc_here ?_; simp; done) | (refine (alloc_old ?_).trans ?_; (simp <;> omega)))
      case round =>
        obtain ⟨k, hk, rfl, hb, h0, t, ht, h1⟩ := hrel
        obtain ⟨c00, c01, c02, c03, f0, l0⟩ := block_four h0
        obtain ⟨c10, c11, c12, c13, f1, l1⟩ := block_four h1
        have HT := hide ht
        have H0 := hide h0
        have H1 := hide h1
        clear ht h0 h1
        by_cases hlt : L + k ≤ H
        · go_wp2_with (go_at_call 80; refine (Pure.go (with_pure _ _ (by omega) (by omega)) _).mono ?_; rintro e w' ⟨rfl, x, rfl⟩)
          go_roundw
          case rel =>
            refine ⟨k + 1, by omega, by go_num, ?_, ?_, t.ins (L + k), ?_, ?_⟩
            · repeat' (with_reducible (first | exact Below.refl _ _ | assumption | refine Below.drew ?_ | refine Below.alloc ?_ ?_ _ | refine Below.setCell ?_ ?_ _ | refine below_later ?_ ?_ _))
              all_goals (repeat' (with_reducible (first | exact Nat.le_refl _ | assumption | refine le_size_later ?_ | refine le_size_alloc ?_ | refine le_size_set ?_ | refine le_size_drew ?_)))
              all_goals (first | omega | (simp; done) | (simp; omega))
            · rw [store_four_ne (by omega)]; exact block_later H0.out
            · rw [HT.out]; rfl
            · exact store_four (block_later H1.out) _ _ _ _
          case measure => simp [intOf]; omega
        · go_wp2
          refine bodyPost_ret (v := (rangeS lo hi).val) ?_ rfl ⟨rfl, ?_⟩
          · have h2 := HT.out
            obtain rfl : k = H + 1 - L := by omega
            rw [← HV.out] at h2
            simp [results, Try.results22, go_sem, h2, c00, c01, c02, c03, f0]
          · repeat' (with_reducible (first | exact Below.refl _ _ | assumption | refine Below.drew ?_ | refine Below.alloc ?_ ?_ _ | refine Below.setCell ?_ ?_ _ | refine below_later ?_ ?_ _))
            all_goals (repeat' (with_reducible (first | exact Nat.le_refl _ | assumption | refine le_size_later ?_ | refine le_size_alloc ?_ | refine le_size_set ?_ | refine le_size_drew ?_)))
            all_goals (first | omega | (simp; done) | (simp; omega))

end Go.Proofs.Ytlbonbkaddeeeaa
