/-
  The laws on sets.
-/
import Derived.Test.YtlbonbkaddeeeaaWSetD
set_option linter.unusedSimpArgs false
set_option linter.unusedVariables false
namespace Go.Proofs.Ytlbonbkaddeeeaa
open Go.RowKit Go.Eng Go.Conch

set_option maxRecDepth 100000 in
set_option maxHeartbeats 2000000 in
theorem awake3_pure : Pure Try.prog 17 #[] (.bool true) := by
  have g1 : bytesTo (ofBytes [98, 97]) 256 = [97, 98] := by decide +kernel
  have g2 : (ofBytes [98, 97]).mem 97 = true := by decide +kernel
  have g3 : (ofBytes [98, 97]).mem 99 = false := by decide +kernel
  have g4 : cnt allS = 255 := by decide +kernel
  have g5 : allS.mem 0 = false := by decide +kernel
  have g6 : bytesTo (rangeS 48 50) 256 = [48, 49, 50] := by decide +kernel
  have g7 : (ofBytes [98, 97]).less allS = S4.zero := by decide +kernel
  intro w
  go_enter Try.func17, Try.ntmps17
  go_wp2_with (go_at_call 18; refine (Pure.go (of_pure _ (by decide)) _).mono ?_; rintro e w' ⟨rfl, x, rfl⟩)
  refine region_pure (by kernel_rfl) (by kernel_rfl) ?_
  repeat go_big_quiet_step (first
    | (go_at_call 19; exact Pure.inn (bytes_pure _) _ _)
    | (go_at_call 20; exact Pure.inn (has_pure _ _ (by decide) (by decide)) _ _)
    | (go_at_call 79; exact Pure.inn all_pure _ _)
    | (go_at_call 21; exact Pure.inn (count_pure _) _ _)
    | (go_at_call 22; exact Pure.inn (range_pure _ _) _ _)
    | (go_at_call 32; exact Pure.inn (within_pure _ _) _ _))
  refine wpQuiet_nil ?_
  intro x
  go_wp2
  go_ret
  refine ⟨rfl, ?_⟩
  repeat' (with_reducible (first | exact Below.refl _ _ | assumption | refine Below.drew ?_ | refine Below.alloc ?_ ?_ _ | refine Below.setCell ?_ ?_ _ | refine below_later ?_ ?_ _))
  all_goals (repeat' (with_reducible (first | exact Nat.le_refl _ | assumption | refine le_size_later ?_ | refine le_size_alloc ?_ | refine le_size_set ?_ | refine le_size_drew ?_)))
  all_goals (first | omega | (simp; done) | (simp; omega))

set_option maxRecDepth 100000 in
set_option maxHeartbeats 4000000 in
theorem setbytes_pure (s : ByteArray) (hs : s.size ≤ 9223372036854775807) : Pure Try.prog 3 #[.string s] (.bool true) := by
  intro w
  by_cases hlen : 400 < s.size
  · go_enter Try.func3, Try.ntmps3
    go_wp2_with (go_at_call 17; refine (Pure.go awake3_pure _).mono ?_; rintro e w' ⟨rfl, x, rfl⟩)
    go_ret
    refine ⟨rfl, ?_⟩
    repeat' (with_reducible (first | exact Below.refl _ _ | assumption | refine Below.drew ?_ | refine Below.alloc ?_ ?_ _ | refine Below.setCell ?_ ?_ _ | refine below_later ?_ ?_ _))
    all_goals (repeat' (with_reducible (first | exact Nat.le_refl _ | assumption | refine le_size_later ?_ | refine le_size_alloc ?_ | refine le_size_set ?_ | refine le_size_drew ?_)))
    all_goals (first | omega | (simp; done) | (simp; omega))
  have p18 := of_pure s hs
  have p19 : Pure Try.prog 19 #[(ofBytes s.data.toList).val] (.string (textOf (ofBytes s.data.toList))) := bytes_pure _
  have p18b : Pure Try.prog 18 #[.string (s ++ s)] (ofBytes s.data.toList).val := by
    have h1 := of_pure (s ++ s) (by rw [ByteArray.size_append]; omega)
    have h2 : (s ++ s).data.toList = s.data.toList ++ s.data.toList := by simp
    rw [h2, ofBytes_twice] at h1
    exact h1
  have p21 : Pure Try.prog 21 #[(ofBytes s.data.toList).val] (.int .i64 (textOf (ofBytes s.data.toList)).size) := by rw [textOf_size]; exact count_pure _
  have hTle := textOf_le (ofBytes s.data.toList)
  have hrise := textOf_rise (ofBytes s.data.toList)
  have hin := text_mem s
  have hsome := text_some s
  generalize ofBytes s.data.toList = A at *
  generalize textOf A = T at *
  have HR := hide hrise
  have HI := hide hin
  have HS := hide hsome
  have hl2 : s.size ≤ 400 := by omega
  clear hrise hin hsome hlen
  go_enter Try.func3, Try.ntmps3
  go_wp2_with (first
    | (go_at_call 18; refine (Pure.go p18 _).mono ?_; rintro e w' ⟨rfl, x, rfl⟩)
    | (go_at_call 19; refine (Pure.go p19 _).mono ?_; rintro e w' ⟨rfl, x2, rfl⟩))
  have hN := size_later w x
  go_loopw [5] (fun i wr => ∃ n : Nat, 1 ≤ n ∧ i = .int .i64 (n : Int) ∧ Below w.heap.size w wr ∧ wr.heap[(later w x).heap.size]? = some (.cells #[.int .u64 A.a.toNat, .int .u64 A.b.toNat, .int .u64 A.c.toNat, .int .u64 A.d.toNat] 25 (0, 0))) (fun i _ => 300 - (intOf i).toNat)
  case atStart =>
    refine ⟨1, Nat.le_refl _, rfl, ?_, ?_⟩
    · repeat' (with_reducible (first | exact Below.refl _ _ | assumption | refine Below.drew ?_ | refine Below.alloc ?_ ?_ _ | refine Below.setCell ?_ ?_ _ | refine below_later ?_ ?_ _))
      all_goals (repeat' (with_reducible (first | exact Nat.le_refl _ | assumption | refine le_size_later ?_ | refine le_size_alloc ?_ | refine le_size_set ?_ | refine le_size_drew ?_)))
      all_goals (first | omega | (simp; done) | (simp; omega))
    · exact block_later (alloc_here rfl)
  case round =>
    obtain ⟨n, hn, rfl, hb, h0⟩ := hrel
    obtain ⟨c00, c01, c02, c03, f0, l0⟩ := block_four h0
    have H0 := hide h0
    clear h0
    by_cases hlt : n < T.size
    · obtain ⟨j, rfl⟩ : ∃ j, n = j + 1 := ⟨n - 1, by omega⟩
      have hr := HR.out j (by omega) hlt
      have hj0 : j < T.size := by omega
      have hw : ((j : Int) + 1).toNat = j + 1 := by omega
      have hw2 : (0 : Int) ≤ (j : Int) + 1 := by omega
      go_wp2
      refine region_pure (by kernel_rfl) (by kernel_rfl) ?_
      repeat go_big_quiet_step (fail)
      refine wpQuiet_nil ?_
      intro x3
      go_wp2
      go_roundw
      case rel =>
        refine ⟨j + 1 + 1, by omega, by go_num, ?_, block_later H0.out⟩
        repeat' (with_reducible (first | exact Below.refl _ _ | assumption | refine Below.drew ?_ | refine Below.alloc ?_ ?_ _ | refine Below.setCell ?_ ?_ _ | refine below_later ?_ ?_ _))
        all_goals (repeat' (with_reducible (first | exact Nat.le_refl _ | assumption | refine le_size_later ?_ | refine le_size_alloc ?_ | refine le_size_set ?_ | refine le_size_drew ?_)))
        all_goals (first | omega | (simp; done) | (simp; omega))
      case measure => simp [intOf]; omega
    · clear c00 c01 c02 c03 f0
      go_wp2
      go_loopw [6] (fun i wr' => ∃ k : Nat, k ≤ s.size ∧ i = .int .i64 k ∧ Below w.heap.size w wr' ∧ wr'.heap[(later w x).heap.size]? = some (.cells #[.int .u64 A.a.toNat, .int .u64 A.b.toNat, .int .u64 A.c.toNat, .int .u64 A.d.toNat] 25 (0, 0))) (fun i _ => s.size - (intOf i).toNat)
      case atStart => exact ⟨0, by omega, rfl, hb, H0.out⟩
      case round =>
        clear hb H0 l0 hlt hn
        obtain ⟨k, hk, rfl, hb, h0⟩ := hrel
        obtain ⟨c00, c01, c02, c03, f0, l0⟩ := block_four h0
        have H0 := hide h0
        clear h0
        by_cases hlt : k < s.size
        · have hm := HI.out k hlt
          have hbt := s[k].toNat_lt
          go_wp2
          refine region_pure (by kernel_rfl) (by kernel_rfl) ?_
          repeat go_big_quiet_step ((go_at_call 20; exact Pure.inn (has_pure _ _ (by omega) (by omega)) _ _))
          refine wpQuiet_nil ?_
          intro x3
          go_wp2
          go_roundw
          case rel =>
            refine ⟨k + 1, by omega, by go_num, ?_, block_later H0.out⟩
            repeat' (with_reducible (first | exact Below.refl _ _ | assumption | refine Below.drew ?_ | refine Below.alloc ?_ ?_ _ | refine Below.setCell ?_ ?_ _ | refine below_later ?_ ?_ _))
            all_goals (repeat' (with_reducible (first | exact Nat.le_refl _ | assumption | refine le_size_later ?_ | refine le_size_alloc ?_ | refine le_size_set ?_ | refine le_size_drew ?_)))
            all_goals (first | omega | (simp; done) | (simp; omega))
          case measure => simp [intOf]; omega
        · clear c00 c01 c02 c03 f0
          go_wp2
          go_loopw [7] (fun i wr' => ∃ k : Nat, k ≤ T.size ∧ i = .int .i64 k ∧ Below w.heap.size w wr' ∧ wr'.heap[(later w x).heap.size]? = some (.cells #[.int .u64 A.a.toNat, .int .u64 A.b.toNat, .int .u64 A.c.toNat, .int .u64 A.d.toNat] 25 (0, 0))) (fun i _ => T.size - (intOf i).toNat)
          case atStart => exact ⟨0, by omega, rfl, hb, H0.out⟩
          case round =>
            clear hb H0 l0 hlt hk
            obtain ⟨i, hk, rfl, hb, h0⟩ := hrel
            obtain ⟨c00, c01, c02, c03, f0, l0⟩ := block_four h0
            have H0 := hide h0
            clear h0
            by_cases hlt : i < T.size
            · obtain ⟨m, hm, he⟩ := HS.out i hlt
              have HE := hide he
              clear he c00 c01 c02 c03 f0
              go_wp2
              go_loopw [8, 9] (fun b j wr' => ∃ n : Nat, ∃ B : Bool, n ≤ s.size ∧ j = .int .i64 n ∧ b = .bool B ∧ (m < n → B = true) ∧ Below w.heap.size w wr' ∧ wr'.heap[(later w x).heap.size]? = some (.cells #[.int .u64 A.a.toNat, .int .u64 A.b.toNat, .int .u64 A.c.toNat, .int .u64 A.d.toNat] 25 (0, 0))) (fun _ j _ => s.size - (intOf j).toNat)
              case atStart => exact ⟨0, false, by omega, rfl, rfl, fun h => by omega, hb, H0.out⟩
              case round =>
                clear hb H0 l0
                obtain ⟨n, B, hn, rfl, rfl, hB, hb, h0⟩ := hrel
                have hbl := block_lt h0
                have H0 := hide h0
                have HB := hide hB
                clear h0 hB
                by_cases hnl : n < s.size
                · cases B with
                  | true =>
                    go_wp2
                    refine region_pure (by kernel_rfl) (by kernel_rfl) ?_
                    repeat go_big_quiet_step (fail)
                    refine wpQuiet_nil ?_
                    intro x3
                    go_wp2
                    go_roundw
                    case rel =>
                      refine ⟨n + 1, true, by omega, by go_num, rfl, fun _ => rfl, ?_, block_later H0.out⟩
                      repeat' (with_reducible (first | exact Below.refl _ _ | assumption | refine Below.drew ?_ | refine Below.alloc ?_ ?_ _ | refine Below.setCell ?_ ?_ _ | refine below_later ?_ ?_ _))
                      all_goals (repeat' (with_reducible (first | exact Nat.le_refl _ | assumption | refine le_size_later ?_ | refine le_size_alloc ?_ | refine le_size_set ?_ | refine le_size_drew ?_)))
                      all_goals (first | omega | (simp; done) | (simp; omega))
                    case measure => simp [intOf]; omega
                  | false =>
                    have hmn : n ≤ m := by
                      rcases Nat.lt_or_ge m n with h | h
                      · exact absurd (HB.out h) Bool.false_ne_true
                      · exact h
                    go_wp2
                    refine region_pure (by kernel_rfl) (by kernel_rfl) ?_
                    repeat go_big_quiet_step (fail)
                    refine wpQuiet_nil ?_
                    intro x3
                    go_wp2
                    go_roundw
                    case rel =>
                      refine ⟨n + 1, _, by omega, by go_num, rfl, fun h => ?_, ?_, block_later H0.out⟩
                      · have e : m = n := by omega
                        subst e
                        have h5 := HE.out
                        rw [h5]
                        simp
                      · repeat' (with_reducible (first | exact Below.refl _ _ | assumption | refine Below.drew ?_ | refine Below.alloc ?_ ?_ _ | refine Below.setCell ?_ ?_ _ | refine below_later ?_ ?_ _))
                        all_goals (repeat' (with_reducible (first | exact Nat.le_refl _ | assumption | refine le_size_later ?_ | refine le_size_alloc ?_ | refine le_size_set ?_ | refine le_size_drew ?_)))
                        all_goals (first | omega | (simp; done) | (simp; omega))
                    case measure => simp [intOf]; omega
                · have hB : B = true := HB.out (by omega)
                  subst hB
                  go_wp2
                  go_roundw
                  case rel =>
                    exact ⟨i + 1, by omega, by go_num, hb, H0.out⟩
                  case measure => simp [intOf]; omega
            · have heq := fun W => eq_run A A W
              go_wp2
              refine region_pure (by kernel_rfl) (by kernel_rfl) ?_
              repeat go_big_quiet_step (first
                | (go_at_call 21; exact Pure.inn p21 _ _)
                | (go_at_call 18; exact Pure.inn p18b _ _)
                | (go_at_call 17; exact Pure.inn awake3_pure _ _))
              refine wpQuiet_nil ?_
              intro x3
              go_wp2
              go_ret
              refine ⟨rfl, ?_⟩
              repeat' (with_reducible (first | exact Below.refl _ _ | assumption | refine Below.drew ?_ | refine Below.alloc ?_ ?_ _ | refine Below.setCell ?_ ?_ _ | refine below_later ?_ ?_ _))
              all_goals (repeat' (with_reducible (first | exact Nat.le_refl _ | assumption | refine le_size_later ?_ | refine le_size_alloc ?_ | refine le_size_set ?_ | refine le_size_drew ?_)))
              all_goals (first | omega | (simp; done) | (simp; omega))

end Go.Proofs.Ytlbonbkaddeeeaa
