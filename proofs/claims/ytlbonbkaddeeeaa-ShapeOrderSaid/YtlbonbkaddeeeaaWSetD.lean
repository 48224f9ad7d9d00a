/-
  The walks of Count and Bytes.
-/
import Derived.Test.YtlbonbkaddeeeaaWSetC
import Derived.Test.YtlbonbkaddeeeaaSetsB
set_option linter.unusedSimpArgs false
set_option linter.unusedVariables false
namespace Go.Proofs.Ytlbonbkaddeeeaa
open Go.RowKit Go.Eng Go.Conch

theorem and_u (a c : Nat) (ha : a < 18446744073709551616) (hc : c < 18446744073709551616) : bits .and .u64 (a : Int) (c : Int) = ((a &&& c : Nat) : Int) := u64_and_nat a c ha hc
theorem wrap_u (a : Nat) (ha : a < 18446744073709551616) : IntKind.u64.wrap (a : Int) = a := by rw [IntKind.wrap_u64]; omega
theorem and_le (a c : Nat) : a &&& c ≤ c := Nat.and_le_right

theorem wrap64_bits (n : Nat) (h : n < 18446744073709551616) : (BitVec.ofInt 64 (wrap64 (n : Int))).toNat = n := by
  unfold wrap64
  rw [BitVec.toNat_ofInt]
  omega
theorem low7 (n p : Nat) (h : n < 18446744073709551616) (hp : n % 128 = p) : bits .and .i64 (wrap64 (n : Int)) 127 = (p : Int) := by
  show IntKind.i64.wrap ((BitVec.ofInt 64 (wrap64 (n : Int)) &&& BitVec.ofInt 64 127).toNat : Int) = _
  rw [BitVec.toNat_and, wrap64_bits n h]
  have h2 : (BitVec.ofInt 64 127).toNat = 2 ^ 7 - 1 := rfl
  rw [h2, Nat.and_two_pow_sub_one_eq_mod, IntKind.wrap_i64]
  have h3 : (2 : Nat) ^ 7 = 128 := rfl
  rw [h3]
  omega

set_option maxRecDepth 100000 in
set_option maxHeartbeats 1000000 in
theorem ones_pure (x : UInt64) : Pure Try.prog 81 #[.int .u64 x.toNat] (.int .i64 (pop x.toNat 64)) := by
  intro w
  have hx := x.toNat_lt
  have hx' : x.toNat < 18446744073709551616 := hx
  obtain ⟨x1, x2, x3, x4, x5, x6, e1, l1, e2, l2, l2', e3, l3, e4, l4, e5, l5, e6, l6, hp⟩ := count_bits x.toNat hx
  have d1 : (x.toNat : Int) / 2 = ((x.toNat / 2 : Nat) : Int) := by omega
  have d2 : (x1 : Int) / 4 = ((x1 / 4 : Nat) : Int) := by omega
  have r1 : IntKind.u64.wrap (bits .and .u64 ((x.toNat : Int) / 2) 6148914691236517205 + bits .and .u64 (x.toNat : Int) 6148914691236517205) = (x1 : Int) := by
    have q1 := and_u (x.toNat / 2) 6148914691236517205 (by omega) (by omega)
    have q2 := and_u x.toNat 6148914691236517205 hx' (by omega)
    simp only [Int.cast_ofNat_Int] at q1 q2
    rw [d1, q1, q2, ← Int.natCast_add, ← e1, wrap_u _ l1]
  have r2 : IntKind.u64.wrap (bits .and .u64 ((x1 : Int) / 4) 3689348814741910323 + bits .and .u64 (x1 : Int) 3689348814741910323) = (x2 : Int) := by
    have q1 := and_u (x1 / 4) 3689348814741910323 (by omega) (by omega)
    have q2 := and_u x1 3689348814741910323 l1 (by omega)
    simp only [Int.cast_ofNat_Int] at q1 q2
    rw [d2, q1, q2, ← Int.natCast_add, ← e2, wrap_u _ l2]
  have r3 : IntKind.u64.wrap ((x2 : Int) / 16 + x2) = ((x2 / 16 + x2 : Nat) : Int) := by
    have q : (x2 : Int) / 16 + x2 = ((x2 / 16 + x2 : Nat) : Int) := by omega
    rw [q, wrap_u _ l2']
  have r3' : bits .and .u64 (((x2 / 16 + x2 : Nat) : Int)) 1085102592571150095 = (x3 : Int) := by
    have q1 := and_u (x2 / 16 + x2) 1085102592571150095 l2' (by omega)
    simp only [Int.cast_ofNat_Int] at q1
    rw [q1, ← e3]
  rw [← r3] at r3'
  have r4 : IntKind.u64.wrap ((x3 : Int) + (x3 : Int) / 256) = (x4 : Int) := by
    have q : (x3 : Int) + (x3 : Int) / 256 = ((x3 + x3 / 256 : Nat) : Int) := by omega
    rw [q, ← e4, wrap_u _ l4]
  have r5 : IntKind.u64.wrap ((x4 : Int) + (x4 : Int) / 65536) = (x5 : Int) := by
    have q : (x4 : Int) + (x4 : Int) / 65536 = ((x4 + x4 / 65536 : Nat) : Int) := by omega
    rw [q, ← e5, wrap_u _ l5]
  have r6 : IntKind.u64.wrap ((x5 : Int) + (x5 : Int) / 4294967296) = (x6 : Int) := by
    have q : (x5 : Int) + (x5 : Int) / 4294967296 = ((x5 + x5 / 4294967296 : Nat) : Int) := by omega
    rw [q, ← e6, wrap_u _ l6]
  have r7 : bits .and .i64 (wrap64 (x6 : Int)) 127 = ((pop x.toNat 64 : Nat) : Int) := low7 x6 _ l6 hp
  clear e1 e2 e3 e4 e5 e6 d1 d2 r3 hp l1 l2 l2' l3 l4 l5 l6 hx hx'
  go_enter Try.func81, Try.ntmps81
  go_wp2
  go_ret
  refine ⟨?_, Below.refl _ _⟩
  simp [r7]

theorem pop_le (x n : Nat) : pop x n ≤ n := by
  unfold pop
  have h := List.countP_le_length (p := (x.testBit ·)) (l := List.range n)
  simpa using h

set_option maxRecDepth 100000 in
set_option maxHeartbeats 1000000 in
theorem count_pure (s : S4) : Pure Try.prog 21 #[s.val] (.int .i64 (cnt s)) := by
  intro w
  have i0 : ∀ (x0 x1 x2 x3 : Int) (w : World), (Instr.index 25 (.agg #[.int .u64 x0, .int .u64 x1, .int .u64 x2, .int .u64 x3]) (.int .i64 0)).run Try.prog w = .ok (.int .u64 x0) w := fun _ _ _ _ _ => by kernel_rfl
  have i1 : ∀ (x0 x1 x2 x3 : Int) (w : World), (Instr.index 25 (.agg #[.int .u64 x0, .int .u64 x1, .int .u64 x2, .int .u64 x3]) (.int .i64 1)).run Try.prog w = .ok (.int .u64 x1) w := fun _ _ _ _ _ => by kernel_rfl
  have i2 : ∀ (x0 x1 x2 x3 : Int) (w : World), (Instr.index 25 (.agg #[.int .u64 x0, .int .u64 x1, .int .u64 x2, .int .u64 x3]) (.int .i64 2)).run Try.prog w = .ok (.int .u64 x2) w := fun _ _ _ _ _ => by kernel_rfl
  have i3 : ∀ (x0 x1 x2 x3 : Int) (w : World), (Instr.index 25 (.agg #[.int .u64 x0, .int .u64 x1, .int .u64 x2, .int .u64 x3]) (.int .i64 3)).run Try.prog w = .ok (.int .u64 x3) w := fun _ _ _ _ _ => by kernel_rfl
  have b0 := pop_le s.a.toNat 64
  have b1 := pop_le s.b.toNat 64
  have b2 := pop_le s.c.toNat 64
  have b3 := pop_le s.d.toNat 64
  go_enter Try.func21, Try.ntmps21
  go_wp2
  refine wp_loop_rounds 5 ?_
  rw [rounds_succ]
  go_wp2_with (go_at_call 81; refine (Pure.go (ones_pure s.a) _).mono ?_; rintro e w' ⟨rfl, x, rfl⟩)
  rw [rounds_succ]
  go_wp2_with (go_at_call 81; refine (Pure.go (ones_pure s.b) _).mono ?_; rintro e w' ⟨rfl, x, rfl⟩)
  rw [rounds_succ]
  go_wp2_with (go_at_call 81; refine (Pure.go (ones_pure s.c) _).mono ?_; rintro e w' ⟨rfl, x, rfl⟩)
  rw [rounds_succ]
  go_wp2_with (go_at_call 81; refine (Pure.go (ones_pure s.d) _).mono ?_; rintro e w' ⟨rfl, x, rfl⟩)
  rw [rounds_succ]
  go_wp2
  go_ret
  refine ⟨?_, ?_⟩
  · simp [cnt]
  · repeat' (with_reducible (first | exact Below.refl _ _ | assumption | refine Below.drew ?_ | refine Below.alloc ?_ ?_ _ | refine Below.setCell ?_ ?_ _ | refine below_later ?_ ?_ _))
    all_goals (repeat' (with_reducible (first | exact Nat.le_refl _ | assumption | refine le_size_later ?_ | refine le_size_alloc ?_ | refine le_size_set ?_ | refine le_size_drew ?_)))
    all_goals (first | omega | (simp; done) | (simp; omega))

theorem bytesTo_succ (s : S4) (k : Nat) : bytesTo s (k + 1) = if s.mem k = true then bytesTo s k ++ [UInt8.ofNat k] else bytesTo s k := by
  unfold bytesTo
  rw [List.range_succ, List.filter_append, List.map_append]
  split
  · rename_i h; simp [h]
  · rename_i h; simp [h]
theorem info5 : (Try.prog.info? 5).map (fun i => (i.zero, i.size, i.bytes)) = some (some (.int .u8 0), 1, 1) := by kernel_rfl
def u8s (l : List UInt8) : List Value := l.map fun b => Value.int .u8 (b.toNat : Int)

set_option maxRecDepth 100000 in
set_option maxHeartbeats 2000000 in
theorem bytes_pure (s : S4) : Pure Try.prog 19 #[s.val] (.string ⟨(bytesTo s 256).toArray⟩) := by
  intro w
  obtain ⟨i0, hi, hz0, hz1, hz2⟩ := info_parts info5
  go_enter Try.func19, Try.ntmps19
  go_wp2
  go_loopw [3, 5] (fun v i wr => ∃ k : Nat, k ≤ 256 ∧ i = .int .i64 k ∧ Below w.heap.size w wr ∧ wr.heap[w.heap.size]? = some (.cells #[.int .u64 s.a.toNat, .int .u64 s.b.toNat, .int .u64 s.c.toNat, .int .u64 s.d.toNat] 25 (0, 0)) ∧
    ∃ l, l = bytesTo s k ∧ l.length ≤ k ∧ wr.ownsRow (w.heap.size + 1) 5 1 v l.length (u8s l)) (fun _ i _ => 256 - (intOf i).toNat)
  case atStart =>
    refine ⟨0, by omega, rfl, ?_, ?_, [], rfl, Nat.le_refl _, World.ownsRow_nil _ _ _ _⟩
    · repeat' (with_reducible (first | exact Below.refl _ _ | assumption | refine Below.drew ?_ | refine Below.alloc ?_ ?_ _ | refine Below.setCell ?_ ?_ _ | refine below_later ?_ ?_ _))
      all_goals (repeat' (with_reducible (first | exact Nat.le_refl _ | assumption | refine le_size_later ?_ | refine le_size_alloc ?_ | refine le_size_set ?_ | refine le_size_drew ?_)))
      all_goals (first | omega | (simp; done) | (simp; omega))
    · exact alloc_here rfl
  case round =>
    obtain ⟨k, hk, rfl, hb, h0, l, hl, hlen, hown⟩ := hrel
    obtain ⟨c00, c01, c02, c03, f0, l0⟩ := block_four h0
    have H0 := hide h0
    have HL := hide hl
    have HO := hide hown
    clear h0 hl hown
    by_cases hlt : k < 256
    · cases hm : s.mem k with
      | true =>
        go_wp2_with (first
          | (go_at_call 20; refine (Pure.go (has_pure s _ (by omega) (by omega)) _).mono ?_; rintro e w' ⟨rfl, x, rfl⟩)
          | (at_builtin; refine wpList_append_own _ rfl _ _ 49 rfl (w.heap.size + 1) 5 i0 (.int .u8 0) 1 1 Try.underlying49 hi hz0 hz1 hz2 rfl (by decide) _ _ _ rfl ((ownsRow_later HO.out).alloc _) ⟨(later wr _).heap.size, 0, none⟩ 1 1 [.int .u8 (k : Int)] rfl rfl ?c1 ?c2 ?c3 ?c4 ?c5 ?_))
        case c1 => exact fun j u hj => new_one _ _ _ j u hj
        case c2 => intro u hu; simp at hu; subst hu; rfl
        case c3 => unfold maxLen; omega
        case c4 => omega
        case c5 => rw [size_alloc]; exact Nat.succ_le_succ (Nat.le_trans (Nat.le_of_lt l0) (size_later _ _))
        intro v' w1 hown' hg _
        have hs0 : w.heap.size < (later wr x).heap.size := Nat.lt_of_lt_of_le l0 (size_later wr x)
        have hs1 : ∀ o, w.heap.size < ((later wr x).alloc o).heap.size := fun o => by rw [size_alloc]; omega
        have hbx : Below w.heap.size w w1 := grown_below (B := w.heap.size) (by
          repeat' (with_reducible (first | exact Below.refl _ _ | assumption | refine Below.drew ?_ | refine Below.alloc ?_ ?_ _ | refine Below.setCell ?_ ?_ _ | refine below_later ?_ ?_ _))
          all_goals (repeat' (with_reducible (first | exact Nat.le_refl _ | assumption | refine le_size_later ?_ | refine le_size_alloc ?_ | refine le_size_set ?_ | refine le_size_drew ?_)))
          all_goals (first | omega | (simp; done) | (simp; omega))) hg HO.out (Nat.le_succ _) (Nat.le_of_lt (hs1 _))
        have h0x : w1.heap[w.heap.size]? = some (.cells #[.int .u64 s.a.toNat, .int .u64 s.b.toNat, .int .u64 s.c.toNat, .int .u64 s.d.toNat] 25 (0, 0)) := by
          rw [grown_get hg HO.out (Nat.lt_succ_self _) (hs1 _), alloc_old hs0]
          exact block_later H0.out
        have HX := hide hown'
        have HB := hide hbx
        have HZ := hide h0x
        clear hg hown' hbx h0x
        go_wp2
        go_roundw
        case rel =>
          refine ⟨k + 1, by omega, by go_num, HB.out, HZ.out, l ++ [UInt8.ofNat k], ?_, by rw [List.length_append]; exact Nat.add_le_add hlen (Nat.le_refl 1), ?_⟩
          · rw [bytesTo_succ, if_pos hm, HL.out]
          · have h9 := HX.out
            have e9 : (UInt8.ofNat k).toNat = k := by simp; omega
            simpa [u8s, e9] using h9
        case measure => simp [intOf]; omega
      | false =>
        go_wp2_with (go_at_call 20; refine (Pure.go (has_pure s _ (by omega) (by omega)) _).mono ?_; rintro e w' ⟨rfl, x, rfl⟩)
        go_roundw
        case rel =>
          refine ⟨k + 1, by omega, by go_num, ?_, block_later H0.out, l, ?_, by omega, ownsRow_later HO.out⟩
          · repeat' (with_reducible (first | exact Below.refl _ _ | assumption | refine Below.drew ?_ | refine Below.alloc ?_ ?_ _ | refine Below.setCell ?_ ?_ _ | refine below_later ?_ ?_ _))
            all_goals (repeat' (with_reducible (first | exact Nat.le_refl _ | assumption | refine le_size_later ?_ | refine le_size_alloc ?_ | refine le_size_set ?_ | refine le_size_drew ?_)))
            all_goals (first | omega | (simp; done) | (simp; omega))
          · rw [bytesTo_succ, if_neg (by rw [hm]; exact Bool.false_ne_true), HL.out]
        case measure => simp [intOf]; omega
    · obtain rfl : k = 256 := by omega
      have hcv := own_text (P := Try.prog) (dst := 9) Try.underlying49 Try.underlying5 Try.underlying9 HO.out
      rw [HL.out] at hcv
      go_wp2
      go_ret
      refine ⟨rfl, hb⟩

set_option maxRecDepth 100000 in
set_option maxHeartbeats 2000000 in
theorem refbytes_pure (s : S4) : Pure Try.prog 33 #[s.val] (.string ⟨(bytesTo s 256).toArray⟩) := by
  intro w
  go_enter Try.func33, Try.ntmps33
  go_wp2
  go_loopw [3, 4] (fun v i wr => ∃ k : Nat, k ≤ 256 ∧ i = .int .i64 k ∧ Below w.heap.size w wr ∧ wr.heap[w.heap.size]? = some (.cells #[.int .u64 s.a.toNat, .int .u64 s.b.toNat, .int .u64 s.c.toNat, .int .u64 s.d.toNat] 25 (0, 0)) ∧
    ∃ l, l = bytesTo s k ∧ l.length ≤ k ∧ v = .string ⟨l.toArray⟩) (fun _ i _ => 256 - (intOf i).toNat)
  case atStart =>
    refine ⟨0, by omega, rfl, ?_, ?_, [], rfl, Nat.le_refl _, rfl⟩
    · repeat' (with_reducible (first | exact Below.refl _ _ | assumption | refine Below.drew ?_ | refine Below.alloc ?_ ?_ _ | refine Below.setCell ?_ ?_ _ | refine below_later ?_ ?_ _))
      all_goals (repeat' (with_reducible (first | exact Nat.le_refl _ | assumption | refine le_size_later ?_ | refine le_size_alloc ?_ | refine le_size_set ?_ | refine le_size_drew ?_)))
      all_goals (first | omega | (simp; done) | (simp; omega))
    · exact alloc_here rfl
  case round =>
    obtain ⟨k, hk, rfl, hb, h0, l, hl, hlen, rfl⟩ := hrel
    obtain ⟨c00, c01, c02, c03, f0, l0⟩ := block_four h0
    have H0 := hide h0
    have HL := hide hl
    clear h0 hl
    by_cases hlt : k < 256
    · cases hm : s.mem k with
      | true =>
        have hcv := fun W => new_text (P := Try.prog) W (dst := 9) Try.underlying49 Try.underlying5 Try.underlying9 k hlt
        go_wp2_with (go_at_call 24; refine (Pure.go (refhas_pure s _ (by omega) (by omega)) _).mono ?_; rintro e w' ⟨rfl, x, rfl⟩)
        have hs0 : w.heap.size < (later wr x).heap.size := Nat.lt_of_lt_of_le l0 (size_later wr x)
        go_roundw
        case rel =>
          refine ⟨k + 1, by omega, by go_num, ?_, ?_, l ++ [UInt8.ofNat k], ?_, by rw [List.length_append]; exact Nat.add_le_add hlen (Nat.le_refl 1), ?_⟩
          · repeat' (with_reducible (first | exact Below.refl _ _ | assumption | refine Below.drew ?_ | refine Below.alloc ?_ ?_ _ | refine Below.setCell ?_ ?_ _ | refine below_later ?_ ?_ _))
            all_goals (repeat' (with_reducible (first | exact Nat.le_refl _ | assumption | refine le_size_later ?_ | refine le_size_alloc ?_ | refine le_size_set ?_ | refine le_size_drew ?_)))
            all_goals (first | omega | (simp; done) | (simp; omega))
          · rw [alloc_old hs0]; exact block_later H0.out
          · rw [bytesTo_succ, if_pos hm, HL.out]
          · exact congrArg Value.string (text_append l [UInt8.ofNat k])
        case measure => simp [intOf]; omega
      | false =>
        go_wp2_with (go_at_call 24; refine (Pure.go (refhas_pure s _ (by omega) (by omega)) _).mono ?_; rintro e w' ⟨rfl, x, rfl⟩)
        go_roundw
        case rel =>
          refine ⟨k + 1, by omega, by go_num, ?_, block_later H0.out, l, ?_, by omega, rfl⟩
          · repeat' (with_reducible (first | exact Below.refl _ _ | assumption | refine Below.drew ?_ | refine Below.alloc ?_ ?_ _ | refine Below.setCell ?_ ?_ _ | refine below_later ?_ ?_ _))
            all_goals (repeat' (with_reducible (first | exact Nat.le_refl _ | assumption | refine le_size_later ?_ | refine le_size_alloc ?_ | refine le_size_set ?_ | refine le_size_drew ?_)))
            all_goals (first | omega | (simp; done) | (simp; omega))
          · rw [bytesTo_succ, if_neg (by rw [hm]; exact Bool.false_ne_true), HL.out]
        case measure => simp [intOf]; omega
    · obtain rfl : k = 256 := by omega
      go_wp2
      go_ret
      refine ⟨?_, hb⟩
      rw [HL.out]
      rfl

end Go.Proofs.Ytlbonbkaddeeeaa
