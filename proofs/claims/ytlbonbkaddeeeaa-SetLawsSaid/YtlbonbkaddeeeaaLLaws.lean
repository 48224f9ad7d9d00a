/-
  The law that sets join, meet and lessen as sets do.
-/
import Derived.Test.YtlbonbkaddeeeaaLSet
import Derived.Test.YtlbonbkaddeeeaaEngB
set_option linter.unusedSimpArgs false
set_option linter.unusedVariables false
namespace Go.Proofs.Ytlbonbkaddeeeaa
open Go.RowKit Go.Eng Go.Conch

def zeros25 : Obj := .cells #[.int .u64 0, .int .u64 0, .int .u64 0, .int .u64 0] 25 (0, 0)
theorem run_alloc25 (o : Oper) (h : o.op = .alloc 25) (ρ : Operand → Value) (W : World) : (execOp ρ o).run Try.prog W = .ok (.value (newPtr W.heap.size)) (W.alloc zeros25) := by
  unfold execOp
  rw [h]
  kernel_rfl

set_option maxRecDepth 100000 in
set_option maxHeartbeats 8000000 in
theorem setlaws_pure (a b c : S4) : Pure Try.prog 6 #[a.val, b.val, c.val] (.bool true) := by
  intro w
  have g1 := less_or a b
  have g2 := and_less a b
  have g3 := less_or_and a b
  have g4 := less_and a b
  have g5 := or_self a
  have g6 := or_comm a b
  have g7 := or_and a b c
  have g8 : (cnt (a.or b) : Int) + (cnt (a.and b) : Int) = (cnt a : Int) + (cnt b : Int) := by have := cnt_or_and a b; omega
  have g9 : (decide (a.less b = S4.zero) == decide (a.or b = b)) = true := by
    by_cases h : a.less b = S4.zero
    · have h2 := (Go.Conch.within_iff a b).1 h
      simp [h, h2]
    · have h2 : ¬ a.or b = b := fun e => h ((Go.Conch.within_iff a b).2 e)
      simp [h, h2]
  have g10 := ofBytes_bytesTo a
  have n1 := cnt_le (a.or b)
  have n2 := cnt_le (a.and b)
  have n3 := cnt_le a
  have n4 := cnt_le b
  have heq := fun (s t : S4) W => eq_run s t W
  have hez := fun (s : S4) W => eq_zero s W
  go_enter Try.func6, Try.ntmps6
  go_wp2
  refine region_new 8 [0, 1, 2, 3, 4, 5] [6, 7] (fun _ => zeros25) (by kernel_rfl) (by kernel_rfl) ?_ ?_
  · intro i hi o ho ρ W
    simp only [List.mem_cons, List.not_mem_nil, or_false] at hi
    rcases hi with rfl | rfl <;> (simp only [List.getElem?_cons_zero, List.getElem?_cons_succ, Option.some.injEq] at ho; subst ho; exact run_alloc25 _ rfl ρ W)
  simp only [picks, List.filterMap_cons, List.filterMap_nil, List.getElem?_cons_zero, List.getElem?_cons_succ]
  repeat (refine wpCalm_step (fun K hK => ?_); go_simp; (first | (refine hK _ ?_; clear hK K) | (apply Exists.intro; refine ⟨?_, hK _ ?_⟩; (first | exact or_pure _ _ | exact and_pure _ _); clear hK K)))
  refine wpCalm_nil ?_
  intro ν W hn
  have hb := hn.below
  have h6 := hn.block 6 (by simp) rfl
  have h7 := hn.block 7 (by simp) rfl
  have h8 := hn.new 6 (by simp) rfl
  have h9 := hn.new 7 (by simp) rfl
  have h10 := hn.apart 6 (by simp) 7 (by simp) rfl rfl (by decide)
  simp only [withNew, if_true, newPtr, dstOf, List.getElem?_toArray, List.getElem?_cons_zero, List.getElem?_cons_succ, Option.bind_some, Act.put, List.setIfInBounds_toArray, List.set_cons_zero, List.set_cons_succ, List.drop_succ_cons, List.drop_zero]
  generalize ν 6 = n6 at *
  generalize ν 7 = n7 at *
  clear hn ν
  have ka : W.heap[w.heap.size]? = some (.cells #[.int .u64 a.a.toNat, .int .u64 a.b.toNat, .int .u64 a.c.toNat, .int .u64 a.d.toNat] 25 (0, 0)) := by
    rw [hb.block _ (by simp; omega)]; repeat (first | (refine alloc_here ?_; simp; done) | (refine (alloc_old ?_).trans ?_; (simp <;> omega)))
  have kb : W.heap[w.heap.size + 1]? = some (.cells #[.int .u64 b.a.toNat, .int .u64 b.b.toNat, .int .u64 b.c.toNat, .int .u64 b.d.toNat] 25 (0, 0)) := by
    rw [hb.block _ (by simp)]; repeat (first | (refine alloc_here ?_; simp; done) | (refine (alloc_old ?_).trans ?_; (simp <;> omega)))
  have kc : W.heap[w.heap.size + 1 + 1]? = some (.cells #[.int .u64 c.a.toNat, .int .u64 c.b.toNat, .int .u64 c.c.toNat, .int .u64 c.d.toNat] 25 (0, 0)) := by
    rw [hb.block _ (by simp)]; repeat (first | (refine alloc_here ?_; simp; done) | (refine (alloc_old ?_).trans ?_; (simp <;> omega)))
  have hbw : Below w.heap.size w W := by
    refine Below.trans ?_ (hb.mono (by simp; omega))
    repeat' (with_reducible (first | exact Below.refl _ _ | assumption | refine Below.drew ?_ | refine Below.alloc ?_ ?_ _ | refine Below.setCell ?_ ?_ _ | refine below_later ?_ ?_ _))
    all_goals (repeat' (with_reducible (first | exact Nat.le_refl _ | assumption | refine le_size_later ?_ | refine le_size_alloc ?_ | refine le_size_set ?_ | refine le_size_drew ?_)))
    all_goals (first | omega | (simp; done) | (simp; omega))
  simp only [size_alloc] at h8 h9
  obtain ⟨z60, z61, z62, z63, zf6, zl6⟩ := block_four h6
  obtain ⟨z70, z71, z72, z73, zf7, zl7⟩ := block_four h7
  have KA := hide ka
  have KB := hide kb
  have KC := hide kc
  have K6 := hide h6
  have K7 := hide h7
  have KN := hide h10
  have hne7 : ∀ o p, (⟨n6, o, none⟩ : Addr) ≠ ⟨n7, p, none⟩ := fun o p h => h10 (by injection h)
  clear ka kb kc h6 h7 hb
  go_wp2
  refine world_gen (Q := Code.wp _ _ _ _) (fun wr => Below w.heap.size w wr ∧
    wr.heap[w.heap.size]? = some (.cells #[.int .u64 a.a.toNat, .int .u64 a.b.toNat, .int .u64 a.c.toNat, .int .u64 a.d.toNat] 25 (0, 0)) ∧
    wr.heap[w.heap.size + 1]? = some (.cells #[.int .u64 b.a.toNat, .int .u64 b.b.toNat, .int .u64 b.c.toNat, .int .u64 b.d.toNat] 25 (0, 0)) ∧
    wr.heap[w.heap.size + 1 + 1]? = some (.cells #[.int .u64 c.a.toNat, .int .u64 c.b.toNat, .int .u64 c.c.toNat, .int .u64 c.d.toNat] 25 (0, 0)) ∧
    wr.heap[n6]? = some (.cells #[.int .u64 (a.or b).a.toNat, .int .u64 (a.or b).b.toNat, .int .u64 (a.or b).c.toNat, .int .u64 (a.or b).d.toNat] 25 (0, 0)) ∧
    wr.heap[n7]? = some (.cells #[.int .u64 (a.and b).a.toNat, .int .u64 (a.and b).b.toNat, .int .u64 (a.and b).c.toNat, .int .u64 (a.and b).d.toNat] 25 (0, 0))) ⟨?_, ?_, ?_, ?_, ?_, ?_⟩ ?_
  · repeat' (with_reducible (first | exact Below.refl _ _ | assumption | refine Below.drew ?_ | refine Below.alloc ?_ ?_ _ | refine Below.setCell ?_ ?_ _ | refine below_later ?_ ?_ _))
    all_goals (repeat' (with_reducible (first | exact Nat.le_refl _ | assumption | refine le_size_later ?_ | refine le_size_alloc ?_ | refine le_size_set ?_ | refine le_size_drew ?_)))
    all_goals (first | omega | (simp; done) | (simp; omega))
  · rw [store_four_ne (by omega), store_four_ne (by omega)]; exact KA.out
  · rw [store_four_ne (by omega), store_four_ne (by omega)]; exact KB.out
  · rw [store_four_ne (by omega), store_four_ne (by omega)]; exact KC.out
  · rw [store_four_ne (Ne.symm KN.out)]; exact store_four K6.out _ _ _ _
  · refine store_four (x0 := .int .u64 0) (x1 := .int .u64 0) (x2 := .int .u64 0) (x3 := .int .u64 0) ?_ _ _ _ _
    rw [store_four_ne KN.out]; exact K7.out
  clear z60 z61 z62 z63 zf6 zl6 z70 z71 z72 z73 zf7 zl7 KA KB KC K6 K7 KN hne7 h8 h9 h10 hbw W
  rintro wr ⟨hbw, ka, kb, kc, k6, k7⟩
  obtain ⟨c00, c01, c02, c03, f0, l0⟩ := block_four ka
  obtain ⟨c10, c11, c12, c13, f1, l1⟩ := block_four kb
  obtain ⟨c20, c21, c22, c23, f2, l2⟩ := block_four kc
  obtain ⟨c60, c61, c62, c63, f6, l6⟩ := block_four k6
  obtain ⟨c70, c71, c72, c73, f7, l7⟩ := block_four k7
  have hsz : (⟨(bytesTo a 256).toArray⟩ : ByteArray).size ≤ 9223372036854775807 := by
    have := bytesTo_len a 256
    simp [ByteArray.size]; omega
  clear ka kb kc k6 k7
  refine region_pure (by kernel_rfl) (by kernel_rfl) ?_
  repeat go_big_quiet_step (first
    | (go_at_call 32; exact Pure.inn (within_pure _ _) _ _)
    | (go_at_call 30; exact Pure.inn (less_pure _ _) _ _)
    | (go_at_call 23; exact Pure.inn (or_pure _ _) _ _)
    | (go_at_call 28; exact Pure.inn (and_pure _ _) _ _)
    | (go_at_call 21; exact Pure.inn (count_pure _) _ _)
    | (go_at_call 19; exact Pure.inn (bytes_pure _) _ _)
    | (go_at_call 18; exact Pure.inn (of_pure _ hsz) _ _)
    | (go_at_call 17; exact Pure.inn awake3_pure _ _))
  refine wpQuiet_nil ?_
  intro y
  go_wp2
  refine region_pure_on (by kernel_rfl) (by kernel_rfl) ?_
  repeat go_big_quiet_step (first
    | (go_at_call 32; exact Pure.inn (within_pure _ _) _ _)
    | (go_at_call 30; exact Pure.inn (less_pure _ _) _ _)
    | (go_at_call 23; exact Pure.inn (or_pure _ _) _ _)
    | (go_at_call 28; exact Pure.inn (and_pure _ _) _ _)
    | (go_at_call 21; exact Pure.inn (count_pure _) _ _)
    | (go_at_call 19; exact Pure.inn (bytes_pure _) _ _)
    | (go_at_call 18; exact Pure.inn (of_pure _ hsz) _ _)
    | (go_at_call 17; exact Pure.inn awake3_pure _ _))
  refine wpQuiet_nil ?_
  intro y2
  go_wp2
  refine region_pure_on (by kernel_rfl) (by kernel_rfl) ?_
  repeat go_big_quiet_step (first
    | (go_at_call 32; exact Pure.inn (within_pure _ _) _ _)
    | (go_at_call 30; exact Pure.inn (less_pure _ _) _ _)
    | (go_at_call 23; exact Pure.inn (or_pure _ _) _ _)
    | (go_at_call 28; exact Pure.inn (and_pure _ _) _ _)
    | (go_at_call 21; exact Pure.inn (count_pure _) _ _)
    | (go_at_call 19; exact Pure.inn (bytes_pure _) _ _)
    | (go_at_call 18; exact Pure.inn (of_pure _ hsz) _ _)
    | (go_at_call 17; exact Pure.inn awake3_pure _ _))
  refine wpQuiet_nil ?_
  intro y3
  go_wp2
  go_ret
  refine ⟨rfl, ?_⟩
  repeat' (with_reducible (first | exact Below.refl _ _ | assumption | refine Below.drew ?_ | refine Below.alloc ?_ ?_ _ | refine Below.setCell ?_ ?_ _ | refine below_later ?_ ?_ _))
  all_goals (repeat' (with_reducible (first | exact Nat.le_refl _ | assumption | refine le_size_later ?_ | refine le_size_alloc ?_ | refine le_size_set ?_ | refine le_size_drew ?_)))
  all_goals (first | omega | (simp; done) | (simp; omega))

end Go.Proofs.Ytlbonbkaddeeeaa
