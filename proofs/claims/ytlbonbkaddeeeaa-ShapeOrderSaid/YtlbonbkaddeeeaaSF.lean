/-
  The walk of what tames a shape.
-/
import Derived.Test.YtlbonbkaddeeeaaSE
set_option linter.unusedSimpArgs false
set_option linter.unusedVariables false
namespace Go.Proofs.Ytlbonbkaddeeeaa
open Go.RowKit Go.Eng Go.Conch

/-- The bytes of a text that are no zero, of the first 64. -/
def tameL (s : ByteArray) (k : Nat) : List UInt8 := (s.data.toList.take k).filter (· != 0)
def tameS (x : Sh) : Sh :=
  if x.k = false then { x with has := x.has.and allS, lit := ⟨#[]⟩ } else { litS ⟨(tameL x.lit 64).toArray⟩ with u := x.u }

theorem tameL_step (s : ByteArray) (k : Nat) (h : k < s.size) : tameL s (k + 1) = if s[k] = 0 then tameL s k else tameL s k ++ [s[k]] := by
  have hl : k < s.data.toList.length := by simpa using h
  have he : s.data.toList[k] = s[k] := by simp [ByteArray.getElem_eq_getElem_data]
  unfold tameL
  rw [take_succ_list _ _ hl, he, List.filter_append]
  by_cases h0 : s[k] = 0
  · simp [h0]
  · simp [h0]

theorem tameL_len (s : ByteArray) (k : Nat) : (tameL s k).length ≤ k := by
  unfold tameL
  exact Nat.le_trans (List.length_filter_le _ _) (by simp; omega)
theorem extract_one (l : ByteArray) (i : Nat) (h : i < l.size) : l.extract i (i + 1) = ⟨[l[i]].toArray⟩ := by
  apply ByteArray.ext
  apply Array.toList_inj.1
  have hl : i < l.data.toList.length := by simpa using h
  have he : l.data.toList[i] = l[i] := by simp [ByteArray.getElem_eq_getElem_data]
  rw [ByteArray.data_extract, Array.toList_extract, List.extract_eq_take_drop, Nat.add_sub_cancel_left]
  rw [List.drop_eq_getElem_cons hl, he]
  simp
theorem tameL_big (s : ByteArray) (k : Nat) (h : s.size ≤ k) (h2 : k ≤ 64) : tameL s k = tameL s 64 := by
  unfold tameL
  rw [List.take_of_length_le (by simpa using h), List.take_of_length_le (by simp; omega)]

theorem later_keep2 {w wr x wv : World} {b0 b1 : Nat} {o0 o1 : Obj} (hB : Below w.heap.size w wr) (h0 : wr.heap[b0]? = some o0) (h1 : wr.heap[b1]? = some o1)
    (h : later wr x = wv) : Below w.heap.size w wv ∧ wv.heap[b0]? = some o0 ∧ wv.heap[b1]? = some o1 := by
  subst h
  exact ⟨below_later hB hB.size x, block_later h0, block_later h1⟩

theorem store_has {w : World} {b : Nat} {t : TypeId} {x0 x1 x2 x3 x4 x5 x6 x7 : Value} (h : w.heap[b]? = some (.cells #[x0, x1, x2, x3, x4, x5, x6, x7] t (0, 0))) (v2 v3 v4 v5 : Value) :
    ((((w.setCell ⟨b, 2, none⟩ v2).setCell ⟨b, 3, none⟩ v3).setCell ⟨b, 4, none⟩ v4).setCell ⟨b, 5, none⟩ v5).heap[b]? = some (.cells #[x0, x1, v2, v3, v4, v5, x6, x7] t (0, 0)) := by
  have h8 := block_set (block_set (block_set (block_set h 2 v2) 3 v3) 4 v4) 5 v5
  simpa using h8
theorem store_has_ne {w : World} {b b' : Nat} (hne : b' ≠ b) (v2 v3 v4 v5 : Value) :
    ((((w.setCell ⟨b', 2, none⟩ v2).setCell ⟨b', 3, none⟩ v3).setCell ⟨b', 4, none⟩ v4).setCell ⟨b', 5, none⟩ v5).heap[b]? = w.heap[b]? := by
  rw [block_set_ne hne, block_set_ne hne, block_set_ne hne, block_set_ne hne]

set_option maxRecDepth 100000 in
set_option maxHeartbeats 4000000 in
theorem tame_pure (x : Sh) (hs : x.lit.size ≤ 9223372036854775807) : Pure Try.prog 35 #[x.val] (tameS x).val := by
  intro w
  have hz : Pure Try.prog 82 #[.agg #[.int .u64 0, .int .u64 0, .int .u64 0, .int .u64 0], .int .i64 0] (S4.zero.ins 0).val := refwith_pure S4.zero 0 (by omega) (by omega)
  have hc := clean_eq x.has
  obtain ⟨u, e, h, k, l⟩ := x
  go_enter Try.func35, Try.ntmps35
  go_wp2
  refine region_pure_tail 5 (by kernel_rfl) (by kernel_rfl) ?_
  simp only [List.take_succ_cons, List.take_zero, List.drop_succ_cons, List.drop_zero]
  repeat go_big_quiet_step (first | (go_at_call 82; exact Pure.inn hz _ _) | (go_at_call 31; exact Pure.inn (refless_pure _ _) _ _))
  refine wpQuiet_nil ?_
  intro x
  rw [hc]
  go_wp2
  go_loopw [3, 4] (fun v i wr => ∃ k' : Nat, k' ≤ 64 ∧ k' ≤ l.size ∧ i = .int .i64 k' ∧ v = .string ⟨(tameL l k').toArray⟩ ∧ Below w.heap.size w wr ∧
    wr.heap[w.heap.size]? = some (.cells #[.bool u, .bool e, .int .u64 (h.and allS).a.toNat, .int .u64 (h.and allS).b.toNat, .int .u64 (h.and allS).c.toNat, .int .u64 (h.and allS).d.toNat, .bool k, .string l] 39 (0, 0)) ∧
    wr.heap[w.heap.size + 1]? = some (.cells #[.bool false, .bool false, .int .u64 0, .int .u64 0, .int .u64 0, .int .u64 0, .bool false, .string ⟨#[]⟩] 39 (0, 0))) (fun _ i _ => 64 - (intOf i).toNat)
  case atStart =>
    refine ⟨0, by omega, by omega, rfl, rfl, ?_, ?_, ?_⟩
    · repeat' (with_reducible (first | exact Below.refl _ _ | assumption | refine Below.drew ?_ | refine Below.alloc ?_ ?_ _ | refine Below.setCell ?_ ?_ _ | refine below_later ?_ ?_ _))
      all_goals (repeat' (with_reducible (first | exact Nat.le_refl _ | assumption | refine le_size_later ?_ | refine le_size_alloc ?_ | refine le_size_set ?_ | refine le_size_drew ?_)))
      all_goals (first | omega | (simp; done) | (simp; omega))
    · refine store_has (x2 := .int .u64 h.a.toNat) (x3 := .int .u64 h.b.toNat) (x4 := .int .u64 h.c.toNat) (x5 := .int .u64 h.d.toNat) (block_later ?_) _ _ _ _
      repeat (first | (refine alloc_here ?_; simp; done) | (refine (alloc_old ?_).trans ?_; (simp <;> omega)))
    · rw [store_has_ne (by omega)]
      refine block_later ?_
      repeat (first | (refine alloc_here ?_; simp; done) | (refine (alloc_old ?_).trans ?_; (simp <;> omega)))
  case round =>
    obtain ⟨i, hi, hj, rfl, rfl, hB, f0, f1⟩ := hrel
    obtain ⟨c00, c01, c02, c03, c04, c05, c06, c07, c08, c09⟩ := block_eight f0
    obtain ⟨c10, c11, c12, c13, c14, c15, c16, c17, c18, c19⟩ := block_eight f1
    have F0 := hide f0
    have F1 := hide f1
    clear f0 f1
    by_cases hlt : i < l.size ∧ i < 64
    · obtain ⟨hlt, h64⟩ := hlt
      have hst := hide (tameL_step l i hlt)
      go_wp2
      · exfalso
        have := tameL_len l i
        omega
      · rename_i hne _
        refine ⟨⟨i + 1, by omega, by omega, by go_num, ?_, ?_, F0.out, F1.out⟩, ?_⟩
        · have h0 : ¬ l[i] = 0 := by
            intro h
            rw [h] at hne
            simp at hne
          have e := hst.out
          rw [if_neg h0] at e
          rw [e, extract_one l i hlt, text_append]
        · repeat' (with_reducible (first | exact Below.refl _ _ | assumption | refine Below.drew ?_ | refine Below.alloc ?_ ?_ _ | refine Below.setCell ?_ ?_ _ | refine below_later ?_ ?_ _))
          all_goals (repeat' (with_reducible (first | exact Nat.le_refl _ | assumption | refine le_size_later ?_ | refine le_size_alloc ?_ | refine le_size_set ?_ | refine le_size_drew ?_)))
          all_goals (first | omega | (simp; done) | (simp; omega))
        · simp [intOf]; omega
      · rename_i hne
        refine ⟨⟨i + 1, by omega, by omega, by go_num, ?_, ?_, F0.out, F1.out⟩, ?_⟩
        · have h0 : l[i] = 0 := by
            have : l[i].toNat = 0 := by simpa using hne
            exact UInt8.toNat_inj.1 this
          have e := hst.out
          rw [if_pos h0] at e
          rw [e]
        · repeat' (with_reducible (first | exact Below.refl _ _ | assumption | refine Below.drew ?_ | refine Below.alloc ?_ ?_ _ | refine Below.setCell ?_ ?_ _ | refine below_later ?_ ?_ _))
          all_goals (repeat' (with_reducible (first | exact Nat.le_refl _ | assumption | refine le_size_later ?_ | refine le_size_alloc ?_ | refine le_size_set ?_ | refine le_size_drew ?_)))
          all_goals (first | omega | (simp; done) | (simp; omega))
        · simp [intOf]; omega
    · have e64 : tameL l i = tameL l 64 := by
        by_cases h : i < 64
        · exact tameL_big l i (by omega) hi
        · have : i = 64 := by omega
          rw [this]
      rw [e64]
      have hsz := tameL_len l 64
      have pl := reflit_pure ⟨(tameL l 64).toArray⟩ (by show (tameL l 64).toArray.size ≤ _; simp; omega)
      obtain ⟨R, hR⟩ : ∃ R, (tameS ⟨u, e, h, k, l⟩).val = R := ⟨_, rfl⟩
      have hR0 := hide hR
      unfold tameS at hR
      generalize litS ⟨(tameL l 64).toArray⟩ = t at *
      generalize tameL l 64 = tl at *
      obtain ⟨tu, te, th, tk, tlit⟩ := t
      replace hR := hide hR
      by_cases hlt2 : i < l.size
      · have h64 : ¬ i < 64 := by omega
        rcases k with _ | _
        · skip
          go_wp2_with ((go_at_call 44; (first | (with_reducible refine (Pure.inn pl _ _).mono ?_) | (with_reducible refine (Pure.go pl _).mono ?_)); rintro e w' ⟨rfl, x, rfl⟩); clear c00 c01 c02 c03 c04 c05 c06 c07 c08 c09 c10 c11 c12 c13 c14 c15 c16 c17 c18 c19; generalize hw : later _ _ = wv; obtain ⟨hB', g0, g1⟩ := later_keep2 hB F0.out F1.out hw; clear hw; obtain ⟨c00, c01, c02, c03, c04, c05, c06, c07, c08, c09⟩ := block_eight g0; obtain ⟨c10, c11, c12, c13, c14, c15, c16, c17, c18, c19⟩ := block_eight g1; clear g0 g1)
          refine bodyPost_ret (v := R) ?_ rfl ⟨congrArg Ending.returned hR0.out.symm, ?_⟩
          · simp [results, Try.results35, go_sem, ← hR.out, c00, c01, c02, c03, c04, c05, c06, c07, c08, c09, c10, c11, c12, c13, c14, c15, c16, c17, c18, c19]
          · repeat' (with_reducible (first | exact Below.refl _ _ | assumption | refine Below.drew ?_ | refine Below.alloc ?_ ?_ _ | refine Below.setCell ?_ ?_ _ | refine below_later ?_ ?_ _))
            all_goals (repeat' (with_reducible (first | exact Nat.le_refl _ | assumption | refine le_size_later ?_ | refine le_size_alloc ?_ | refine le_size_set ?_ | refine le_size_drew ?_)))
            all_goals (first | omega | (simp; done) | (simp; omega))
        · skip
          go_wp2_with ((go_at_call 44; (first | (with_reducible refine (Pure.inn pl _ _).mono ?_) | (with_reducible refine (Pure.go pl _).mono ?_)); rintro e w' ⟨rfl, x, rfl⟩); clear c00 c01 c02 c03 c04 c05 c06 c07 c08 c09 c10 c11 c12 c13 c14 c15 c16 c17 c18 c19; generalize hw : later _ _ = wv; obtain ⟨hB', g0, g1⟩ := later_keep2 hB F0.out F1.out hw; clear hw; obtain ⟨c00, c01, c02, c03, c04, c05, c06, c07, c08, c09⟩ := block_eight g0; obtain ⟨c10, c11, c12, c13, c14, c15, c16, c17, c18, c19⟩ := block_eight g1; clear g0 g1)
          refine bodyPost_ret (v := R) ?_ rfl ⟨congrArg Ending.returned hR0.out.symm, ?_⟩
          · simp [results, Try.results35, go_sem, ← hR.out, c00, c01, c02, c03, c04, c05, c06, c07, c08, c09, c10, c11, c12, c13, c14, c15, c16, c17, c18, c19]
          · repeat' (with_reducible (first | exact Below.refl _ _ | assumption | refine Below.drew ?_ | refine Below.alloc ?_ ?_ _ | refine Below.setCell ?_ ?_ _ | refine below_later ?_ ?_ _))
            all_goals (repeat' (with_reducible (first | exact Nat.le_refl _ | assumption | refine le_size_later ?_ | refine le_size_alloc ?_ | refine le_size_set ?_ | refine le_size_drew ?_)))
            all_goals (first | omega | (simp; done) | (simp; omega))
      · rcases k with _ | _
        · skip
          go_wp2_with ((go_at_call 44; (first | (with_reducible refine (Pure.inn pl _ _).mono ?_) | (with_reducible refine (Pure.go pl _).mono ?_)); rintro e w' ⟨rfl, x, rfl⟩); clear c00 c01 c02 c03 c04 c05 c06 c07 c08 c09 c10 c11 c12 c13 c14 c15 c16 c17 c18 c19; generalize hw : later _ _ = wv; obtain ⟨hB', g0, g1⟩ := later_keep2 hB F0.out F1.out hw; clear hw; obtain ⟨c00, c01, c02, c03, c04, c05, c06, c07, c08, c09⟩ := block_eight g0; obtain ⟨c10, c11, c12, c13, c14, c15, c16, c17, c18, c19⟩ := block_eight g1; clear g0 g1)
          refine bodyPost_ret (v := R) ?_ rfl ⟨congrArg Ending.returned hR0.out.symm, ?_⟩
          · simp [results, Try.results35, go_sem, ← hR.out, c00, c01, c02, c03, c04, c05, c06, c07, c08, c09, c10, c11, c12, c13, c14, c15, c16, c17, c18, c19]
          · repeat' (with_reducible (first | exact Below.refl _ _ | assumption | refine Below.drew ?_ | refine Below.alloc ?_ ?_ _ | refine Below.setCell ?_ ?_ _ | refine below_later ?_ ?_ _))
            all_goals (repeat' (with_reducible (first | exact Nat.le_refl _ | assumption | refine le_size_later ?_ | refine le_size_alloc ?_ | refine le_size_set ?_ | refine le_size_drew ?_)))
            all_goals (first | omega | (simp; done) | (simp; omega))
        · skip
          go_wp2_with ((go_at_call 44; (first | (with_reducible refine (Pure.inn pl _ _).mono ?_) | (with_reducible refine (Pure.go pl _).mono ?_)); rintro e w' ⟨rfl, x, rfl⟩); clear c00 c01 c02 c03 c04 c05 c06 c07 c08 c09 c10 c11 c12 c13 c14 c15 c16 c17 c18 c19; generalize hw : later _ _ = wv; obtain ⟨hB', g0, g1⟩ := later_keep2 hB F0.out F1.out hw; clear hw; obtain ⟨c00, c01, c02, c03, c04, c05, c06, c07, c08, c09⟩ := block_eight g0; obtain ⟨c10, c11, c12, c13, c14, c15, c16, c17, c18, c19⟩ := block_eight g1; clear g0 g1)
          refine bodyPost_ret (v := R) ?_ rfl ⟨congrArg Ending.returned hR0.out.symm, ?_⟩
          · simp [results, Try.results35, go_sem, ← hR.out, c00, c01, c02, c03, c04, c05, c06, c07, c08, c09, c10, c11, c12, c13, c14, c15, c16, c17, c18, c19]
          · repeat' (with_reducible (first | exact Below.refl _ _ | assumption | refine Below.drew ?_ | refine Below.alloc ?_ ?_ _ | refine Below.setCell ?_ ?_ _ | refine below_later ?_ ?_ _))
            all_goals (repeat' (with_reducible (first | exact Nat.le_refl _ | assumption | refine le_size_later ?_ | refine le_size_alloc ?_ | refine le_size_set ?_ | refine le_size_drew ?_)))
            all_goals (first | omega | (simp; done) | (simp; omega))

end Go.Proofs.Ytlbonbkaddeeeaa
