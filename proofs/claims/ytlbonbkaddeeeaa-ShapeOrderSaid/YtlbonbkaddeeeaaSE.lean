/-
  The walks of literals.
-/
import Derived.Test.YtlbonbkaddeeeaaSD
import Derived.Test.YtlbonbkaddeeeaaShelf
import Derived.Lib.IndexAny
set_option linter.unusedSimpArgs false
set_option linter.unusedVariables false
namespace Go.Proofs.Ytlbonbkaddeeeaa
open Go.RowKit Go.Eng Go.Conch

theorem indexbyte_pure (s : ByteArray) : Pure Try.prog 88 #[.string s, .int .u8 0] (.int .i64 (Lib.indexByte s.data.toList 0)) := by
  intro w
  refine (Go.Proofs.Try.strings_IndexByte s 0 w).mono ?_
  rintro e w' ⟨rfl, rfl⟩
  exact ⟨rfl, Below.refl _ _⟩

theorem take_succ_list (l : List UInt8) (k : Nat) (h : k < l.length) : l.take (k + 1) = l.take k ++ [l[k]] := by
  rw [List.take_add_one, List.getElem?_eq_getElem h]; rfl

set_option maxHeartbeats 1000000 in
theorem in_pure (s : ByteArray) (hs : s.size ≤ 9223372036854775807) : Pure Try.prog 85 #[.string s, .int .u8 0] (.bool (s.data.toList.contains 0)) := by
  intro w
  go_enter Try.func85, Try.ntmps85
  go_wp2
  go_loopw [5] (fun i wr => ∃ k : Nat, k ≤ s.size ∧ i = .int .i64 k ∧ Below w.heap.size w wr ∧ (s.data.toList.take k).contains 0 = false) (fun i _ => s.size - (intOf i).toNat)
  case atStart =>
    refine ⟨0, Nat.zero_le _, rfl, ?_, by simp⟩
    repeat' (with_reducible (first | exact Below.refl _ _ | assumption | refine Below.drew ?_ | refine Below.alloc ?_ ?_ _ | refine Below.setCell ?_ ?_ _ | refine below_later ?_ ?_ _))
    all_goals (repeat' (with_reducible (first | exact Nat.le_refl _ | assumption | refine le_size_later ?_ | refine le_size_alloc ?_ | refine le_size_set ?_ | refine le_size_drew ?_)))
    all_goals (first | omega | (simp; done) | (simp; omega))
  case round =>
    obtain ⟨k, hk, rfl, hb, hc⟩ := hrel
    have HC := hide hc
    clear hc
    by_cases hlt : k < s.size
    · have hl : k < s.data.toList.length := by simpa using hlt
      have he : s.data.toList[k] = s[k] := by simp [ByteArray.getElem_eq_getElem_data]
      have HE := hide he
      clear he
      go_wp2
      · have h0 : s[k] = 0 := by
          rename_i hz
          have : s[k].toNat = 0 := by simpa using hz
          exact UInt8.toNat_inj.1 this
        go_ret
        refine ⟨?_, ?_⟩
        · have hm : (0 : UInt8) ∈ s.data.toList := by
            rw [← h0, ← HE.out]
            exact List.getElem_mem hl
          have hm2 : s.data.toList.contains 0 = true := by simpa using hm
          rw [hm2]; rfl
        · repeat' (with_reducible (first | exact Below.refl _ _ | assumption | refine Below.drew ?_ | refine Below.alloc ?_ ?_ _ | refine Below.setCell ?_ ?_ _ | refine below_later ?_ ?_ _))
          all_goals (repeat' (with_reducible (first | exact Nat.le_refl _ | assumption | refine le_size_later ?_ | refine le_size_alloc ?_ | refine le_size_set ?_ | refine le_size_drew ?_)))
          all_goals (first | omega | (simp; done) | (simp; omega))
      · rename_i hz
        refine ⟨⟨k + 1, by omega, by go_num, ?_, ?_⟩, ?_⟩
        · repeat' (with_reducible (first | exact Below.refl _ _ | assumption | refine Below.drew ?_ | refine Below.alloc ?_ ?_ _ | refine Below.setCell ?_ ?_ _ | refine below_later ?_ ?_ _))
          all_goals (repeat' (with_reducible (first | exact Nat.le_refl _ | assumption | refine le_size_later ?_ | refine le_size_alloc ?_ | refine le_size_set ?_ | refine le_size_drew ?_)))
          all_goals (first | omega | (simp; done) | (simp; omega))
        · have h0 : ¬ s[k] = 0 := by
            intro h
            rw [h] at hz
            simp at hz
          have hc := HC.out
          rw [take_succ_list _ _ hl, HE.out]
          simp only [List.contains_eq_mem, List.mem_append, List.mem_singleton, decide_eq_false_iff_not] at hc ⊢
          intro h
          rcases h with h | h
          · exact hc h
          · exact h0 h.symm
        · simp [intOf]; omega
    · go_wp2
      go_ret
      have e : k = s.size := by omega
      refine ⟨?_, ?_⟩
      · have hc := HC.out
        rw [List.take_of_length_le (by simp; omega)] at hc
        rw [hc]; rfl
      · repeat' (with_reducible (first | exact Below.refl _ _ | assumption | refine Below.drew ?_ | refine Below.alloc ?_ ?_ _ | refine Below.setCell ?_ ?_ _ | refine below_later ?_ ?_ _))
        all_goals (repeat' (with_reducible (first | exact Nat.le_refl _ | assumption | refine le_size_later ?_ | refine le_size_alloc ?_ | refine le_size_set ?_ | refine le_size_drew ?_)))
        all_goals (first | omega | (simp; done) | (simp; omega))

theorem later1b {w x wr : World} {o0 : Obj} (h : later (w.alloc o0) x = wr) : Below w.heap.size w wr ∧ wr.heap[w.heap.size]? = some o0 := by
  subst h
  refine ⟨?_, ?_⟩
  · repeat' (with_reducible (first | exact Below.refl _ _ | assumption | refine Below.drew ?_ | refine Below.alloc ?_ ?_ _ | refine Below.setCell ?_ ?_ _ | refine below_later ?_ ?_ _))
    all_goals (repeat' (with_reducible (first | exact Nat.le_refl _ | assumption | refine le_size_later ?_ | refine le_size_alloc ?_ | refine le_size_set ?_ | refine le_size_drew ?_)))
    all_goals (first | omega | (simp; done) | (simp; omega))
  · refine block_later ?_
    repeat (first | (refine alloc_here ?_; simp; done) | (refine (alloc_old ?_).trans ?_; (simp <;> omega)))
theorem later_new {w wr x wv : World} {b0 : Nat} {o0 o : Obj} (hB : Below w.heap.size w wr) (h0 : wr.heap[b0]? = some o0) (h : later (wr.alloc o) x = wv) :
    Below w.heap.size w wv ∧ wv.heap[b0]? = some o0 ∧ wv.heap[wr.heap.size]? = some o := by
  subst h
  have hs := hB.size
  have h1 := block_lt h0
  refine ⟨?_, block_later ((alloc_old h1).trans h0), block_later (alloc_here rfl)⟩
  repeat' (with_reducible (first | exact Below.refl _ _ | assumption | refine Below.drew ?_ | refine Below.alloc ?_ ?_ _ | refine Below.setCell ?_ ?_ _ | refine below_later ?_ ?_ _))
  all_goals (repeat' (with_reducible (first | exact Nat.le_refl _ | assumption | refine le_size_later ?_ | refine le_size_alloc ?_ | refine le_size_set ?_ | refine le_size_drew ?_)))
  all_goals (first | omega | (simp; done) | (simp; omega))

def okLit (s : ByteArray) : Bool := decide (s.size ≤ 64) && !(s.data.toList.contains 0)
def litS (s : ByteArray) : Sh := { ofS (ofBytes s.data.toList) (decide (s = ⟨#[]⟩)) with k := okLit s, lit := if okLit s then s else ⟨#[]⟩ }

set_option maxRecDepth 100000 in
set_option maxHeartbeats 2000000 in
theorem lit_pure (s : ByteArray) (hs : s.size ≤ 9223372036854775807) : Pure Try.prog 52 #[.string s] (litS s).val := by
  intro w
  have e0 : s.data.toList.contains 0 = decide (0 ≤ Lib.indexByte s.data.toList 0) := Lib.contains_iff_indexByte _ _
  have e1 : litS s = { ofS (ofBytes s.data.toList) s.toList.isEmpty with k := decide (s.size ≤ 64) && !(decide (0 ≤ Lib.indexByte s.data.toList 0)), lit := if decide (s.size ≤ 64) && !(decide (0 ≤ Lib.indexByte s.data.toList 0)) then s else ⟨#[]⟩ } := by
    unfold litS okLit; rw [e0, toList_isEmpty]
  generalize hR : (litS s).val = R
  rw [e1] at hR
  clear e1 e0
  have p2 := ofs_pure (ofBytes s.data.toList) s.toList.isEmpty
  have p3 := indexbyte_pure s
  have e2 : ofS (ofBytes s.data.toList) s.toList.isEmpty = ⟨false, s.toList.isEmpty, (ofBytes s.data.toList).and allS, false, ⟨#[]⟩⟩ := rfl
  rw [e2] at hR p2
  clear e2
  generalize (ofBytes s.data.toList).and allS = h at *
  generalize Lib.indexByte s.data.toList 0 = n at *
  replace hR := hide hR
  by_cases hz : s.size ≤ 64
  all_goals
    go_enter Try.func52, Try.ntmps52
    go_wp2_with (first | (go_at_call 18; (first | (with_reducible refine (Pure.inn (of_pure _ hs) _ _).mono ?_) | (with_reducible refine (Pure.go (of_pure _ hs) _).mono ?_)); rintro e w' ⟨rfl, x, rfl⟩) | ((go_at_call 56; (first | (with_reducible refine (Pure.inn p2 _ _).mono ?_) | (with_reducible refine (Pure.go p2 _).mono ?_)); rintro e w' ⟨rfl, x, rfl⟩); generalize hw : later (World.alloc _ _) _ = wr; obtain ⟨hB, f0⟩ := later1b hw; clear hw; obtain ⟨c20, c21, c22, c23, c24, c25, c26, c27, c28, c29⟩ := block_eight f0) | ((go_at_call 88; (first | (with_reducible refine (Pure.inn p3 _ _).mono ?_) | (with_reducible refine (Pure.go p3 _).mono ?_)); rintro e w' ⟨rfl, x, rfl⟩); generalize hw : later (World.alloc _ _) _ = wv; obtain ⟨hB', g0, g3⟩ := later_new hB f0 hw; clear hw; obtain ⟨d30, d31, d32, d33, d34, d35, d36, d37, d38, d39⟩ := block_eight g3; clear c20 c21 c22 c23 c24 c25 c26 c27 c28; obtain ⟨c20, c21, c22, c23, c24, c25, c26, c27, c28, c2a⟩ := block_eight g0))
    all_goals (first | (have hn2 : decide (0 ≤ n) = true := by simp; omega) | (have hn2 : decide (0 ≤ n) = false := by simp; omega) | have hn2 := hz)
    all_goals
      refine bodyPost_ret (v := R) ?_ rfl ⟨rfl, ?_⟩
      · simp [results, Try.results52, go_sem, ← hR.out, hz, hn2, c20, c21, c22, c23, c24, c25, c26, c27, c28, c29]
      · repeat' (with_reducible (first | exact Below.refl _ _ | assumption | refine Below.drew ?_ | refine Below.alloc ?_ ?_ _ | refine Below.setCell ?_ ?_ _ | refine below_later ?_ ?_ _))
        all_goals (repeat' (with_reducible (first | exact Nat.le_refl _ | assumption | refine le_size_later ?_ | refine le_size_alloc ?_ | refine le_size_set ?_ | refine le_size_drew ?_)))
        all_goals (first | omega | (simp; done) | (simp; omega))

set_option maxRecDepth 100000 in
set_option maxHeartbeats 2000000 in
theorem reflit_pure (s : ByteArray) (hs : s.size ≤ 9223372036854775807) : Pure Try.prog 44 #[.string s] (litS s).val := by
  intro w
  have e1 : litS s = { ofS (ofBytes s.data.toList) s.toList.isEmpty with k := decide (s.size ≤ 64) && !(s.data.toList.contains 0), lit := if decide (s.size ≤ 64) && !(s.data.toList.contains 0) then s else ⟨#[]⟩ } := by
    unfold litS okLit; rw [toList_isEmpty]
  generalize hR : (litS s).val = R
  rw [e1] at hR
  clear e1
  have p2 := refofs_pure (ofBytes s.data.toList) s.toList.isEmpty
  have p3 := in_pure s hs
  have e2 : ofS (ofBytes s.data.toList) s.toList.isEmpty = ⟨false, s.toList.isEmpty, (ofBytes s.data.toList).and allS, false, ⟨#[]⟩⟩ := rfl
  rw [e2] at hR p2
  clear e2
  generalize (ofBytes s.data.toList).and allS = h at *
  generalize s.data.toList.contains 0 = n at *
  replace hR := hide hR
  by_cases hz : s.size ≤ 64 <;> rcases n with _ | _
  all_goals
    go_enter Try.func44, Try.ntmps44
    go_wp2_with (first | (go_at_call 26; (first | (with_reducible refine (Pure.inn (refof_pure _ hs) _ _).mono ?_) | (with_reducible refine (Pure.go (refof_pure _ hs) _).mono ?_)); rintro e w' ⟨rfl, x, rfl⟩) | ((go_at_call 57; (first | (with_reducible refine (Pure.inn p2 _ _).mono ?_) | (with_reducible refine (Pure.go p2 _).mono ?_)); rintro e w' ⟨rfl, x, rfl⟩); generalize hw : later (World.alloc _ _) _ = wr; obtain ⟨hB, f0⟩ := later1b hw; clear hw; obtain ⟨c20, c21, c22, c23, c24, c25, c26, c27, c28, c29⟩ := block_eight f0) | ((go_at_call 85; (first | (with_reducible refine (Pure.inn p3 _ _).mono ?_) | (with_reducible refine (Pure.go p3 _).mono ?_)); rintro e w' ⟨rfl, x, rfl⟩); generalize hw : later (World.alloc _ _) _ = wv; obtain ⟨hB', g0, g3⟩ := later_new hB f0 hw; clear hw; obtain ⟨d30, d31, d32, d33, d34, d35, d36, d37, d38, d39⟩ := block_eight g3; clear c20 c21 c22 c23 c24 c25 c26 c27 c28; obtain ⟨c20, c21, c22, c23, c24, c25, c26, c27, c28, c2a⟩ := block_eight g0))
    all_goals
      refine bodyPost_ret (v := R) ?_ rfl ⟨rfl, ?_⟩
      · simp [results, Try.results44, go_sem, ← hR.out, hz, c20, c21, c22, c23, c24, c25, c26, c27, c28, c29]
      · repeat' (with_reducible (first | exact Below.refl _ _ | assumption | refine Below.drew ?_ | refine Below.alloc ?_ ?_ _ | refine Below.setCell ?_ ?_ _ | refine below_later ?_ ?_ _))
        all_goals (repeat' (with_reducible (first | exact Nat.le_refl _ | assumption | refine le_size_later ?_ | refine le_size_alloc ?_ | refine le_size_set ?_ | refine le_size_drew ?_)))
        all_goals (first | omega | (simp; done) | (simp; omega))

end Go.Proofs.Ytlbonbkaddeeeaa
