import Derived.Test.YtcfimlllgkknhaaWiLive
import Derived.Test.YtcfimlllgkknhaaLiB
/-
A byte that means nothing stands for itself.
-/
namespace Go.Proofs.Ytcfimlllgkknhaa.Mt
open Go.RowKit Go.Eng Go.Ev Go.Proofs.Ytcfimlllgkknhaa.PPatLive Go.Proofs.YtcfimlllgkknhaaW.PrintWords Go.Proofs.YtcfimlllgkknhaaW.PrintLast
set_option linter.unusedSimpArgs false
set_option linter.unusedVariables false

def star : ByteArray := ⟨#[42]⟩
theorem Lv_ends (n i j : Nat) (hj : j < n) : Lv (ends n i) j = decide (j = 0 ∨ j = i) := by
  unfold Lv rdOf ends
  rw [Int.toNat_natCast, List.getD_eq_getElem?_getD, List.getElem?_map, List.getElem?_range hj, List.length_map, List.length_range, decide_eq_true hj]
  rfl
theorem live_items (m : ByteArray) (hm : m.size ≤ 30) :
    Evt (fun k => pat_items.f k (star ++ m ++ star) (ends (m.size + 2) (m.size + 1))) ([wild 42] ++ (ints m).map lit ++ [wild 42]) := by
  have i1 : ints star = [42] := by decide
  have hi : ints (star ++ m ++ star) = [42] ++ (ints m ++ [42]) := by rw [ints_append, ints_append, i1, List.append_assoc]
  have hs : (star ++ m ++ star).size = m.size + 2 := by rw [← ints_len, hi]; simp [ints_len]
  generalize star ++ m ++ star = s at hi hs
  unfold pat_items.f
  refine items_wild s _ (by omega) 0 [] _ 42 (.inl rfl) (by omega) (by simp) (by rw [Lv_ends _ _ _ (by omega)]; simp) (bt_of_ints s _ (by omega) _ (by rw [hi]; rfl)) ?_
  rw [List.nil_append]
  refine items_dead s _ (by omega) (m.size + 1) (by omega) _ m.size 1 _ (by omega) (by simp) (fun j h1 h => by rw [Lv_ends _ _ _ (by omega)]; exact decide_eq_false (by omega)) ?_
  have e : ((ints s).drop 1).take m.size = ints m := by
    rw [hi]
    show ((ints m ++ [42]).take m.size) = _
    rw [List.take_append_of_le_length (by rw [ints_len]; exact Nat.le_refl _), List.take_of_length_le (by rw [ints_len]; exact Nat.le_refl _)]
  rw [e]
  refine items_wild s _ (by omega) (m.size + 1) _ _ 42 (.inl rfl) (by omega) (by simp [ints_len]) (by rw [Lv_ends _ _ _ (by omega)]; simp) (bt_of_ints s _ (by omega) _ (by
    rw [hi, List.getElem?_append_right (by simp), List.length_singleton, Nat.add_sub_cancel, List.getElem?_append_right (by rw [ints_len]; exact Nat.le_refl _), ints_len, Nat.sub_self]; rfl)) ?_
  exact items_fin s _ _ _ (by omega)
theorem live_easy (m : ByteArray) : Easy ([wild 42] ++ (ints m).map lit ++ [wild 42]) := easy_append (easy_append easy_star (easy_lits _)) easy_star
theorem live_iff (m t : ByteArray) : (([wild 42] ++ (ints m).map lit ++ [wild 42]).foldl (stp oneL t) a0 t.size = true) ↔ ∃ j, j + m.size ≤ t.size ∧ ((ints t).drop j).take m.size = ints m := by
  rw [List.foldl_append, List.foldl_append, List.foldl_cons, List.foldl_nil, List.foldl_cons, List.foldl_nil, stp_star]
  constructor
  · rintro ⟨i, h1, h2⟩
    rw [fold_lit t _ _ i h1, ints_len] at h2
    obtain ⟨j, rfl, -, h3⟩ := h2
    exact ⟨j, h1, h3⟩
  · rintro ⟨j, h1, h2⟩
    refine ⟨j + m.size, h1, ?_⟩
    rw [fold_lit t _ _ _ h1, ints_len]
    refine ⟨j, rfl, ?_, h2⟩
    rw [stp_star]
    exact ⟨0, by omega, rfl⟩
theorem live_match (m t : ByteArray) (hm : m.size ≤ 30) (ht : t.size < 1000) (r : Bool) (h : (∃ j, j + m.size ≤ t.size ∧ ((ints t).drop j).take m.size = ints m) ↔ r = true) :
    ∃ k, pat_Match.f k (star ++ m ++ star) (ends (m.size + 2) (m.size + 1)) t = some r := by
  refine (match_of _ _ t _ r (live_items m hm) ?_).ex
  have h1 := easy_end _ (live_easy m) (by simp [ints_len]; omega) t (by omega)
  have h2 : ([wild 42] ++ (ints m).map lit ++ [wild 42]).foldl (stp oneL t) a0 t.size = r := Bool.eq_iff_iff.2 ((live_iff m t).trans h)
  rw [h2] at h1
  exact h1
theorem ints_extract (t : ByteArray) (i j : Nat) : ints (t.extract i j) = ((ints t).drop i).take (j - i) := by
  unfold ints
  rw [ByteArray.data_extract, Array.toList_extract, List.extract_eq_take_drop, List.map_take, List.map_drop]
theorem hasK_iff (t m : ByteArray) : ∀ n, hasK t m n = true ↔ ∃ j, j < n ∧ ((ints t).drop j).take m.size = ints m := by
  intro n
  induction n with
  | zero => exact ⟨fun h => (by cases h), fun ⟨j, h, _⟩ => by omega⟩
  | succ n ih =>
    have e : t.extract n (n + m.size) = m ↔ ((ints t).drop n).take m.size = ints m := by
      have := ints_extract t n (n + m.size)
      rw [show n + m.size - n = m.size by omega] at this
      rw [← this]
      exact ⟨fun h => by rw [h], ints_inj⟩
    show (hasK t m n || decide (t.extract n (n + m.size) = m)) = true ↔ _
    rw [Bool.or_eq_true, ih, decide_eq_true_iff, e]
    constructor
    · rintro (⟨j, h1, h2⟩ | h)
      · exact ⟨j, by omega, h2⟩
      · exact ⟨n, by omega, h⟩
    · rintro ⟨j, h1, h2⟩
      by_cases e : j = n
      · right; rw [← e]; exact h2
      · exact .inl ⟨j, by omega, h2⟩
theorem asked (a m b t : ByteArray) (ha : a.size ≤ 30) (hm : m.size ≤ 30) (hb : b.size ≤ 30) (ht : t.size ≤ 30) : Asked a m b t (star ++ m ++ star) (m.size + 2) := by
  have samb : (a ++ m ++ b).size = a.size + m.size + b.size := by rw [ByteArray.size_append, ByteArray.size_append]
  refine ⟨?_, ?_, ?_, ?_, awake_end.ex⟩
  · refine live_match m _ hm (by omega) true ⟨fun _ => rfl, fun _ => ⟨a.size, by omega, ?_⟩⟩
    rw [ints_append, ints_append, List.append_assoc, List.drop_append_of_le_length (by rw [ints_len]; exact Nat.le_refl _), List.drop_of_length_le (by rw [ints_len]; exact Nat.le_refl _), List.nil_append,
      List.take_append_of_le_length (by rw [ints_len]; exact Nat.le_refl _), List.take_of_length_le (by rw [ints_len]; exact Nat.le_refl _)]
  · refine live_match m _ hm (by omega) _ ?_
    rw [hasK_iff]
    constructor
    · rintro ⟨j, h1, h2⟩
      refine ⟨j, ?_, h2⟩
      unfold rounds3
      split <;> omega
    · rintro ⟨j, h1, h2⟩
      exact ⟨j, N3 m t j h1, h2⟩
  · have h := active_end _ _ _ (by simp [ints_len]; omega) (live_items m hm)
    have e : (([wild 42] ++ (ints m).map lit ++ [wild 42]).any fun x => !x.f5) = true := by
      rw [List.any_append, List.any_append]
      simp [wild]
    rw [e] at h
    exact h.ex
  · have h := active_end m [] _ (by simp [ints_len]; omega) (items_all_dead m [] (by omega) (fun j _ => by simp [Lv]))
    have e : (((ints m).map lit).any fun x => !x.f5) = false := by simp [lit]
    rw [e] at h
    exact h.ex
set_option maxRecDepth 100000 in
theorem live_walk (a m b t : ByteArray) (w : World) : Calls Try.prog 3 #[.string a, .string m, .string b, .string t] w fun e w' => e = .returned (.bool true) ∧ Below w.heap.size w w' := by
  have hw : PureAt Try.prog w 9 #[] (.bool true) := awake_at awake_end.ex
  by_cases h1 : (30 : Int) < (a.size : Int)
  · exact calls_of_run mixed (args := [.string a, .string m, .string b, .string t]) (v := .bool true) 10 w [(14, GT .i64 3 (a.size : Int) 30 (decide_eq_true h1)), (30, C hw)] (by kernel_rfl)
  by_cases h2 : (30 : Int) < (b.size : Int)
  · exact calls_of_run mixed (args := [.string a, .string m, .string b, .string t]) (v := .bool true) 10 w [(14, GT .i64 3 (a.size : Int) 30 (decide_eq_false h1)), (18, GT .i64 3 (b.size : Int) 30 (decide_eq_true h2)), (30, C hw)] (by kernel_rfl)
  by_cases h3 : (30 : Int) < (m.size : Int)
  · exact calls_of_run mixed (args := [.string a, .string m, .string b, .string t]) (v := .bool true) 10 w [(14, GT .i64 3 (a.size : Int) 30 (decide_eq_false h1)), (18, GT .i64 3 (b.size : Int) 30 (decide_eq_false h2)), (23, GT .i64 3 (m.size : Int) 30 (decide_eq_true h3)), (30, C hw)] (by kernel_rfl)
  by_cases h4 : (30 : Int) < (t.size : Int)
  · exact calls_of_run mixed (args := [.string a, .string m, .string b, .string t]) (v := .bool true) 10 w [(14, GT .i64 3 (a.size : Int) 30 (decide_eq_false h1)), (18, GT .i64 3 (b.size : Int) 30 (decide_eq_false h2)), (23, GT .i64 3 (m.size : Int) 30 (decide_eq_false h3)), (28, GT .i64 3 (t.size : Int) 30 (decide_eq_true h4)), (30, C hw)] (by kernel_rfl)
  have ha : a.size ≤ 30 := by omega
  have hb : b.size ≤ 30 := by omega
  have hm : m.size ≤ 30 := by omega
  have ht : t.size ≤ 30 := by omega
  exact region3 w a m b t ha hm hb ht (rest4 w a m b t _ _ ha hm hb ht (by omega) (asked a m b t ha hm hb ht))
end Go.Proofs.Ytcfimlllgkknhaa.Mt
