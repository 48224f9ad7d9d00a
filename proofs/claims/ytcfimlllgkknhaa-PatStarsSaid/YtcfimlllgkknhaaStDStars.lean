import Derived.Test.YtcfimlllgkknhaaWiStars
import Derived.Test.YtcfimlllgkknhaaStC
/-
A star stands for any bytes, a question mark for just one.
-/
namespace Go.Proofs.Ytcfimlllgkknhaa.Mt
open Go.RowKit Go.Proofs.Ytcfimlllgkknhaa.PPatStars Go.Proofs.YtcfimlllgkknhaaW.PrintWords Go.Proofs.YtcfimlllgkknhaaW.PrintLast
set_option linter.unusedSimpArgs false
set_option linter.unusedVariables false

theorem Lv_only (n i j : Nat) (hj : j < n) : Lv (atOnly n i) j = decide (j = i) := by
  unfold Lv rdOf atOnly
  rw [Int.toNat_natCast, List.getD_eq_getElem?_getD, List.getElem?_map, List.getElem?_range hj, List.length_map, List.length_range, decide_eq_true hj]
  rfl

theorem mid_items (a x b : ByteArray) (c : Int) (hc : c = 42 ∨ c = 63) (hx : ints x = [c]) (ha : a.size ≤ 60) (hb : b.size ≤ 60) :
    Evt (fun k => pat_items.f k (a ++ x ++ b) (atOnly (a.size + 1 + b.size) a.size)) ((ints a).map lit ++ [wild c] ++ (ints b).map lit) := by
  have hi : ints (a ++ x ++ b) = ints a ++ [c] ++ ints b := by rw [ints_append, ints_append, hx]
  have hs : (a ++ x ++ b).size = a.size + 1 + b.size := by rw [← ints_len, hi]; simp [ints_len]; omega
  generalize a ++ x ++ b = s at hi hs
  unfold pat_items.f
  refine items_dead s _ (by omega) a.size (by omega) _ a.size 0 [] (by omega) (by simp) (fun j _ h => by rw [Lv_only _ _ _ (by omega)]; exact decide_eq_false (by omega)) ?_
  rw [List.nil_append, List.drop_zero, hi, List.append_assoc, List.take_append_of_le_length (by rw [ints_len]; exact Nat.le_refl _), List.take_of_length_le (by rw [ints_len]; exact Nat.le_refl _)]
  refine items_wild s _ (by omega) a.size _ _ c hc (by omega) (by simp [ints_len]) (by rw [Lv_only _ _ _ (by omega)]; exact decide_eq_true rfl) (bt_of_ints s _ (by omega) _ (by rw [hi, List.append_assoc, List.getElem?_append_right (by rw [ints_len]; exact Nat.le_refl _), ints_len, Nat.sub_self]; rfl)) ?_
  refine items_dead s _ (by omega) (a.size + 1 + b.size) (by omega) _ b.size (a.size + 1) _ (by omega) (by simp [ints_len]) (fun j h1 h => by rw [Lv_only _ _ _ (by omega)]; exact decide_eq_false (by omega)) ?_
  have e : ((ints s).drop (a.size + 1)).take b.size = ints b := by
    rw [hi, List.drop_append_of_le_length (by simp [ints_len]), List.drop_of_length_le (by simp [ints_len]), List.nil_append, List.take_of_length_le (by rw [ints_len]; exact Nat.le_refl _)]
  rw [e]
  exact items_fin s _ _ _ (by omega)

theorem mid_easy (a b : ByteArray) (c : Int) (hc : c = 42 ∨ c = 63) : Easy ((ints a).map lit ++ [wild c] ++ (ints b).map lit) := by
  refine easy_append (easy_append (easy_lits _) ?_) (easy_lits _)
  rcases hc with rfl | rfl
  · exact easy_star
  · exact easy_quest
theorem mid_match (a x b : ByteArray) (c : Int) (hc : c = 42 ∨ c = 63) (hx : ints x = [c]) (ha : a.size ≤ 60) (hb : b.size ≤ 60) (t : ByteArray) (ht : t.size < 1000) (r : Bool)
    (h : ((ints b).map lit).foldl (stp oneL t) (stp oneL t (((ints a).map lit).foldl (stp oneL t) a0) (wild c)) t.size = r) : ∃ k, pat_Match.f k (a ++ x ++ b) (atOnly (a.size + 1 + b.size) a.size) t = some r := by
  refine (match_of _ _ t _ r (mid_items a x b c hc hx ha hb) ?_).ex
  have := easy_end ((ints a).map lit ++ [wild c] ++ (ints b).map lit) (mid_easy a b c hc) (by simp [ints_len]; omega) t (by omega)
  rw [List.foldl_append, List.foldl_append, List.foldl_cons, List.foldl_nil, h] at this
  exact this

theorem star_iff (a b t : ByteArray) : (((ints b).map lit).foldl (stp oneL t) (stp oneL t (((ints a).map lit).foldl (stp oneL t) a0) (wild 42)) t.size = true) ↔
    (∃ j, t.size = j + b.size ∧ a.size ≤ j ∧ (ints t).take a.size = ints a ∧ ((ints t).drop j).take b.size = ints b) := by
  rw [fold_lit t (ints b) _ _ (Nat.le_refl _), ints_len]
  constructor
  · rintro ⟨j, h1, h2, h3⟩
    rw [stp_star] at h2
    obtain ⟨i, h4, h5⟩ := h2
    rw [fold_first t _ i (by omega), ints_len] at h5
    exact ⟨j, h1, by omega, h5.2, h3⟩
  · rintro ⟨j, h1, h2, h3, h4⟩
    refine ⟨j, h1, ?_, h4⟩
    rw [stp_star]
    refine ⟨a.size, h2, ?_⟩
    rw [fold_first t _ _ (by omega), ints_len]
    exact ⟨rfl, h3⟩
theorem quest_iff (a b t : ByteArray) : (((ints b).map lit).foldl (stp oneL t) (stp oneL t (((ints a).map lit).foldl (stp oneL t) a0) (wild 63)) t.size = true) ↔
    (t.size = a.size + 1 + b.size ∧ (ints t).take a.size = ints a ∧ ((ints t).drop (a.size + 1)).take b.size = ints b) := by
  rw [fold_lit t (ints b) _ _ (Nat.le_refl _), ints_len]
  constructor
  · rintro ⟨j, h1, h2, h3⟩
    rw [stp_quest] at h2
    obtain ⟨i, rfl, h5⟩ := h2
    rw [fold_first t _ i (by omega), ints_len] at h5
    obtain ⟨rfl, h5⟩ := h5
    exact ⟨h1, h5, h3⟩
  · rintro ⟨h1, h3, h4⟩
    refine ⟨a.size + 1, h1, ?_, h4⟩
    rw [stp_quest]
    refine ⟨a.size, rfl, ?_⟩
    rw [fold_first t _ _ (by omega), ints_len]
    exact ⟨rfl, h3⟩

theorem asked (a b m : ByteArray) (ha : a.size ≤ 60) (hb : b.size ≤ 60) (hm : m.size ≤ 60) : Asked a b m (a ++ star ++ b) (a ++ quest ++ b) (a.size + 1 + b.size) := by
  have i1 : ints star = [42] := by decide
  have i2 : ints quest = [63] := by decide
  have iamb : ints (a ++ m ++ b) = ints a ++ (ints m ++ ints b) := by rw [ints_append, ints_append, List.append_assoc]
  have samb : (a ++ m ++ b).size = a.size + m.size + b.size := by rw [← ints_len, iamb]; simp [ints_len]; omega
  have sab : (a ++ b).size = a.size + b.size := by rw [← ints_len, ints_append]; simp [ints_len]
  have takeA : ∀ r : List Int, (ints a ++ r).take a.size = ints a := fun r => by
    rw [List.take_append_of_le_length (by rw [ints_len]; exact Nat.le_refl _), List.take_of_length_le (by rw [ints_len]; exact Nat.le_refl _)]
  have dropB : ∀ l : List Int, ((l ++ ints b).drop l.length).take b.size = ints b := fun l => by
    rw [List.drop_left, List.take_of_length_le (by rw [ints_len]; exact Nat.le_refl _)]
  have b1 : ∀ {x y : Bool}, (x = true ↔ y = true) → x = y := fun h => Bool.eq_iff_iff.2 h
  refine ⟨?_, ?_, ?_, ?_, fun h0 => ?_, awake_end.ex⟩
  · refine mid_match a star b 42 (.inl rfl) i1 ha hb _ (by omega) true ?_
    rw [star_iff]
    refine ⟨a.size + m.size, by omega, by omega, by rw [iamb, takeA], ?_⟩
    have := dropB (ints a ++ ints m)
    rw [List.length_append, ints_len, ints_len, List.append_assoc, ← iamb] at this
    exact this
  · refine mid_match a quest b 63 (.inr rfl) i2 ha hb _ (by omega) _ (b1 ?_)
    rw [quest_iff, decide_eq_true_iff]
    constructor
    · rintro ⟨h1, -, -⟩
      omega
    · intro h1
      refine ⟨by omega, by rw [iamb, takeA], ?_⟩
      have := dropB (ints a ++ ints m)
      rw [List.length_append, ints_len, ints_len, List.append_assoc, ← iamb] at this
      rw [show a.size + 1 = a.size + m.size by omega]
      exact this
  · have h := active_end _ _ _ (by simp [ints_len]; omega) (mid_items a star b 42 (.inl rfl) i1 ha hb)
    have e : (((ints a).map lit ++ [wild 42] ++ (ints b).map lit).any fun x => !x.f5) = true := by
      rw [List.any_append, List.any_append]
      simp [wild]
    rw [e] at h
    exact h.ex
  · refine mid_match a star b 42 (.inl rfl) i1 ha hb _ (by omega) true ?_
    rw [star_iff]
    refine ⟨a.size, by omega, Nat.le_refl _, by rw [ints_append, takeA], ?_⟩
    have := dropB (ints a)
    rw [ints_len, ← ints_append] at this
    exact this
  · have se : (a.extract 0 (a.size - 1)).size = a.size - 1 := by rw [ByteArray.size_extract]; omega
    refine mid_match a star b 42 (.inl rfl) i1 ha hb _ (by omega) false ?_
    rw [← Bool.not_eq_true, star_iff]
    rintro ⟨j, h1, h2, -⟩
    omega
end Go.Proofs.Ytcfimlllgkknhaa.Mt
