import Derived.Test.YtcfimlllgkknhaaItCuts
/-
Bytes that mean themselves match themselves alone.
-/
namespace Go.Proofs.Ytcfimlllgkknhaa.Mt
open Go.RowKit Go.Proofs.Ytcfimlllgkknhaa.PPatCuts Go.Proofs.YtcfimlllgkknhaaW.PrintWords Go.Proofs.YtcfimlllgkknhaaW.PrintLast
set_option linter.unusedSimpArgs false
set_option linter.unusedVariables false

theorem toList_loop (b : ByteArray) : ∀ d i r, d + i = b.size → ByteArray.toList.loop b i r = r.reverse ++ b.data.toList.drop i := by
  intro d
  induction d with
  | zero =>
    intro i r h
    unfold ByteArray.toList.loop
    rw [if_neg (by omega), List.drop_eq_nil_of_le (by rw [Array.length_toList]; show b.size ≤ i; omega), List.append_nil]
  | succ d ih =>
    intro i r h
    have hi : i < b.data.toList.length := by rw [Array.length_toList]; show i < b.size; omega
    unfold ByteArray.toList.loop
    rw [if_pos (by omega), ih (i + 1) _ (by omega), List.drop_eq_getElem_cons hi, List.reverse_cons, List.append_assoc]
    congr 1
    have hi' : i < b.data.size := by show i < b.size; omega
    have : b.get! i = b.data.toList[i] := by
      obtain ⟨bs⟩ := b
      show bs[i]! = _
      rw [getElem!_pos bs i hi']; rfl
    rw [this]; rfl
theorem toList_data (b : ByteArray) : b.toList = b.data.toList := by
  unfold ByteArray.toList
  rw [toList_loop b b.size 0 [] (by omega)]
  rfl
theorem toList_inj {a b : ByteArray} : a.toList = b.toList ↔ a = b := by
  rw [toList_data, toList_data]
  constructor
  · intro h
    obtain ⟨⟨a⟩⟩ := a
    obtain ⟨⟨b⟩⟩ := b
    have : a = b := h
    rw [this]
  · rintro rfl; rfl

def oneL (x : S42) (c : Int) : Bool := if x.f0 = 42 then true else x.f0 == 63 || x.f1 == c
theorem ones_lit (c : Int) : Ones oneL 1 (lit c) := by
  intro k hk d
  obtain ⟨j, rfl⟩ : ∃ j, k = j + 1 := ⟨k - 1, by omega⟩
  simp [pat_item_one.f, pat_item_one.j0, lit, oneL]
theorem ones_wild (x : S42) (h : x.f0 = 42 ∨ x.f0 = 63) : Ones oneL 1 x := by
  intro k hk d
  obtain ⟨j, rfl⟩ : ∃ j, k = j + 1 := ⟨k - 1, by omega⟩
  rcases h with h | h <;> simp [pat_item_one.f, pat_item_one.j0, h, oneL]

theorem stp_lit0 (t : ByteArray) (a : Nat → Bool) (c : Int) : stp oneL t a (lit c) 0 = false := rfl
theorem stp_lit (t : ByteArray) (a : Nat → Bool) (c : Int) (i : Nat) : stp oneL t a (lit c) (i + 1) = (a i && c == bt t (i : Int)) := by
  show nx false (oneL (lit c)) t a (i + 1) = _
  simp [nx, oneL, lit]

theorem fold_lit (t : ByteArray) : ∀ (cs : List Int) (a : Nat → Bool) (i : Nat), i ≤ t.size →
    ((cs.map lit).foldl (stp oneL t) a i = true ↔ ∃ j, i = j + cs.length ∧ a j = true ∧ ((ints t).drop j).take cs.length = cs) := by
  intro cs
  induction cs with
  | nil =>
    intro a i hi
    simp
  | cons c cs ih =>
    intro a i hi
    rw [List.map_cons, List.foldl_cons, ih _ i hi]
    constructor
    · rintro ⟨j, hj, ha, ht⟩
      cases j with
      | zero => rw [stp_lit0] at ha; exact absurd ha (by simp)
      | succ j =>
        rw [stp_lit] at ha
        simp only [Bool.and_eq_true, beq_iff_eq] at ha
        refine ⟨j, by simp; omega, ha.1, ?_⟩
        rw [ints_drop t j (by omega), List.length_cons, List.take_succ_cons, ht, ha.2]
    · rintro ⟨j, hj, ha, ht⟩
      rw [List.length_cons] at hj ht
      rw [ints_drop t j (by omega), List.take_succ_cons] at ht
      injection ht with h1 h2
      refine ⟨j + 1, by omega, ?_, h2⟩
      rw [stp_lit, ha, h1]
      simp

/-- A text's own bytes match it alone. -/
theorem match_lits (s t : ByteArray) (hs : s.size < 1000000) (ht : t.size < 1000000) : Evt (fun k => pat_matched.f k ((ints s).map lit) t) (decide (s = t)) := by
  have hm := fun k => matched oneL t (by omega) 1 ((ints s).map lit) (by rw [List.length_map, ints_len]; omega) (by
    intro x hx
    obtain ⟨c, -, rfl⟩ := List.mem_map.1 hx
    exact ones_lit c) (k + 1) (by omega)
  have hv : ((ints s).map lit).foldl (stp oneL t) a0 t.size = decide (s = t) := by
    rw [Bool.eq_iff_iff, fold_lit t (ints s) a0 t.size (Nat.le_refl _), decide_eq_true_iff]
    constructor
    · rintro ⟨j, hj, ha, h⟩
      have hj0 : j = 0 := by simpa [a0] using ha
      subst hj0
      rw [List.drop_zero, ints_len, List.take_of_length_le (by rw [ints_len]; rw [ints_len] at hj; omega)] at h
      exact (ints_inj h).symm
    · rintro rfl
      refine ⟨0, by rw [ints_len]; omega, rfl, ?_⟩
      rw [List.drop_zero, List.take_length]
  rw [hv] at hm
  refine Evt.from (1 + ((ints s).map lit).length * (t.size + 3) + 1) fun k => ?_
  have := hm k
  rw [show k + (1 + ((ints s).map lit).length * (t.size + 3) + 1) = k + 1 + ((ints s).map lit).length * (t.size + 3) + 1 from by omega]
  exact this

/-- Bytes that mean nothing are steps that mean themselves. -/
theorem items_dead (s : ByteArray) (L : List Bool) (hs : s.size < 1000000) (e : Nat) (he : e ≤ s.size) (r : List S42) : ∀ d i xs, d + i = e → xs.length ≤ i → (∀ j, i ≤ j → j < e → Lv L j = false) →
    Evt (fun k => pat_items.l0 k (xs ++ (((ints s).drop i).take d).map lit) (e : Int) s L) r → Evt (fun k => pat_items.l0 k xs (i : Int) s L) r := by
  intro d
  induction d with
  | zero =>
    intro i xs hd hx hl h
    rw [show i = e by omega]
    simpa using h
  | succ d ih =>
    intro i xs hd hx hl h
    have hi : i < s.size := by omega
    refine Evt.succ ?_
    simp only [pat_items.l0, if_pos (show ((i : Nat) : Int) < (s.size : Int) by omega), if_pos (show (0 : Int) ≤ (i : Int) by omega), live_at, Option.bind_some, hl i (Nat.le_refl _) (by omega), if_neg (show ¬ (false = true) by simp), if_pos (show xs.length < 2513169434916 by omega), wn i (by omega)]
    refine ih (i + 1) (xs ++ [lit (bt s (i : Int))]) (by omega) (by simp; omega) (fun j h1 h2 => hl j (by omega) h2) ?_
    rw [List.append_assoc, List.singleton_append, ← List.map_cons]
    rw [ints_drop s i hi, List.take_succ_cons] at h
    exact h
theorem items_all_dead (s : ByteArray) (L : List Bool) (hs : s.size < 1000000) (hl : ∀ j, j < s.size → Lv L j = false) : Evt (fun k => pat_items.f k s L) ((ints s).map lit) := by
  unfold pat_items.f
  refine items_dead s L hs s.size (Nat.le_refl _) _ s.size 0 [] (by omega) (by simp) (fun j _ h => hl j h) ?_
  rw [List.nil_append, List.drop_zero, List.take_of_length_le (by rw [ints_len]; omega)]
  refine Evt.succ ?_
  simp only [pat_items.l0, if_neg (show ¬ ((s.size : Nat) : Int) < (s.size : Int) by omega)]
  exact Evt.of _

theorem match_of (s : ByteArray) (L : List Bool) (t : ByteArray) (l : List S42) (r : Bool) (hi : Evt (fun k => pat_items.f k s L) l) (hm : Evt (fun k => pat_matched.f k l t) r) : Evt (fun k => pat_Match.f k s L t) r := by
  unfold pat_Match.f
  refine Evt.bind hi ?_
  have := Evt.bind (g := fun y _ => some y) hm (Evt.of r)
  exact this

theorem raw_l0 (s : ByteArray) (hs : s.size < 1000000) : ∀ d i, d + i = s.size → Evt (fun k => pat_Raw.l0 k (s.size : Int) (i : Int) s (List.replicate i true)) (s, List.replicate s.size true) := by
  intro d
  induction d with
  | zero =>
    intro i h
    refine Evt.succ ?_
    simp only [pat_Raw.l0, if_neg (show ¬ ((i : Nat) : Int) < (s.size : Int) by omega)]
    rw [show i = s.size by omega]
    exact Evt.of _
  | succ d ih =>
    intro i h
    refine Evt.succ ?_
    simp only [pat_Raw.l0, if_pos (show ((i : Nat) : Int) < (s.size : Int) by omega), if_pos (show (List.replicate i true).length < 140737488355328 by rw [List.length_replicate]; omega), wn i (by omega)]
    rw [show List.replicate i true ++ [true] = List.replicate (i + 1) true by rw [List.replicate_succ']]
    exact ih (i + 1) (by omega)
theorem raw_end (s : ByteArray) (hs : s.size < 1000000) : Evt (fun k => pat_Raw.f k s) (s, List.replicate s.size true) := raw_l0 s hs s.size 0 (by omega)

theorem awake_60 : conchlaw6_awake.f 60 = some true := by kernel_rfl
theorem awake_end : Evt (fun k => conchlaw6_awake.f k) true := by
  refine ⟨60, fun k hk => ?_⟩
  obtain ⟨j, rfl⟩ : ∃ j, k = 60 + j := ⟨k - 60, by omega⟩
  clear hk
  induction j with
  | zero => exact awake_60
  | succ j ih => exact conchlaw6_awake.mono (60 + j) true ih
end Go.Proofs.Ytcfimlllgkknhaa.Mt
