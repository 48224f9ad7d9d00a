import Derived.Test.YtcfimlllgkknhaaPlLive
/-
Steps that stand for any byte, or any bytes.
-/
namespace Go.Proofs.Ytcfimlllgkknhaa.Mt
open Go.RowKit Go.Proofs.Ytcfimlllgkknhaa.PPatLive Go.Proofs.YtcfimlllgkknhaaW.PrintWords Go.Proofs.YtcfimlllgkknhaaW.PrintLast
set_option linter.unusedSimpArgs false
set_option linter.unusedVariables false

def wild (c : Int) : S42 := ⟨c, 0, ⟨#[]⟩, [], false, false⟩

theorem items_wild (s : ByteArray) (L : List Bool) (hs : s.size < 1000000) (i : Nat) (xs : List S42) (r : List S42) (c : Int) (hc : c = 42 ∨ c = 63) (hi : i < s.size) (hx : xs.length ≤ i) (hl : Lv L i = true) (hb : bt s (i : Int) = c)
    (h : Evt (fun k => pat_items.l0 k (xs ++ [wild c]) ((i + 1 : Nat) : Int) s L) r) : Evt (fun k => pat_items.l0 k xs (i : Int) s L) r := by
  have hlt : ((i : Nat) : Int) < (s.size : Int) := by omega
  have hge : (0 : Int) ≤ (i : Int) := by omega
  have hmax : xs.length < 2513169434916 := by omega
  have h4 : Evt (fun k => pat_items.j1 k xs (i : Int) c 1 c true s L 0 c ⟨#[]⟩ false true) r := by
    refine Evt.succ ?_
    simp only [pat_items.j1, if_true, if_pos hmax, wn i (by omega)]
    exact h
  refine Evt.succ ?_
  rcases hc with rfl | rfl
  · simp only [pat_items.l0, if_pos hlt, if_pos hge, live_at, Option.bind_some, hl, if_true, hb, beq_self_eq_true]
    exact h4
  · simp only [pat_items.l0, if_pos hlt, if_pos hge, live_at, Option.bind_some, hl, if_true, hb, beq_self_eq_true, if_neg (show ¬ ((63 : Int) = 42) by omega)]
    exact h4
theorem items_fin (s : ByteArray) (L : List Bool) (xs : List S42) (i : Nat) (hi : i = s.size) : Evt (fun k => pat_items.l0 k xs (i : Int) s L) xs := by
  refine Evt.succ ?_
  simp only [pat_items.l0, if_neg (show ¬ ((i : Nat) : Int) < (s.size : Int) by omega)]
  exact Evt.of _

theorem stp_star (t : ByteArray) (a : Nat → Bool) : ∀ i, stp oneL t a (wild 42) i = true ↔ ∃ j, j ≤ i ∧ a j = true := by
  intro i
  induction i with
  | zero =>
    show (true && a 0) = true ↔ _
    rw [Bool.true_and]
    exact ⟨fun h => ⟨0, Nat.le_refl _, h⟩, fun ⟨j, h1, h2⟩ => by rw [show (0 : Nat) = j by omega]; exact h2⟩
  | succ i ih =>
    have e : stp oneL t a (wild 42) (i + 1) = (a (i + 1) || stp oneL t a (wild 42) i) := rfl
    rw [e, Bool.or_eq_true, ih]
    constructor
    · rintro (h | ⟨j, h1, h2⟩)
      · exact ⟨i + 1, Nat.le_refl _, h⟩
      · exact ⟨j, by omega, h2⟩
    · rintro ⟨j, h1, h2⟩
      by_cases e : j = i + 1
      · left; rw [← e]; exact h2
      · exact .inr ⟨j, by omega, h2⟩
theorem stp_quest (t : ByteArray) (a : Nat → Bool) (i : Nat) : stp oneL t a (wild 63) i = true ↔ ∃ j, i = j + 1 ∧ a j = true := by
  cases i with
  | zero => exact ⟨fun h => (by cases h), fun ⟨j, h1, _⟩ => by omega⟩
  | succ i =>
    have e : stp oneL t a (wild 63) (i + 1) = (a i && true) := rfl
    rw [e, Bool.and_true]
    exact ⟨fun h => ⟨i, rfl, h⟩, fun ⟨j, h1, h2⟩ => by rw [show i = j by omega]; exact h2⟩

/-- Steps of these kinds alone. -/
def Easy (l : List S42) : Prop := ∀ x ∈ l, (∃ c, x = lit c) ∨ x = wild 42 ∨ x = wild 63
theorem easy_end (l : List S42) (h : Easy l) (hl : l.length < 1000000) (t : ByteArray) (ht : t.size < 1000000) : Evt (fun k => pat_matched.f k l t) (l.foldl (stp oneL t) a0 t.size) := by
  have hm := fun k => matched oneL t (by omega) 1 l (by omega) (by
    intro x hx
    rcases h x hx with ⟨c, rfl⟩ | rfl | rfl
    · exact ones_lit c
    · exact ones_wild _ (.inl rfl)
    · exact ones_wild _ (.inr rfl)) (k + 1) (by omega)
  refine Evt.from (1 + l.length * (t.size + 3) + 1) fun k => ?_
  have := hm k
  rw [show k + (1 + l.length * (t.size + 3) + 1) = k + 1 + l.length * (t.size + 3) + 1 from by omega]
  exact this
theorem easy_lits (cs : List Int) : Easy (cs.map lit) := by
  intro x hx
  obtain ⟨c, -, rfl⟩ := List.mem_map.1 hx
  exact .inl ⟨c, rfl⟩
theorem easy_star : Easy [wild 42] := fun x hx => by
  rw [List.mem_singleton] at hx; exact .inr (.inl hx)
theorem easy_quest : Easy [wild 63] := fun x hx => by
  rw [List.mem_singleton] at hx; exact .inr (.inr hx)
theorem easy_append {l r : List S42} (h : Easy l) (k : Easy r) : Easy (l ++ r) := fun x hx => by
  rcases List.mem_append.1 hx with hx | hx
  · exact h x hx
  · exact k x hx

theorem ints_append (a b : ByteArray) : ints (a ++ b) = ints a ++ ints b := by
  unfold ints
  simp [ByteArray.data_append]
theorem bt_of_ints (s : ByteArray) (i : Nat) (h : i < s.size) (c : Int) (e : (ints s)[i]? = some c) : bt s (i : Int) = c := by
  rw [← bt_ints s i h]
  rw [List.getElem?_eq_getElem (by rw [ints_len]; exact h)] at e
  exact Option.some.inj e
/-- The first steps, from where a text begins. -/
theorem fold_first (t : ByteArray) (cs : List Int) (i : Nat) (hi : i ≤ t.size) : (cs.map lit).foldl (stp oneL t) a0 i = true ↔ i = cs.length ∧ (ints t).take cs.length = cs := by
  rw [fold_lit t cs a0 i hi]
  constructor
  · rintro ⟨j, h1, h2, h3⟩
    have hj : j = 0 := by simpa [a0] using h2
    subst hj
    exact ⟨by omega, by simpa using h3⟩
  · rintro ⟨h1, h2⟩
    exact ⟨0, by omega, rfl, by simpa using h2⟩
end Go.Proofs.Ytcfimlllgkknhaa.Mt
