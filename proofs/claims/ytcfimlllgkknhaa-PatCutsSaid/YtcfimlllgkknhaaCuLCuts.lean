import Derived.Test.YtcfimlllgkknhaaPlCuts
/-
What any pattern matches, and what is cut off by it.
-/
namespace Go.Proofs.Ytcfimlllgkknhaa.Mt
open Go.RowKit Go.Proofs.Ytcfimlllgkknhaa.PPatCuts Go.Proofs.YtcfimlllgkknhaaW.PrintWords Go.Proofs.YtcfimlllgkknhaaW.PrintLast
set_option linter.unusedSimpArgs false
set_option linter.unusedVariables false

/-- A row answers. -/
theorem has_ends (inn : ByteArray) (ds : List Bool) (hd : ds.length = inn.size) (hs : inn.size < 1000) (f0 f1 : Int) (no lt : Bool) (c : Int) :
    ∀ d i, inn.size ≤ d + i → ∃ r, ∀ k, 3 * d + 1 ≤ k → pat_item_has.l0 k c (i : Int) f0 f1 inn ds no lt = some r := by
  intro d
  induction d using Nat.strongRecOn with
  | _ d ih =>
    intro i h
    by_cases hi : i < inn.size
    · obtain ⟨d, rfl⟩ : ∃ e, d = e + 1 := ⟨d - 1, by omega⟩
      obtain ⟨r1, hr1⟩ := ih d (by omega) (i + 1) (by omega)
      obtain ⟨r3, hr3⟩ := ih d (by omega) (i + 3) (by omega)
      have w1 : wrap64 ((i : Int) + 1) = ((i + 1 : Nat) : Int) := wn i (by omega)
      have w2 : wrap64 ((i : Int) + 2) = ((i + 2 : Nat) : Int) := wr (by omega) (by omega)
      have w3 : wrap64 (((i + 2 : Nat) : Int) + 1) = ((i + 3 : Nat) : Int) := wn (i + 2) (by omega)
      have j2 : ∀ b : Bool, ∃ r, ∀ k, 3 * d + 1 + 1 ≤ k → pat_item_has.j2 k c (i : Int) b f0 f1 inn ds no lt = some r := by
        intro b
        cases b with
        | true =>
          refine ⟨true, fun k hk => ?_⟩
          obtain ⟨k, rfl⟩ : ∃ e, k = e + 1 := ⟨k - 1, by omega⟩
          simp only [pat_item_has.j2, if_true]
        | false =>
          refine ⟨r3, fun k hk => ?_⟩
          obtain ⟨k, rfl⟩ : ∃ e, k = e + 1 := ⟨k - 1, by omega⟩
          simp only [pat_item_has.j2, if_neg (show ¬ (false = true) by simp), w2, w3]
          exact hr3 k (by omega)
      have j1f : ∃ r, ∀ k, 3 * d + 1 + 2 ≤ k → pat_item_has.j1 k c (i : Int) false f0 f1 inn ds no lt = some r := by
        by_cases hb : bt inn (i : Int) = c
        · refine ⟨true, fun k hk => ?_⟩
          obtain ⟨k, rfl⟩ : ∃ e, k = e + 1 := ⟨k - 1, by omega⟩
          simp only [pat_item_has.j1, if_neg (show ¬ (false = true) by simp), if_pos (show (0 : Int) ≤ (i : Int) by omega), if_pos (show ((i : Nat) : Int) < (inn.size : Int) by omega), if_pos hb]
        · refine ⟨r1, fun k hk => ?_⟩
          obtain ⟨k, rfl⟩ : ∃ e, k = e + 1 := ⟨k - 1, by omega⟩
          simp only [pat_item_has.j1, if_neg (show ¬ (false = true) by simp), if_pos (show (0 : Int) ≤ (i : Int) by omega), if_pos (show ((i : Nat) : Int) < (inn.size : Int) by omega), if_neg hb, w1]
          exact hr1 k (by omega)
      have j1t : i + 2 < inn.size → ∃ r, ∀ k, 3 * d + 1 + 2 ≤ k → pat_item_has.j1 k c (i : Int) true f0 f1 inn ds no lt = some r := by
        intro h2
        by_cases hb : bt inn (i : Int) ≤ c
        · obtain ⟨r, hr⟩ := j2 (decide (c ≤ bt inn ((i + 2 : Nat) : Int)))
          refine ⟨r, fun k hk => ?_⟩
          obtain ⟨k, rfl⟩ : ∃ e, k = e + 1 := ⟨k - 1, by omega⟩
          simp only [pat_item_has.j1, if_true, if_pos (show (0 : Int) ≤ (i : Int) by omega), if_pos (show ((i : Nat) : Int) < (inn.size : Int) by omega), if_pos hb, w2, if_pos (show (0 : Int) ≤ ((i + 2 : Nat) : Int) by omega), if_pos (show ((i + 2 : Nat) : Int) < (inn.size : Int) by omega)]
          exact hr k (by omega)
        · obtain ⟨r, hr⟩ := j2 false
          refine ⟨r, fun k hk => ?_⟩
          obtain ⟨k, rfl⟩ : ∃ e, k = e + 1 := ⟨k - 1, by omega⟩
          simp only [pat_item_has.j1, if_true, if_pos (show (0 : Int) ≤ (i : Int) by omega), if_pos (show ((i : Nat) : Int) < (inn.size : Int) by omega), if_neg hb]
          exact hr k (by omega)
      by_cases h2 : i + 2 < inn.size
      · by_cases hb : bt inn ((i + 1 : Nat) : Int) = 45
        · have go : ∀ b : Bool, rdOf false ds ((i + 1 : Nat) : Int) = b → ∃ r, ∀ k, 3 * (d + 1) + 1 ≤ k → pat_item_has.l0 k c (i : Int) f0 f1 inn ds no lt = some r := by
            intro b hb2
            obtain ⟨r, hr⟩ : ∃ r, ∀ k, 3 * d + 1 + 2 ≤ k → pat_item_has.j1 k c (i : Int) b f0 f1 inn ds no lt = some r := by
              cases b with
              | true => exact j1t h2
              | false => exact j1f
            refine ⟨r, fun k hk => ?_⟩
            obtain ⟨k, rfl⟩ : ∃ e, k = e + 1 := ⟨k - 1, by omega⟩
            simp only [pat_item_has.l0, if_pos (show ((i : Nat) : Int) < (inn.size : Int) by omega), w2, if_pos (show ((i + 2 : Nat) : Int) < (inn.size : Int) by omega), w1, if_pos (show (0 : Int) ≤ ((i + 1 : Nat) : Int) by omega), if_pos (show ((i + 1 : Nat) : Int) < (inn.size : Int) by omega), if_pos hb,
              if_pos (show ((i + 1 : Nat) : Int) < (ds.length : Int) by omega), hb2]
            exact hr k (by omega)
          exact go _ rfl
        · obtain ⟨r, hr⟩ := j1f
          refine ⟨r, fun k hk => ?_⟩
          obtain ⟨k, rfl⟩ : ∃ e, k = e + 1 := ⟨k - 1, by omega⟩
          simp only [pat_item_has.l0, if_pos (show ((i : Nat) : Int) < (inn.size : Int) by omega), w2, if_pos (show ((i + 2 : Nat) : Int) < (inn.size : Int) by omega), w1, if_pos (show (0 : Int) ≤ ((i + 1 : Nat) : Int) by omega), if_pos (show ((i + 1 : Nat) : Int) < (inn.size : Int) by omega), if_neg hb]
          exact hr k (by omega)
      · obtain ⟨r, hr⟩ := j1f
        refine ⟨r, fun k hk => ?_⟩
        obtain ⟨k, rfl⟩ : ∃ e, k = e + 1 := ⟨k - 1, by omega⟩
        simp only [pat_item_has.l0, if_pos (show ((i : Nat) : Int) < (inn.size : Int) by omega), w2, if_neg (show ¬ ((i + 2 : Nat) : Int) < (inn.size : Int) by omega)]
        exact hr k (by omega)
    · refine ⟨false, fun k hk => ?_⟩
      obtain ⟨k, rfl⟩ : ∃ e, k = e + 1 := ⟨k - 1, by omega⟩
      simp only [pat_item_has.l0, if_neg (show ¬ ((i : Nat) : Int) < (inn.size : Int) by omega)]

/-- What a step answers. -/
def oneE (x : S42) (c : Int) : Bool := (pat_item_one.f 4000 x.f0 x.f1 x.f2 x.f3 x.f4 x.f5 c).getD false
theorem ones_all (s : ByteArray) (hs : s.size < 1000) (x : S42) (h : StepOk s x) : Ones oneE 4000 x := by
  intro k hk c
  obtain ⟨h0, h3, h2, -⟩ := h
  obtain ⟨r, hr⟩ := has_ends x.f2 x.f3 h3 (by omega) x.f0 x.f1 x.f4 x.f5 c x.f2.size 0 (by omega)
  have go : ∃ b, ∀ k, 4000 ≤ k → pat_item_one.f k x.f0 x.f1 x.f2 x.f3 x.f4 x.f5 c = some b := by
    rcases h0 with e | e | e | e
    · refine ⟨x.f1 == c, fun k hk => ?_⟩
      obtain ⟨j, rfl⟩ : ∃ j, k = j + 1 := ⟨k - 1, by omega⟩
      simp [pat_item_one.f, pat_item_one.j0, e]
    · refine ⟨true, fun k hk => ?_⟩
      obtain ⟨j, rfl⟩ : ∃ j, k = j + 1 := ⟨k - 1, by omega⟩
      simp [pat_item_one.f, pat_item_one.j0, e]
    · refine ⟨true, fun k hk => ?_⟩
      obtain ⟨j, rfl⟩ : ∃ j, k = j + 1 := ⟨k - 1, by omega⟩
      simp [pat_item_one.f, pat_item_one.j0, e]
    · refine ⟨r != x.f4, fun k hk => ?_⟩
      obtain ⟨j, rfl⟩ : ∃ j, k = j + 1 := ⟨k - 1, by omega⟩
      have this : pat_item_has.l0 j c 0 91 x.f1 x.f2 x.f3 x.f4 x.f5 = some r := by
        have := hr j (by omega)
        rw [e] at this
        exact this
      simp only [pat_item_one.f, pat_item_one.j0, e, pat_item_has.f, if_neg (show ¬ ((91 : Int) = 42) by omega), if_neg (show ¬ (((91 : Int) == 63) = true) by simp), if_true, this, Option.bind_some]
  obtain ⟨b, hb⟩ := go
  rw [hb k hk]
  unfold oneE
  rw [hb 4000 (Nat.le_refl _)]
  rfl

/-- What a pattern's steps answer at a text. -/
def ansE (l : List S42) (t : ByteArray) : Bool := l.foldl (stp oneE t) a0 t.size
theorem matched_end (s : ByteArray) (hs : s.size < 1000) (l : List S42) (hl : l.length ≤ s.size) (h : ∀ x ∈ l, StepOk s x) (t : ByteArray) (ht : t.size < 1000) : Evt (fun k => pat_matched.f k l t) (ansE l t) := by
  have hm := fun k => matched oneE t (by omega) 4000 l (by omega) (fun x hx => ones_all s hs x (h x hx)) (k + 4000) (by omega)
  refine Evt.from (4000 + l.length * (t.size + 3) + 1) fun k => ?_
  have := hm k
  rw [show k + (4000 + l.length * (t.size + 3) + 1) = k + 4000 + l.length * (t.size + 3) + 1 from by omega]
  exact this
theorem match_end (s : ByteArray) (hs : s.size < 1000) (L : List Bool) (l : List S42) (hi : Evt (fun k => pat_items.f k s L) l) (hl : l.length ≤ s.size) (h : ∀ x ∈ l, StepOk s x) (t : ByteArray) (ht : t.size < 1000) :
    Evt (fun k => pat_Match.f k s L t) (ansE l t) := match_of s L t l _ hi (matched_end s hs l hl h t ht)

/-- Where Cut looks in its round j. -/
def placeOf (front long : Bool) (n j : Nat) : Nat := if front = long then n - j else j
def partOf (front : Bool) (t : ByteArray) (p : Nat) : ByteArray := if front then t.extract 0 p else t.extract p t.size
def leftOf (front : Bool) (t : ByteArray) (p : Nat) : ByteArray := if front then t.extract p t.size else t.extract 0 p

theorem cut_step (s : ByteArray) (hs : s.size < 1000) (l : List S42) (hl : l.length ≤ s.size) (h : ∀ x ∈ l, StepOk s x) (t : ByteArray) (ht : t.size < 1000) (front long : Bool) (j : Nat) (hj : j ≤ t.size) (r : ByteArray)
    (hr : if ansE l (partOf front t (placeOf front long t.size j)) = true then r = leftOf front t (placeOf front long t.size j) else Evt (fun k => pat_Cut.l0 k t front long l ((t.size + 1 : Nat) : Int) ((j + 1 : Nat) : Int)) r) :
    Evt (fun k => pat_Cut.l0 k t front long l ((t.size + 1 : Nat) : Int) (j : Int)) r := by
  have w1 : wrap64 ((j : Int) + 1) = ((j + 1 : Nat) : Int) := wn j (by omega)
  have key : ∀ q : Nat, q ≤ t.size → (q = if long then t.size - j else j) → Evt (fun k => pat_Cut.j1 k t front long l (q : Int) ((t.size + 1 : Nat) : Int) (j : Int)) r := by
    intro q hq hq2
    have w2 : wrap64 ((t.size : Int) - (q : Int)) = ((t.size - q : Nat) : Int) := by rw [wr (by omega) (by omega)]; omega
    refine Evt.succ ?_
    cases front with
    | true =>
      have e : placeOf true long t.size j = q := by
        unfold placeOf
        cases long <;> simp_all
      rw [e] at hr
      have hm := matched_end s hs l hl h (t.extract 0 q) (by rw [ByteArray.size_extract]; omega)
      simp only [pat_Cut.j1, if_true, if_pos (show (0 : Int) ≤ (q : Int) by omega), if_pos (show ((q : Nat) : Int) ≤ (t.size : Int) by omega), Int.toNat_natCast]
      refine Evt.bind hm ?_
      refine Evt.succ ?_
      have e2 : partOf true t q = t.extract 0 q := rfl
      rw [e2] at hr
      by_cases ha : ansE l (t.extract 0 q) = true
      · rw [if_pos ha] at hr
        subst hr
        simp only [ha, pat_Cut.j2, if_true, if_pos (show (0 : Int) ≤ (q : Int) by omega), if_pos (show ((q : Nat) : Int) ≤ (t.size : Int) by omega), Int.toNat_natCast]
        exact Evt.of _
      · rw [if_neg ha] at hr
        simp only [ha, pat_Cut.j2, if_neg (show ¬ (false = true) by simp), if_true, w1]
        exact hr
    | false =>
      have e : placeOf false long t.size j = t.size - q := by
        unfold placeOf
        cases long <;> simp_all <;> omega
      rw [e] at hr
      have hm := matched_end s hs l hl h (t.extract (t.size - q) t.size) (by rw [ByteArray.size_extract]; omega)
      simp only [pat_Cut.j1, if_neg (show ¬ (false = true) by simp)]
      refine Evt.succ ?_
      simp only [pat_Cut.j2, if_neg (show ¬ (false = true) by simp), w2, if_pos (show (0 : Int) ≤ ((t.size - q : Nat) : Int) by omega), if_pos (show ((t.size - q : Nat) : Int) ≤ (t.size : Int) by omega), Int.toNat_natCast]
      refine Evt.bind hm ?_
      have e2 : partOf false t (t.size - q) = t.extract (t.size - q) t.size := rfl
      rw [e2] at hr
      by_cases ha : ansE l (t.extract (t.size - q) t.size) = true
      · rw [if_pos ha] at hr
        subst hr
        simp only [ha, if_true]
        exact Evt.of _
      · rw [if_neg ha] at hr
        simp only [ha, if_neg (show ¬ (false = true) by simp), w1]
        exact hr
  refine Evt.succ ?_
  cases long with
  | true =>
    have w3 : wrap64 ((t.size : Int) - (j : Int)) = ((t.size - j : Nat) : Int) := by rw [wr (by omega) (by omega)]; omega
    simp only [pat_Cut.l0, if_pos (show ((j : Nat) : Int) < ((t.size + 1 : Nat) : Int) by omega), if_true, w3]
    exact key (t.size - j) (by omega) rfl
  | false =>
    simp only [pat_Cut.l0, if_pos (show ((j : Nat) : Int) < ((t.size + 1 : Nat) : Int) by omega), if_neg (show ¬ (false = true) by simp)]
    exact key j hj rfl

theorem cut_loop (s : ByteArray) (hs : s.size < 1000) (l : List S42) (hl : l.length ≤ s.size) (h : ∀ x ∈ l, StepOk s x) (t : ByteArray) (ht : t.size < 1000) (front long : Bool) :
    ∀ d j, d + j = t.size + 1 → ∃ r, Evt (fun k => pat_Cut.l0 k t front long l ((t.size + 1 : Nat) : Int) (j : Int)) r ∧
      ((∃ q, j ≤ q ∧ q ≤ t.size ∧ ansE l (partOf front t (placeOf front long t.size q)) = true ∧ (∀ p, j ≤ p → p < q → ansE l (partOf front t (placeOf front long t.size p)) = false) ∧ r = leftOf front t (placeOf front long t.size q)) ∨
        ((∀ p, j ≤ p → p ≤ t.size → ansE l (partOf front t (placeOf front long t.size p)) = false) ∧ r = t)) := by
  intro d
  induction d with
  | zero =>
    intro j hj
    refine ⟨t, Evt.succ ?_, .inr ⟨fun p h1 h2 => by omega, rfl⟩⟩
    simp only [pat_Cut.l0, if_neg (show ¬ ((j : Nat) : Int) < ((t.size + 1 : Nat) : Int) by omega)]
    exact Evt.of _
  | succ d ih =>
    intro j hj
    cases ha : ansE l (partOf front t (placeOf front long t.size j)) with
    | true =>
      refine ⟨_, cut_step s hs l hl h t ht front long j (by omega) (leftOf front t (placeOf front long t.size j)) (by rw [if_pos ha]), .inl ⟨j, Nat.le_refl _, by omega, ha, fun p h1 h2 => by omega, rfl⟩⟩
    | false =>
      obtain ⟨r, hr, hp⟩ := ih (j + 1) (by omega)
      refine ⟨r, cut_step s hs l hl h t ht front long j (by omega) r (by rw [if_neg (by rw [ha]; simp)]; exact hr), ?_⟩
      rcases hp with ⟨q, h1, h2, h3, h4, h5⟩ | ⟨h1, h2⟩
      · refine .inl ⟨q, by omega, h2, h3, fun p h6 h7 => ?_, h5⟩
        by_cases e : p = j
        · rw [e]; exact ha
        · exact h4 p (by omega) h7
      · refine .inr ⟨fun p h6 h7 => ?_, h2⟩
        by_cases e : p = j
        · rw [e]; exact ha
        · exact h1 p (by omega) h7

theorem extract_all (t : ByteArray) : t.extract 0 t.size = t := by
  have : ints (t.extract 0 t.size) = ints t := by
    unfold ints
    rw [ByteArray.data_extract, Array.toList_extract, List.extract_eq_take_drop, List.drop_zero, Nat.sub_zero, List.take_of_length_le]
    rw [Array.length_toList]; exact Nat.le_refl _
  exact ints_inj this
/-- What Cut answers: from which place on, or up to which place, the text is left. -/
structure CutAt (M : Nat → Bool) (n : Nat) (first : Bool) (none_ p : Nat) : Prop where
  le : p ≤ n
  hit : ∀ i, i ≤ n → M i = true → M p = true ∧ (if first then p ≤ i else i ≤ p)
  none : (∀ i, i ≤ n → M i = false) → p = none_
theorem cut_end (s : ByteArray) (hs : s.size < 1000) (L : List Bool) (l : List S42) (hi : Evt (fun k => pat_items.f k s L) l) (hl : l.length ≤ s.size) (h : ∀ x ∈ l, StepOk s x) (t : ByteArray) (ht : t.size < 1000) (front long : Bool) :
    ∃ p, Evt (fun k => pat_Cut.f k s L t front long) (leftOf front t p) ∧ CutAt (fun i => ansE l (partOf front t i)) t.size (front != long) (if front then 0 else t.size) p := by
  obtain ⟨r, hr, hp⟩ := cut_loop s hs l hl h t ht front long (t.size + 1) 0 rfl
  have hc : Evt (fun k => pat_Cut.f k s L t front long) r := by
    unfold pat_Cut.f
    refine Evt.bind hi ?_
    rw [show wrap64 ((t.size : Int) + 1) = ((t.size + 1 : Nat) : Int) from wn _ (by omega)]
    exact hr
  rcases hp with ⟨q, -, h2, h3, h4, rfl⟩ | ⟨h1, rfl⟩
  · refine ⟨placeOf front long t.size q, hc, ?_, fun i hin hM => ⟨h3, ?_⟩, fun hn => ?_⟩
    · unfold placeOf; split <;> omega
    · have h5 := fun hlt => h4 (placeOf front long t.size i) (Nat.zero_le _) hlt
      have e : placeOf front long t.size (placeOf front long t.size i) = i := by unfold placeOf; split <;> omega
      rw [e] at h5
      have hge : q ≤ placeOf front long t.size i := by
        by_cases hlt : placeOf front long t.size i < q
        · have := h5 hlt
          rw [this] at hM
          cases hM
        · omega
      unfold placeOf at hge ⊢
      cases front <;> cases long <;> simp at hge ⊢ <;> omega
    · have := hn (placeOf front long t.size q) (by unfold placeOf; split <;> omega)
      rw [this] at h3
      cases h3
  · refine ⟨if front then 0 else r.size, ?_, ?_, fun i hin hM => ?_, fun _ => rfl⟩
    · have e : leftOf front r (if front then 0 else r.size) = r := by
        cases front <;> simp [leftOf, extract_all]
      rw [e]
      exact hc
    · cases front <;> simp
    · have := h1 (placeOf front long r.size i) (Nat.zero_le _) (by unfold placeOf; split <;> omega)
      have e : placeOf front long r.size (placeOf front long r.size i) = i := by unfold placeOf; split <;> omega
      rw [e] at this
      rw [this] at hM
      cases hM
end Go.Proofs.Ytcfimlllgkknhaa.Mt
