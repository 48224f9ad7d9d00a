import Derived.Test.YtcfimlllgkknhaaMtCuts
/-
What the steps of a pattern are: each call ends, and where no step means anything they are the bytes.
-/
namespace Go.Proofs.Ytcfimlllgkknhaa.Mt
open Go.RowKit Go.Proofs.Ytcfimlllgkknhaa.PPatCuts Go.Proofs.YtcfimlllgkknhaaW.PrintWords Go.Proofs.YtcfimlllgkknhaaW.PrintLast
set_option linter.unusedSimpArgs false
set_option linter.unusedVariables false

/-- From some number of rounds on the answer is r. -/
def Evt {α : Type} (f : Nat → Option α) (r : α) : Prop := ∃ K, ∀ k, K ≤ k → f k = some r
theorem Evt.succ {α : Type} {f : Nat → Option α} {r : α} (h : Evt (fun k => f (k + 1)) r) : Evt f r := by
  obtain ⟨K, h⟩ := h
  refine ⟨K + 1, fun k hk => ?_⟩
  obtain ⟨j, rfl⟩ : ∃ j, k = j + 1 := ⟨k - 1, by omega⟩
  exact h j (by omega)
theorem Evt.of {α : Type} (r : α) : Evt (fun _ => some r) r := ⟨0, fun _ _ => rfl⟩
theorem Evt.bind {α β : Type} {f : Nat → Option α} {x : α} {g : α → Nat → Option β} {r : β} (hf : Evt f x) (hg : Evt (g x) r) : Evt (fun k => (f k).bind fun y => g y k) r := by
  obtain ⟨K, hf⟩ := hf
  obtain ⟨J, hg⟩ := hg
  refine ⟨K + J, fun k hk => ?_⟩
  show (f k).bind _ = _
  rw [hf k (by omega), Option.bind_some]
  exact hg k (by omega)
theorem Evt.ex {α : Type} {f : Nat → Option α} {r : α} (h : Evt f r) : ∃ k, f k = some r := by
  obtain ⟨K, h⟩ := h
  exact ⟨K, h K (Nat.le_refl _)⟩
theorem Evt.from {α : Type} {f : Nat → Option α} {r : α} (K : Nat) (h : ∀ k, f (k + K) = some r) : Evt f r :=
  ⟨K, fun k hk => by obtain ⟨j, rfl⟩ : ∃ j, k = j + K := ⟨k - K, by omega⟩; exact h j⟩

/-- A text's bytes as numbers. -/
def ints (s : ByteArray) : List Int := s.data.toList.map fun b => (b.toNat : Int)
theorem ints_len (s : ByteArray) : (ints s).length = s.size := by
  unfold ints; rw [List.length_map, Array.length_toList]; rfl
theorem bt_ints (s : ByteArray) (i : Nat) (h : i < s.size) : (ints s)[i]'(by rw [ints_len]; exact h) = bt s (i : Int) := by
  unfold bt
  simp only [Int.toNat_natCast]
  rw [dif_pos h]
  simp [ints]
  rfl
theorem ints_drop (s : ByteArray) (i : Nat) (h : i < s.size) : (ints s).drop i = bt s (i : Int) :: (ints s).drop (i + 1) := by
  rw [← bt_ints s i h]
  exact List.drop_eq_getElem_cons (by rw [ints_len]; exact h)
theorem ints_inj {s t : ByteArray} (h : ints s = ints t) : s = t := by
  obtain ⟨⟨s⟩⟩ := s
  obtain ⟨⟨t⟩⟩ := t
  have : s = t := by
    unfold ints at h
    refine List.map_inj_right (f := fun b : UInt8 => (b.toNat : Int)) ?_ |>.1 h
    intro a b e
    exact UInt8.toNat_inj.mp (Int.ofNat.inj e)
  rw [this]

/-- A byte that means itself. -/
def lit (c : Int) : S42 := ⟨0, c, ⟨#[]⟩, [], false, true⟩

def Lv (L : List Bool) (i : Nat) : Bool := decide (i < L.length) && rdOf false L (i : Int)
theorem live_at (s : ByteArray) (L : List Bool) (i : Nat) : pat_live.f s L (i : Int) = some (Lv L i) := by
  unfold pat_live.f Lv
  by_cases h : i < L.length
  · rw [if_pos (by omega), if_pos (by omega), decide_eq_true h]; rfl
  · rw [if_neg (by omega), decide_eq_false h]; rfl

/-- What set answers: a row, or nothing. -/
def SetOk (s : ByteArray) (at_ : Nat) (r : Int × Int × ByteArray × List Bool × Bool × Bool × Int) : Prop :=
  (∃ (inn : ByteArray) (ds : List Bool) (no : Bool) (n : Nat), r = (91, 0, inn, ds, no, false, (n : Int)) ∧ 0 < n ∧ at_ + n ≤ s.size ∧ ds.length = inn.size ∧ inn.size ≤ s.size) ∨ r = (0, 0, ⟨#[]⟩, [], false, false, 0)

theorem set_l1 (s : ByteArray) (L : List Bool) (hs : s.size < 4611686018427387) (at_ e : Nat) (he : e < s.size) (ha : at_ < e) (inn : ByteArray) (no : Bool) :
    ∀ d i ds, d + i = e → ds.length + d < 140737488355328 → ∃ ds', ds'.length = ds.length + d ∧ Evt (fun k => pat_set.l1 k (at_ : Int) (e : Int) (i : Int) s L 91 0 inn ds no false) (91, 0, inn, ds', no, false, ((e + 1 - at_ : Nat) : Int)) := by
  intro d
  induction d with
  | zero =>
    intro i ds hd _
    refine ⟨ds, rfl, Evt.succ ?_⟩
    simp only [pat_set.l1]
    simp only [if_neg (show ¬ ((i : Nat) : Int) < (e : Int) by omega), wn e (by omega)]
    rw [wr (by omega) (by omega), show ((e + 1 : Nat) : Int) - (at_ : Int) = ((e + 1 - at_ : Nat) : Int) by omega]
    exact Evt.of _
  | succ d ih =>
    intro i ds hd hds
    obtain ⟨ds', hl, hev⟩ := ih (i + 1) (ds ++ [Lv L i]) (by omega) (by simp; omega)
    refine ⟨ds', by rw [hl]; simp; omega, Evt.succ ?_⟩
    simp only [pat_set.l1]
    simp only [if_pos (show ((i : Nat) : Int) < (e : Int) by omega), live_at, Option.bind_some, if_pos (show ds.length < 140737488355328 by omega), wn i (by omega)]
    exact hev

theorem set_l0 (s : ByteArray) (L : List Bool) (hs : s.size < 140737488355) (at_ fr : Nat) (ha : at_ < fr) (no : Bool) :
    ∀ d i, d + i = s.size ∨ (d = 0 ∧ s.size ≤ i) → fr ≤ i → i ≤ s.size + 2 → ∃ r, SetOk s at_ r ∧ Evt (fun k => pat_set.l0 k (at_ : Int) (i : Int) (fr : Int) s L 91 0 ⟨#[]⟩ [] no false) r := by
  intro d
  induction d with
  | zero =>
    intro i hd hfr hi2
    refine ⟨(0, 0, ⟨#[]⟩, [], false, false, 0), .inr rfl, Evt.succ ?_⟩
    simp only [pat_set.l0, if_neg (show ¬ ((i : Nat) : Int) < (s.size : Int) by omega)]
    exact Evt.of _
  | succ d ih =>
    intro i hd hfr hi2
    have hi : i < s.size := by omega
    obtain ⟨r, hr, hev⟩ := ih (i + 1) (by omega) (by omega) (by omega)
    have no3 : Evt (fun k => pat_set.j3 k (at_ : Int) (i : Int) (fr : Int) false s L 91 0 ⟨#[]⟩ [] no false) r := by
      refine Evt.succ ?_
      simp only [pat_set.j3, if_neg (show ¬ (false = true) by simp), wn i (by omega)]
      exact hev
    by_cases hgt : fr < i
    · by_cases h93 : bt s (i : Int) = 93
      · cases hl : Lv L i with
        | false =>
          refine ⟨r, hr, Evt.succ ?_⟩
          simp only [pat_set.l0, if_pos (show ((i : Nat) : Int) < (s.size : Int) by omega), if_pos (show ((i : Nat) : Int) > (fr : Int) by omega), if_pos (show (0 : Int) ≤ (i : Int) by omega), if_pos h93, live_at, Option.bind_some, hl]
          exact no3
        | true =>
          obtain ⟨ds', hl', hev'⟩ := set_l1 s L (by omega) at_ i hi (by omega) (s.extract fr i) no (i - fr) fr [] (by omega) (by simp; omega)
          refine ⟨_, .inl ⟨s.extract fr i, ds', no, i + 1 - at_, rfl, by omega, by omega, ?_, ?_⟩, Evt.succ ?_⟩
          · rw [hl', ByteArray.size_extract]; simp; omega
          · rw [ByteArray.size_extract]; omega
          · simp only [pat_set.l0, if_pos (show ((i : Nat) : Int) < (s.size : Int) by omega), if_pos (show ((i : Nat) : Int) > (fr : Int) by omega), if_pos (show (0 : Int) ≤ (i : Int) by omega), if_pos h93, live_at, Option.bind_some, hl]
            refine Evt.succ ?_
            simp only [pat_set.j3, if_true, if_pos (show (0 : Int) ≤ (fr : Int) by omega), if_pos (show (fr : Int) ≤ (i : Int) by omega), if_pos (show (i : Int) ≤ (s.size : Int) by omega), Int.toNat_natCast]
            exact hev'
      · refine ⟨r, hr, Evt.succ ?_⟩
        simp only [pat_set.l0, if_pos (show ((i : Nat) : Int) < (s.size : Int) by omega), if_pos (show ((i : Nat) : Int) > (fr : Int) by omega), if_pos (show (0 : Int) ≤ (i : Int) by omega), if_neg h93]
        exact no3
    · refine ⟨r, hr, Evt.succ ?_⟩
      simp only [pat_set.l0, if_pos (show ((i : Nat) : Int) < (s.size : Int) by omega), if_neg (show ¬ ((i : Nat) : Int) > (fr : Int) by omega)]
      exact no3

theorem set_ends (s : ByteArray) (L : List Bool) (hs : s.size < 140737488355) (at_ : Nat) (ha : at_ < s.size) :
    ∃ r, SetOk s at_ r ∧ Evt (fun k => pat_set.f k s L (at_ : Int)) r := by
  have go : ∀ (no : Bool) (i : Nat), at_ < i → i ≤ s.size + 2 → ∃ r, SetOk s at_ r ∧ Evt (fun k => pat_set.j1 k (at_ : Int) (i : Int) s L 91 0 ⟨#[]⟩ no false) r := by
    intro no i hi hi2
    obtain ⟨r, hr, hev⟩ := set_l0 s L hs at_ i hi no (s.size - i) i (by omega) (Nat.le_refl _) hi2
    refine ⟨r, hr, Evt.succ ?_⟩
    simp only [pat_set.j1]
    exact hev
  have g0 : ∀ b : Bool, ∃ r, SetOk s at_ r ∧ Evt (fun k => pat_set.j0 k (at_ : Int) ((at_ + 1 : Nat) : Int) b s L 91 0 ⟨#[]⟩ false false) r := by
    intro b
    cases b with
    | false =>
      obtain ⟨r, hr, hev⟩ := go false (at_ + 1) (by omega) (by omega)
      refine ⟨r, hr, Evt.succ ?_⟩
      simp only [pat_set.j0, if_neg (show ¬ (false = true) by simp)]
      exact hev
    | true =>
      obtain ⟨r, hr, hev⟩ := go true (at_ + 2) (by omega) (by omega)
      refine ⟨r, hr, Evt.succ ?_⟩
      simp only [pat_set.j0, if_true, wn (at_ + 1) (by omega)]
      exact hev
  unfold pat_set.f
  simp only [wn at_ (by omega)]
  by_cases h1 : at_ + 1 < s.size
  · simp only [if_pos (show ((at_ + 1 : Nat) : Int) < (s.size : Int) by omega), if_pos (show (0 : Int) ≤ ((at_ + 1 : Nat) : Int) by omega)]
    by_cases h33 : bt s ((at_ + 1 : Nat) : Int) = 33
    · simp only [if_pos h33, live_at, Option.bind_some]
      exact g0 _
    · simp only [if_neg h33]
      exact g0 _
  · simp only [if_neg (show ¬ ((at_ + 1 : Nat) : Int) < (s.size : Int) by omega)]
    exact g0 _

/-- A step that came of a pattern's text. -/
def StepOk (s : ByteArray) (x : S42) : Prop := (x.f0 = 0 ∨ x.f0 = 42 ∨ x.f0 = 63 ∨ x.f0 = 91) ∧ x.f3.length = x.f2.size ∧ x.f2.size ≤ s.size ∧ (x.f5 = true ↔ x.f0 = 0)

theorem items_l0 (s : ByteArray) (L : List Bool) (hs : s.size < 140737488355) :
    ∀ d i xs, d + i = s.size → xs.length ≤ i → ∃ l, (∀ x ∈ l, StepOk s x) ∧ l.length ≤ d ∧ ((∀ x ∈ l, x.f5 = true) → l = ((ints s).drop i).map lit) ∧ Evt (fun k => pat_items.l0 k xs (i : Int) s L) (xs ++ l) := by
  intro d
  induction d using Nat.strongRecOn with
  | _ d ih =>
    intro i xs hd hx
    by_cases h0 : d = 0
    · refine ⟨[], by simp, by simp, fun _ => ?_, Evt.succ ?_⟩
      · rw [List.drop_eq_nil_of_le (by rw [ints_len]; omega)]; rfl
      · simp only [pat_items.l0, if_neg (show ¬ ((i : Nat) : Int) < (s.size : Int) by omega), List.append_nil]
        exact Evt.of _
    · have hi : i < s.size := by omega
      have hlt : ((i : Nat) : Int) < (s.size : Int) := by omega
      have hge : (0 : Int) ≤ (i : Int) := by omega
      have hmax : xs.length < 2513169434916 := by omega
      -- a step of n bytes
      have one : ∀ (x : S42) (n : Nat), 0 < n → i + n ≤ s.size → StepOk s x → (x.f5 = true → x = lit (bt s (i : Int)) ∧ n = 1) →
          ∃ l, (∀ x ∈ l, StepOk s x) ∧ l.length ≤ d ∧ ((∀ x ∈ l, x.f5 = true) → l = ((ints s).drop i).map lit) ∧ Evt (fun k => pat_items.l0 k (xs ++ [x]) ((i + n : Nat) : Int) s L) (xs ++ l) := by
        intro x n hn hin hok hl
        obtain ⟨l, h1, h2, h3, h4⟩ := ih (d - n) (by omega) (i + n) (xs ++ [x]) (by omega) (by simp; omega)
        refine ⟨x :: l, ?_, by simp; omega, ?_, ?_⟩
        · intro y hy
          rcases List.mem_cons.1 hy with rfl | hy
          · exact hok
          · exact h1 y hy
        · intro hall
          obtain ⟨hx1, rfl⟩ := hl (hall x (by simp))
          rw [h3 (fun y hy => hall y (by simp [hy])), ints_drop s i hi, hx1]
          rfl
        · rw [List.append_assoc] at h4
          exact h4
      have lit1 : ∃ l, (∀ x ∈ l, StepOk s x) ∧ l.length ≤ d ∧ ((∀ x ∈ l, x.f5 = true) → l = ((ints s).drop i).map lit) ∧ Evt (fun k => pat_items.l0 k (xs ++ [lit (bt s (i : Int))]) ((i + 1 : Nat) : Int) s L) (xs ++ l) :=
        one _ 1 (by omega) (by omega) ⟨.inl rfl, rfl, by show 0 ≤ s.size; omega, by simp [lit]⟩ (fun _ => ⟨rfl, rfl⟩)
      cases hl : Lv L i with
      | false =>
        obtain ⟨l, h1, h2, h3, h4⟩ := lit1
        refine ⟨l, h1, h2, h3, Evt.succ ?_⟩
        simp only [pat_items.l0, if_pos hlt, if_pos hge, live_at, Option.bind_some, hl, if_neg (show ¬ (false = true) by simp), if_pos hmax, wn i (by omega)]
        exact h4
      | true =>
        -- the kinds
        have wild : ∀ c : Int, (c = 42 ∨ c = 63) → bt s (i : Int) = c → ∃ l, (∀ x ∈ l, StepOk s x) ∧ l.length ≤ d ∧ ((∀ x ∈ l, x.f5 = true) → l = ((ints s).drop i).map lit) ∧
            Evt (fun k => pat_items.j1 k xs (i : Int) c 1 c true s L 0 c ⟨#[]⟩ false true) (xs ++ l) := by
          intro c hc hb
          obtain ⟨l, h1, h2, h3, h4⟩ := one ⟨c, 0, ⟨#[]⟩, [], false, false⟩ 1 (by omega) (by omega) ⟨by show c = 0 ∨ c = 42 ∨ c = 63 ∨ c = 91; omega, rfl, by show 0 ≤ s.size; omega, ⟨fun h => by simp at h, fun h => by have : c = 0 := h; omega⟩⟩ (by simp)
          refine ⟨l, h1, h2, h3, Evt.succ ?_⟩
          simp only [pat_items.j1, if_true, if_pos hmax, wn i (by omega)]
          exact h4
        by_cases c42 : bt s (i : Int) = 42
        · obtain ⟨l, h1, h2, h3, h4⟩ := wild 42 (.inl rfl) c42
          refine ⟨l, h1, h2, h3, Evt.succ ?_⟩
          simp only [pat_items.l0, if_pos hlt, if_pos hge, live_at, Option.bind_some, hl, if_true, c42, beq_self_eq_true]
          exact h4
        · by_cases c63 : bt s (i : Int) = 63
          · obtain ⟨l, h1, h2, h3, h4⟩ := wild 63 (.inr rfl) c63
            refine ⟨l, h1, h2, h3, Evt.succ ?_⟩
            simp only [pat_items.l0, if_pos hlt, if_pos hge, live_at, Option.bind_some, hl, if_true, c63, beq_self_eq_true, if_neg (show ¬ ((63 : Int) = 42) by omega)]
            exact h4
          · have e63 : (bt s (i : Int) == 63) = false := by simpa using c63
            by_cases c91 : bt s (i : Int) = 91
            · obtain ⟨r, hr, hev⟩ := set_ends s L hs i hi
              rcases hr with ⟨inn, ds, no, n, rfl, hn, hin, hds, hsz⟩ | rfl
              · obtain ⟨l, h1, h2, h3, h4⟩ := one ⟨91, 0, inn, ds, no, false⟩ n hn hin ⟨.inr (.inr (.inr rfl)), hds, hsz, by simp⟩ (by simp)
                refine ⟨l, h1, h2, h3, Evt.succ ?_⟩
                simp only [pat_items.l0, if_pos hlt, if_pos hge, live_at, Option.bind_some, hl, if_true, if_neg c42, e63]
                refine Evt.succ ?_
                simp only [pat_items.j1, if_neg (show ¬ (false = true) by simp), if_pos c91]
                refine Evt.bind hev ?_
                simp only [if_pos (show ((n : Nat) : Int) > 0 by omega), if_pos hmax]
                rw [wr (n := (i : Int) + (n : Int)) (by omega) (by omega)]
                exact h4
              · obtain ⟨l, h1, h2, h3, h4⟩ := lit1
                refine ⟨l, h1, h2, h3, Evt.succ ?_⟩
                simp only [pat_items.l0, if_pos hlt, if_pos hge, live_at, Option.bind_some, hl, if_true, if_neg c42, e63]
                refine Evt.succ ?_
                simp only [pat_items.j1, if_neg (show ¬ (false = true) by simp), if_pos c91]
                refine Evt.bind hev ?_
                simp only [if_neg (show ¬ ((0 : Int) > 0) by omega), if_pos hmax, wn i (by omega)]
                exact h4
            · obtain ⟨l, h1, h2, h3, h4⟩ := lit1
              refine ⟨l, h1, h2, h3, Evt.succ ?_⟩
              simp only [pat_items.l0, if_pos hlt, if_pos hge, live_at, Option.bind_some, hl, if_true, if_neg c42, e63]
              refine Evt.succ ?_
              simp only [pat_items.j1, if_neg (show ¬ (false = true) by simp), if_neg c91, if_pos hmax, wn i (by omega)]
              exact h4

theorem items_end (s : ByteArray) (L : List Bool) (hs : s.size < 140737488355) :
    ∃ l, (∀ x ∈ l, StepOk s x) ∧ l.length ≤ s.size ∧ ((∀ x ∈ l, x.f5 = true) → l = (ints s).map lit) ∧ Evt (fun k => pat_items.f k s L) l := by
  obtain ⟨l, h1, h2, h3, h4⟩ := items_l0 s L hs s.size 0 [] rfl (by simp)
  exact ⟨l, h1, h2, by simpa using h3, by simpa [pat_items.f] using h4⟩

theorem active_l0 (l : List S42) (hl : l.length < 4611686018427387) : ∀ d i, d + i = l.length → Evt (fun k => pat_Active.l0 k l (l.length : Int) (i : Int)) ((l.drop i).any fun x => !x.f5) := by
  intro d
  induction d with
  | zero =>
    intro i hd
    refine Evt.succ ?_
    simp only [pat_Active.l0, if_neg (show ¬ ((i : Nat) : Int) < (l.length : Int) by omega)]
    rw [List.drop_eq_nil_of_le (by omega)]
    exact Evt.of _
  | succ d ih =>
    intro i hd
    have hi : i < l.length := by omega
    have hrd : rd_T42 l (i : Int) = l[i] := by
      unfold rd_T42
      rw [Int.toNat_natCast, List.getD_eq_getElem?_getD, List.getElem?_eq_getElem hi]; rfl
    refine Evt.succ ?_
    simp only [pat_Active.l0, if_pos (show ((i : Nat) : Int) < (l.length : Int) by omega), if_pos (show (0 : Int) ≤ (i : Int) by omega), hrd, wn i (by omega)]
    rw [List.drop_eq_getElem_cons hi, List.any_cons]
    cases h5 : (l[i]).f5 with
    | true => simp only [if_true, Bool.not_true, Bool.false_or]; exact ih (i + 1) (by omega)
    | false => simp only [if_neg (show ¬ (false = true) by simp), Bool.not_false, Bool.true_or]; exact Evt.of _

/-- Whether a pattern is active, by its steps. -/
theorem active_end (s : ByteArray) (L : List Bool) (l : List S42) (hl : l.length < 4611686018427387) (h : Evt (fun k => pat_items.f k s L) l) :
    Evt (fun k => pat_Active.f k s L) (l.any fun x => !x.f5) := by
  unfold pat_Active.f
  refine Evt.bind h ?_
  have := active_l0 l hl l.length 0 (by omega)
  simpa using this
end Go.Proofs.Ytcfimlllgkknhaa.Mt
