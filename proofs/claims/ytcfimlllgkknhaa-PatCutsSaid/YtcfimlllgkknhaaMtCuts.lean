import Derived.Test.YtcfimlllgkknhaaPPatCutsx7
/-
What the matching of steps with a text answers: a row of truths, turned by each step.
-/
namespace Go.Proofs.Ytcfimlllgkknhaa.Mt
open Go.RowKit Go.Proofs.Ytcfimlllgkknhaa.PPatCuts Go.Proofs.YtcfimlllgkknhaaW.PrintWords Go.Proofs.YtcfimlllgkknhaaW.PrintLast
set_option linter.unusedSimpArgs false
set_option linter.unusedVariables false

theorem wr {n : Int} (h0 : -9223372036854775808 ≤ n) (h1 : n < 9223372036854775808) : wrap64 n = n := by
  unfold wrap64; omega
theorem wn (i : Nat) (h : i < 4611686018427387904) : wrap64 ((i : Int) + 1) = ((i + 1 : Nat) : Int) := by
  rw [wr (by omega) (by omega)]; rfl

/-- A row of truths that a list is. -/
structure Rep (n : Nat) (xs : List Bool) (a : Nat → Bool) : Prop where
  len : xs.length = n + 1
  at_ : ∀ i, i ≤ n → rdOf false xs (i : Int) = a i

theorem rd_set (xs : List Bool) (i j : Nat) (b : Bool) (h : i < xs.length) : rdOf false (xs.set i b) (j : Int) = if j = i then b else rdOf false xs (j : Int) := by
  unfold rdOf
  simp only [Int.toNat_natCast, List.getD_eq_getElem?_getD, List.getElem?_set]
  by_cases e : i = j
  · subst e
    simp [h]
  · simp [e, Ne.symm e]

theorem rd_rep (n : Nat) (j : Nat) : rdOf false (List.replicate n false) (j : Int) = false := by
  unfold rdOf
  simp only [Int.toNat_natCast, List.getD_eq_getElem?_getD, List.getElem?_replicate]
  split <;> rfl

/-- One step. -/
def nx (star : Bool) (one : Int → Bool) (t : ByteArray) (a : Nat → Bool) : Nat → Bool
  | 0 => star && a 0
  | i + 1 => if star then a (i + 1) || nx star one t a i else a i && one (bt t (i : Int))

variable (oneB : S42 → Int → Bool)
def stp (t : ByteArray) (a : Nat → Bool) (x : S42) : Nat → Bool := nx (x.f0 == 42) (oneB x) t a

/-- The step x, by its function, from k rounds on. -/
def Ones (N : Nat) (x : S42) : Prop := ∀ k, N ≤ k → ∀ c : Int, pat_item_one.f k x.f0 x.f1 x.f2 x.f3 x.f4 x.f5 c = some (oneB x c)

theorem row_star (t : ByteArray) (l : List S42) (L j : Int) (x : S42) (hx : x.f0 = 42) (n : Nat) (hn : n < 4611686018427387904) (x5 : List Bool) (a : Nat → Bool) (h5 : Rep n x5 a) (k : Nat) :
    ∀ d i x8, d + i = n + 1 → x8.length = n + 1 → (∀ q, q < i → rdOf false x8 (q : Int) = stp oneB t a x q) →
      ∃ y, Rep n y (stp oneB t a x) ∧ pat_matched.l1 (k + d + 1) t x8 l L j x5 (x5.length : Int) (i : Int) x.f0 x.f1 x.f2 x.f3 x.f4 x.f5 = pat_matched.l0 k t y l L (wrap64 (j + 1)) := by
  have e42 : (x.f0 == 42) = true := by simp [hx]
  intro d
  induction d with
  | zero =>
    intro i x8 hd h8 hq
    refine ⟨x8, ⟨h8, fun i' hi' => hq i' (by omega)⟩, ?_⟩
    rw [pat_matched.l1, if_neg (by rw [h5.len]; omega)]
  | succ d ih =>
    intro i x8 hd h8 hq
    have hi : i ≤ n := by omega
    have hlt : ((i : Nat) : Int) < ((x5.length : Nat) : Int) := by rw [h5.len]; omega
    have hlt8 : ((i : Nat) : Int) < ((x8.length : Nat) : Int) := by rw [h8]; omega
    have step : ∀ b : Bool, b = stp oneB t a x i → ∃ y, Rep n y (stp oneB t a x) ∧ pat_matched.l1 (k + d + 1) t (x8.set i b) l L j x5 (x5.length : Int) ((i + 1 : Nat) : Int) x.f0 x.f1 x.f2 x.f3 x.f4 x.f5 = pat_matched.l0 k t y l L (wrap64 (j + 1)) := by
      intro b hb
      refine ih (i + 1) (x8.set i b) (by omega) (by simp [h8]) ?_
      intro q hq'
      rw [rd_set _ _ _ _ (by rw [h8]; omega)]
      by_cases e : q = i
      · rw [if_pos e, e, hb]
      · rw [if_neg e]; exact hq q (by omega)
    rw [show k + (d + 1) + 1 = (k + d + 1) + 1 from by omega, pat_matched.l1, if_pos hlt, if_pos (by omega), if_pos hlt, if_pos hx, wn i (by omega), h5.at_ i hi]
    by_cases ha : a i = true
    · rw [if_pos ha, if_pos hlt8, Int.toNat_natCast]
      refine step true ?_
      unfold stp
      cases i <;> simp [nx, ha, e42]
    · have ha' : a i = false := by simpa using ha
      rw [if_neg ha]
      by_cases h0 : i = 0
      · subst h0
        rw [if_neg (by simp), if_pos hlt8]
        refine step false ?_
        unfold stp
        simp [nx, ha', e42]
      · obtain ⟨p, rfl⟩ : ∃ p, i = p + 1 := ⟨i - 1, by omega⟩
        have e1 : wrap64 (((p + 1 : Nat) : Int) - 1) = (p : Int) := by rw [wr (by omega) (by omega)]; omega
        rw [if_pos (by omega), e1, if_pos (by omega), if_pos (by rw [h8]; omega), if_pos hlt8, Int.toNat_natCast]
        refine step _ ?_
        rw [hq p (by omega)]
        unfold stp
        simp [nx, ha', e42]

theorem row_one (t : ByteArray) (l : List S42) (L j : Int) (x : S42) (hx : x.f0 ≠ 42) (n : Nat) (ht : t.size = n) (hn : n < 4611686018427387904) (x5 : List Bool) (a : Nat → Bool) (h5 : Rep n x5 a) (N : Nat) (hN : Ones oneB N x) (k : Nat) (hk : N ≤ k) :
    ∀ d i x8, d + i = n + 1 → x8.length = n + 1 → (∀ q, q ≤ n → rdOf false x8 (q : Int) = (decide (q ≤ i) && stp oneB t a x q)) →
      ∃ y, Rep n y (stp oneB t a x) ∧ pat_matched.l1 (k + d + 1) t x8 l L j x5 (x5.length : Int) (i : Int) x.f0 x.f1 x.f2 x.f3 x.f4 x.f5 = pat_matched.l0 k t y l L (wrap64 (j + 1)) := by
  have e42 : (x.f0 == 42) = false := by simp [hx]
  intro d
  induction d with
  | zero =>
    intro i x8 hd h8 hq
    refine ⟨x8, ⟨h8, fun i' hi' => ?_⟩, ?_⟩
    · rw [hq i' hi', decide_eq_true (by omega)]; simp
    rw [pat_matched.l1, if_neg (by rw [h5.len]; omega)]
  | succ d ih =>
    intro i x8 hd h8 hq
    have hi : i ≤ n := by omega
    have hlt : ((i : Nat) : Int) < ((x5.length : Nat) : Int) := by rw [h5.len]; omega
    have same : (i < n → stp oneB t a x (i + 1) = false) → ∃ y, Rep n y (stp oneB t a x) ∧ pat_matched.l1 (k + d + 1) t x8 l L j x5 (x5.length : Int) ((i + 1 : Nat) : Int) x.f0 x.f1 x.f2 x.f3 x.f4 x.f5 = pat_matched.l0 k t y l L (wrap64 (j + 1)) := by
      intro hb
      refine ih (i + 1) x8 (by omega) h8 ?_
      intro q hq'
      rw [hq q hq']
      by_cases e : q = i + 1
      · subst e
        rw [hb (by omega)]; simp
      · by_cases e2 : q ≤ i
        · rw [decide_eq_true e2, decide_eq_true (by omega)]
        · rw [decide_eq_false e2, decide_eq_false (by omega)]
    rw [show k + (d + 1) + 1 = (k + d + 1) + 1 from by omega, pat_matched.l1, if_pos hlt, if_pos (by omega), if_pos hlt, if_neg hx, wn i (by omega), h5.at_ i hi]
    by_cases ha : a i = true
    · rw [if_pos ha]
      by_cases hs : i < n
      · rw [if_pos (by rw [ht]; omega), hN (k + d + 1) (by omega), Option.bind_some]
        by_cases ho : oneB x (bt t (i : Int)) = true
        · rw [if_pos ho, if_pos (by omega), if_pos (by rw [h8]; omega), Int.toNat_natCast]
          refine ih (i + 1) _ (by omega) (by simp [h8]) ?_
          intro q hq'
          rw [rd_set _ _ _ _ (by rw [h8]; omega)]
          by_cases e : q = i + 1
          · subst e
            rw [if_pos rfl]
            unfold stp
            simp [nx, e42, ha, ho]
          · rw [if_neg e, hq q hq']
            by_cases e2 : q ≤ i
            · rw [decide_eq_true e2, decide_eq_true (by omega)]
            · rw [decide_eq_false e2, decide_eq_false (by omega)]
        · rw [if_neg ho]
          refine same fun _ => ?_
          unfold stp
          simp [nx, e42, ha, ho]
      · rw [if_neg (by rw [ht]; omega)]
        exact same fun q => absurd q hs
    · rw [if_neg ha]
      refine same fun _ => ?_
      unfold stp
      simp [nx, e42, ha]

theorem rows (t : ByteArray) (n : Nat) (ht : t.size = n) (hn : n < 281474976710656) (N : Nat) (l : List S42) (hl : l.length < 4611686018427387904) (hN : ∀ x ∈ l, Ones oneB N x) (k : Nat) (hk : N ≤ k) :
    ∀ rest pre x5 a, l = pre ++ rest → Rep n x5 a → pat_matched.l0 (k + rest.length * (n + 3) + 1) t x5 l (l.length : Int) (pre.length : Int) = some (rest.foldl (stp oneB t) a n) := by
  intro rest
  induction rest with
  | nil =>
    intro pre x5 a hl' h5
    have : l.length = pre.length := by rw [hl']; simp
    rw [pat_matched.l0, if_neg (by omega), if_pos (by omega), if_pos (by rw [h5.len, ht]; omega), ht, h5.at_ n (Nat.le_refl _)]
    rfl
  | cons x rest ih =>
    intro pre x5 a hl' h5
    have hlen : l.length = pre.length + (rest.length + 1) := by rw [hl']; simp
    have hx : rd_T42 l (pre.length : Int) = x := by
      unfold rd_T42
      rw [hl', Int.toNat_natCast, List.getD_eq_getElem?_getD]
      simp
    have hw : wrap64 ((t.size : Int) + 1) = ((n + 1 : Nat) : Int) := by rw [ht]; exact wn n (by omega)
    have hmem : x ∈ l := by rw [hl']; simp
    have e1 : k + (x :: rest).length * (n + 3) + 1 = (k + rest.length * (n + 3) + 1 + (n + 1) + 1) + 1 := by
      simp [Nat.add_mul]; omega
    have hgoal : ∃ y, Rep n y (stp oneB t a x) ∧ pat_matched.l1 ((k + rest.length * (n + 3) + 1) + (n + 1) + 1) t (List.replicate (n + 1) false) l (l.length : Int) (pre.length : Int) x5 (x5.length : Int) ((0 : Nat) : Int) x.f0 x.f1 x.f2 x.f3 x.f4 x.f5 = pat_matched.l0 (k + rest.length * (n + 3) + 1) t y l (l.length : Int) (wrap64 ((pre.length : Int) + 1)) := by
      by_cases h42 : x.f0 = 42
      · refine row_star oneB t l _ _ x h42 n (by omega) x5 a h5 _ (n + 1) 0 _ (by omega) (by simp) ?_
        intro q hq; omega
      · refine row_one oneB t l _ _ x h42 n ht (by omega) x5 a h5 N (hN x hmem) _ (by omega) (n + 1) 0 _ (by omega) (by simp) ?_
        intro q hq
        rw [rd_rep]
        cases q with
        | zero => unfold stp; simp [nx, h42]
        | succ q => simp
    obtain ⟨y, hy, he⟩ := hgoal
    rw [e1, pat_matched.l0, if_pos (by omega), if_pos (by omega), if_pos (by omega), hw, if_pos (by omega), if_pos (by omega), hx, Int.toNat_natCast]
    refine he.trans ?_
    rw [wn _ (by omega)]
    have := ih (pre ++ [x]) y _ (by rw [hl']; simp) hy
    rw [List.length_append] at this
    exact this

/-- Where a text begins. -/
def a0 : Nat → Bool := fun i => i == 0

theorem matched (t : ByteArray) (hn : t.size < 281474976710656) (N : Nat) (l : List S42) (hl : l.length < 4611686018427387904) (hN : ∀ x ∈ l, Ones oneB N x) (k : Nat) (hk : N ≤ k) :
    pat_matched.f (k + l.length * (t.size + 3) + 1) l t = some (l.foldl (stp oneB t) a0 t.size) := by
  rw [pat_matched.f]
  have hw : wrap64 ((t.size : Int) + 1) = ((t.size + 1 : Nat) : Int) := wn _ (by omega)
  rw [hw, if_pos (by omega), if_pos (by omega), Option.bind_some, Int.toNat_natCast, if_pos (by simp)]
  refine rows oneB t t.size rfl hn N l hl hN k hk l [] _ a0 rfl ⟨by simp, ?_⟩
  intro i hi
  rw [show (0 : Int).toNat = 0 from rfl, rd_set _ _ _ _ (by simp), rd_rep]
  unfold a0
  by_cases e : i = 0 <;> simp [e]
end Go.Proofs.Ytcfimlllgkknhaa.Mt
