import Derived.Test.YtcfimlllgkknhaaPPatTellsx7
import Derived.Test.YtcfimlllgkknhaaPPatTellsx12
import Derived.Test.YtcfimlllgkknhaaPPatTellsx8
import Derived.Test.YtcfimlllgkknhaaPPatTellsx9
import Derived.Test.YtcfimlllgkknhaaPPatTellsx10
import Derived.Test.YtcfimlllgkknhaaPPatTellsx11
namespace Go.Proofs.Ytcfimlllgkknhaa.Mt
open Go.RowKit Go.Proofs.Ytcfimlllgkknhaa.PPatTells Go.Proofs.YtcfimlllgkknhaaW.PrintWords Go.Proofs.YtcfimlllgkknhaaW.PrintLast
set_option linter.unusedSimpArgs false
set_option linter.unusedVariables false

theorem wr {n : Int} (h0 : -9223372036854775808 ≤ n) (h1 : n < 9223372036854775808) : wrap64 n = n := by
  unfold wrap64; omega
theorem wn (i : Nat) (h : i < 4611686018427387904) : wrap64 ((i : Int) + 1) = ((i + 1 : Nat) : Int) := by
  rw [wr (by omega) (by omega)]; rfl

/-- A row of truths that a list is. -/
structure Rep (n : Nat) (xs : List Bool) (a : Nat → Bool) : Prop where
  len : xs.length = n + 1
  at_ : ∀ i, i ≤ n → rdOf false xs (i : Int) = a i

theorem rd_set (xs : List Bool) (i j : Nat) (b : Bool) (h : i < xs.length) : rdOf false (xs.set i b) (j : Int) = if j = i then b else rdOf false xs (j : Int) := by
  unfold rdOf
  simp only [Int.toNat_natCast, List.getD_eq_getElem?_getD, List.getElem?_set]
  by_cases e : i = j
  · subst e
    simp [h]
  · simp [e, Ne.symm e]

theorem rd_rep (n : Nat) (j : Nat) : rdOf false (List.replicate n false) (j : Int) = false := by
  unfold rdOf
  simp only [Int.toNat_natCast, List.getD_eq_getElem?_getD, List.getElem?_replicate]
  split <;> rfl

/-- One step. -/
def nx (star : Bool) (one : Int → Bool) (t : ByteArray) (a : Nat → Bool) : Nat → Bool
  | 0 => star && a 0
  | i + 1 => if star then a (i + 1) || nx star one t a i else a i && one (bt t (i : Int))

variable (oneB : S42 → Int → Bool)
def stp (t : ByteArray) (a : Nat → Bool) (x : S42) : Nat → Bool := nx (x.f0 == 42) (oneB x) t a

/-- The step x, by its function, from k rounds on. -/
def Ones (N : Nat) (x : S42) : Prop := ∀ k, N ≤ k → ∀ c : Int, pat_item_one.f k x.f0 x.f1 x.f2 x.f3 x.f4 x.f5 c = some (oneB x c)

theorem row_star (t : ByteArray) (l : List S42) (L j : Int) (x : S42) (hx : x.f0 = 42) (n : Nat) (hn : n < 4611686018427387904) (x5 : List Bool) (a : Nat → Bool) (h5 : Rep n x5 a) (k : Nat) :
    ∀ d i x8, d + i = n + 1 → x8.length = n + 1 → (∀ q, q < i → rdOf false x8 (q : Int) = stp oneB t a x q) →
      ∃ y, Rep n y (stp oneB t a x) ∧ pat_matched.l1 (k + d + 1) t x8 l L j x5 (x5.length : Int) (i : Int) x.f0 x.f1 x.f2 x.f3 x.f4 x.f5 = pat_matched.l0 k t y l L (wrap64 (j + 1)) := by
  have e42 : (x.f0 == 42) = true := by simp [hx]
  intro d
  induction d with
  | zero =>
    intro i x8 hd h8 hq
    refine ⟨x8, ⟨h8, fun i' hi' => hq i' (by omega)⟩, ?_⟩
    rw [pat_matched.l1, if_neg (by rw [h5.len]; omega)]
  | succ d ih =>
    intro i x8 hd h8 hq
    have hi : i ≤ n := by omega
    have hlt : ((i : Nat) : Int) < ((x5.length : Nat) : Int) := by rw [h5.len]; omega
    have hlt8 : ((i : Nat) : Int) < ((x8.length : Nat) : Int) := by rw [h8]; omega
    have step : ∀ b : Bool, b = stp oneB t a x i → ∃ y, Rep n y (stp oneB t a x) ∧ pat_matched.l1 (k + d + 1) t (x8.set i b) l L j x5 (x5.length : Int) ((i + 1 : Nat) : Int) x.f0 x.f1 x.f2 x.f3 x.f4 x.f5 = pat_matched.l0 k t y l L (wrap64 (j + 1)) := by
      intro b hb
      refine ih (i + 1) (x8.set i b) (by omega) (by simp [h8]) ?_
      intro q hq'
      rw [rd_set _ _ _ _ (by rw [h8]; omega)]
      by_cases e : q = i
      · rw [if_pos e, e, hb]
      · rw [if_neg e]; exact hq q (by omega)
    rw [show k + (d + 1) + 1 = (k + d + 1) + 1 from by omega, pat_matched.l1, if_pos hlt, if_pos (by omega), if_pos hlt, if_pos hx, wn i (by omega), h5.at_ i hi]
    by_cases ha : a i = true
    · rw [if_pos ha, if_pos hlt8, Int.toNat_natCast]
      refine step true ?_
      unfold stp
      cases i <;> simp [nx, ha, e42]
    · have ha' : a i = false := by simpa using ha
      rw [if_neg ha]
      by_cases h0 : i = 0
      · subst h0
        rw [if_neg (by simp), if_pos hlt8]
        refine step false ?_
        unfold stp
        simp [nx, ha', e42]
      · obtain ⟨p, rfl⟩ : ∃ p, i = p + 1 := ⟨i - 1, by omega⟩
        have e1 : wrap64 (((p + 1 : Nat) : Int) - 1) = (p : Int) := by rw [wr (by omega) (by omega)]; omega
        rw [if_pos (by omega), e1, if_pos (by omega), if_pos (by rw [h8]; omega), if_pos hlt8, Int.toNat_natCast]
        refine step _ ?_
        rw [hq p (by omega)]
        unfold stp
        simp [nx, ha', e42]

theorem row_one (t : ByteArray) (l : List S42) (L j : Int) (x : S42) (hx : x.f0 ≠ 42) (n : Nat) (ht : t.size = n) (hn : n < 4611686018427387904) (x5 : List Bool) (a : Nat → Bool) (h5 : Rep n x5 a) (N : Nat) (hN : Ones oneB N x) (k : Nat) (hk : N ≤ k) :
    ∀ d i x8, d + i = n + 1 → x8.length = n + 1 → (∀ q, q ≤ n → rdOf false x8 (q : Int) = (decide (q ≤ i) && stp oneB t a x q)) →
      ∃ y, Rep n y (stp oneB t a x) ∧ pat_matched.l1 (k + d + 1) t x8 l L j x5 (x5.length : Int) (i : Int) x.f0 x.f1 x.f2 x.f3 x.f4 x.f5 = pat_matched.l0 k t y l L (wrap64 (j + 1)) := by
  have e42 : (x.f0 == 42) = false := by simp [hx]
  intro d
  induction d with
  | zero =>
    intro i x8 hd h8 hq
    refine ⟨x8, ⟨h8, fun i' hi' => ?_⟩, ?_⟩
    · rw [hq i' hi', decide_eq_true (by omega)]; simp
    rw [pat_matched.l1, if_neg (by rw [h5.len]; omega)]
  | succ d ih =>
    intro i x8 hd h8 hq
    have hi : i ≤ n := by omega
    have hlt : ((i : Nat) : Int) < ((x5.length : Nat) : Int) := by rw [h5.len]; omega
    have same : (i < n → stp oneB t a x (i + 1) = false) → ∃ y, Rep n y (stp oneB t a x) ∧ pat_matched.l1 (k + d + 1) t x8 l L j x5 (x5.length : Int) ((i + 1 : Nat) : Int) x.f0 x.f1 x.f2 x.f3 x.f4 x.f5 = pat_matched.l0 k t y l L (wrap64 (j + 1)) := by
      intro hb
      refine ih (i + 1) x8 (by omega) h8 ?_
      intro q hq'
      rw [hq q hq']
      by_cases e : q = i + 1
      · subst e
        rw [hb (by omega)]; simp
      · by_cases e2 : q ≤ i
        · rw [decide_eq_true e2, decide_eq_true (by omega)]
        · rw [decide_eq_false e2, decide_eq_false (by omega)]
    rw [show k + (d + 1) + 1 = (k + d + 1) + 1 from by omega, pat_matched.l1, if_pos hlt, if_pos (by omega), if_pos hlt, if_neg hx, wn i (by omega), h5.at_ i hi]
    by_cases ha : a i = true
    · rw [if_pos ha]
      by_cases hs : i < n
      · rw [if_pos (by rw [ht]; omega), hN (k + d + 1) (by omega), Option.bind_some]
        by_cases ho : oneB x (bt t (i : Int)) = true
        · rw [if_pos ho, if_pos (by omega), if_pos (by rw [h8]; omega), Int.toNat_natCast]
          refine ih (i + 1) _ (by omega) (by simp [h8]) ?_
          intro q hq'
          rw [rd_set _ _ _ _ (by rw [h8]; omega)]
          by_cases e : q = i + 1
          · subst e
            rw [if_pos rfl]
            unfold stp
            simp [nx, e42, ha, ho]
          · rw [if_neg e, hq q hq']
            by_cases e2 : q ≤ i
            · rw [decide_eq_true e2, decide_eq_true (by omega)]
            · rw [decide_eq_false e2, decide_eq_false (by omega)]
        · rw [if_neg ho]
          refine same fun _ => ?_
          unfold stp
          simp [nx, e42, ha, ho]
      · rw [if_neg (by rw [ht]; omega)]
        exact same fun q => absurd q hs
    · rw [if_neg ha]
      refine same fun _ => ?_
      unfold stp
      simp [nx, e42, ha]

theorem rows (t : ByteArray) (n : Nat) (ht : t.size = n) (hn : n < 281474976710656) (N : Nat) (l : List S42) (hl : l.length < 4611686018427387904) (hN : ∀ x ∈ l, Ones oneB N x) (k : Nat) (hk : N ≤ k) :
    ∀ rest pre x5 a, l = pre ++ rest → Rep n x5 a → pat_matched.l0 (k + rest.length * (n + 3) + 1) t x5 l (l.length : Int) (pre.length : Int) = some (rest.foldl (stp oneB t) a n) := by
  intro rest
  induction rest with
  | nil =>
    intro pre x5 a hl' h5
    have : l.length = pre.length := by rw [hl']; simp
    rw [pat_matched.l0, if_neg (by omega), if_pos (by omega), if_pos (by rw [h5.len, ht]; omega), ht, h5.at_ n (Nat.le_refl _)]
    rfl
  | cons x rest ih =>
    intro pre x5 a hl' h5
    have hlen : l.length = pre.length + (rest.length + 1) := by rw [hl']; simp
    have hx : rd_T42 l (pre.length : Int) = x := by
      unfold rd_T42
      rw [hl', Int.toNat_natCast, List.getD_eq_getElem?_getD]
      simp
    have hw : wrap64 ((t.size : Int) + 1) = ((n + 1 : Nat) : Int) := by rw [ht]; exact wn n (by omega)
    have hmem : x ∈ l := by rw [hl']; simp
    have e1 : k + (x :: rest).length * (n + 3) + 1 = (k + rest.length * (n + 3) + 1 + (n + 1) + 1) + 1 := by
      simp [Nat.add_mul]; omega
    have hgoal : ∃ y, Rep n y (stp oneB t a x) ∧ pat_matched.l1 ((k + rest.length * (n + 3) + 1) + (n + 1) + 1) t (List.replicate (n + 1) false) l (l.length : Int) (pre.length : Int) x5 (x5.length : Int) ((0 : Nat) : Int) x.f0 x.f1 x.f2 x.f3 x.f4 x.f5 = pat_matched.l0 (k + rest.length * (n + 3) + 1) t y l (l.length : Int) (wrap64 ((pre.length : Int) + 1)) := by
      by_cases h42 : x.f0 = 42
      · refine row_star oneB t l _ _ x h42 n (by omega) x5 a h5 _ (n + 1) 0 _ (by omega) (by simp) ?_
        intro q hq; omega
      · refine row_one oneB t l _ _ x h42 n ht (by omega) x5 a h5 N (hN x hmem) _ (by omega) (n + 1) 0 _ (by omega) (by simp) ?_
        intro q hq
        rw [rd_rep]
        cases q with
        | zero => unfold stp; simp [nx, h42]
        | succ q => simp
    obtain ⟨y, hy, he⟩ := hgoal
    rw [e1, pat_matched.l0, if_pos (by omega), if_pos (by omega), if_pos (by omega), hw, if_pos (by omega), if_pos (by omega), hx, Int.toNat_natCast]
    refine he.trans ?_
    rw [wn _ (by omega)]
    have := ih (pre ++ [x]) y _ (by rw [hl']; simp) hy
    rw [List.length_append] at this
    exact this

/-- Where a text begins. -/
def a0 : Nat → Bool := fun i => i == 0

theorem matched (t : ByteArray) (hn : t.size < 281474976710656) (N : Nat) (l : List S42) (hl : l.length < 4611686018427387904) (hN : ∀ x ∈ l, Ones oneB N x) (k : Nat) (hk : N ≤ k) :
    pat_matched.f (k + l.length * (t.size + 3) + 1) l t = some (l.foldl (stp oneB t) a0 t.size) := by
  rw [pat_matched.f]
  have hw : wrap64 ((t.size : Int) + 1) = ((t.size + 1 : Nat) : Int) := wn _ (by omega)
  rw [hw, if_pos (by omega), if_pos (by omega), Option.bind_some, Int.toNat_natCast, if_pos (by simp)]
  refine rows oneB t t.size rfl hn N l hl hN k hk l [] _ a0 rfl ⟨by simp, ?_⟩
  intro i hi
  rw [show (0 : Int).toNat = 0 from rfl, rd_set _ _ _ _ (by simp), rd_rep]
  unfold a0
  by_cases e : i = 0 <;> simp [e]
end Go.Proofs.Ytcfimlllgkknhaa.Mt


namespace Go.Proofs.Ytcfimlllgkknhaa.Mt
open Go.RowKit Go.Proofs.Ytcfimlllgkknhaa.PPatTells Go.Proofs.YtcfimlllgkknhaaW.PrintWords Go.Proofs.YtcfimlllgkknhaaW.PrintLast
set_option linter.unusedSimpArgs false
set_option linter.unusedVariables false

/-- From some number of rounds on the answer is r. -/
def Evt {α : Type} (f : Nat → Option α) (r : α) : Prop := ∃ K, ∀ k, K ≤ k → f k = some r
theorem Evt.succ {α : Type} {f : Nat → Option α} {r : α} (h : Evt (fun k => f (k + 1)) r) : Evt f r := by
  obtain ⟨K, h⟩ := h
  refine ⟨K + 1, fun k hk => ?_⟩
  obtain ⟨j, rfl⟩ : ∃ j, k = j + 1 := ⟨k - 1, by omega⟩
  exact h j (by omega)
theorem Evt.of {α : Type} (r : α) : Evt (fun _ => some r) r := ⟨0, fun _ _ => rfl⟩
theorem Evt.bind {α β : Type} {f : Nat → Option α} {x : α} {g : α → Nat → Option β} {r : β} (hf : Evt f x) (hg : Evt (g x) r) : Evt (fun k => (f k).bind fun y => g y k) r := by
  obtain ⟨K, hf⟩ := hf
  obtain ⟨J, hg⟩ := hg
  refine ⟨K + J, fun k hk => ?_⟩
  show (f k).bind _ = _
  rw [hf k (by omega), Option.bind_some]
  exact hg k (by omega)
theorem Evt.ex {α : Type} {f : Nat → Option α} {r : α} (h : Evt f r) : ∃ k, f k = some r := by
  obtain ⟨K, h⟩ := h
  exact ⟨K, h K (Nat.le_refl _)⟩
theorem Evt.from {α : Type} {f : Nat → Option α} {r : α} (K : Nat) (h : ∀ k, f (k + K) = some r) : Evt f r :=
  ⟨K, fun k hk => by obtain ⟨j, rfl⟩ : ∃ j, k = j + K := ⟨k - K, by omega⟩; exact h j⟩

/-- A byte that means itself. -/
def lit (c : Int) : S42 := ⟨0, c, ⟨#[]⟩, [], false, true⟩

def Lv (L : List Bool) (i : Nat) : Bool := decide (i < L.length) && rdOf false L (i : Int)
theorem live_at (s : ByteArray) (L : List Bool) (i : Nat) : pat_live.f s L (i : Int) = some (Lv L i) := by
  unfold pat_live.f Lv
  by_cases h : i < L.length
  · rw [if_pos (by omega), if_pos (by omega), decide_eq_true h]; rfl
  · rw [if_neg (by omega), decide_eq_false h]; rfl

/-- A step that came of a pattern's text. -/
def StepOk (s : ByteArray) (x : S42) : Prop := (x.f0 = 0 ∨ x.f0 = 42 ∨ x.f0 = 63 ∨ x.f0 = 91) ∧ x.f3.length = x.f2.size ∧ x.f2.size ≤ s.size ∧ (x.f5 = true ↔ x.f0 = 0)

theorem active_l0 (l : List S42) (hl : l.length < 4611686018427387) : ∀ d i, d + i = l.length → Evt (fun k => pat_Active.l0 k l (l.length : Int) (i : Int)) ((l.drop i).any fun x => !x.f5) := by
  intro d
  induction d with
  | zero =>
    intro i hd
    refine Evt.succ ?_
    simp only [pat_Active.l0, if_neg (show ¬ ((i : Nat) : Int) < (l.length : Int) by omega)]
    rw [List.drop_eq_nil_of_le (by omega)]
    exact Evt.of _
  | succ d ih =>
    intro i hd
    have hi : i < l.length := by omega
    have hrd : rd_T42 l (i : Int) = l[i] := by
      unfold rd_T42
      rw [Int.toNat_natCast, List.getD_eq_getElem?_getD, List.getElem?_eq_getElem hi]; rfl
    refine Evt.succ ?_
    simp only [pat_Active.l0, if_pos (show ((i : Nat) : Int) < (l.length : Int) by omega), if_pos (show (0 : Int) ≤ (i : Int) by omega), hrd, wn i (by omega)]
    rw [List.drop_eq_getElem_cons hi, List.any_cons]
    cases h5 : (l[i]).f5 with
    | true => simp only [if_true, Bool.not_true, Bool.false_or]; exact ih (i + 1) (by omega)
    | false => simp only [if_neg (show ¬ (false = true) by simp), Bool.not_false, Bool.true_or]; exact Evt.of _

/-- Whether a pattern is active, by its steps. -/
theorem active_end (s : ByteArray) (L : List Bool) (l : List S42) (hl : l.length < 4611686018427387) (h : Evt (fun k => pat_items.f k s L) l) :
    Evt (fun k => pat_Active.f k s L) (l.any fun x => !x.f5) := by
  unfold pat_Active.f
  refine Evt.bind h ?_
  have := active_l0 l hl l.length 0 (by omega)
  simpa using this
end Go.Proofs.Ytcfimlllgkknhaa.Mt


namespace Go.Proofs.Ytcfimlllgkknhaa.Mt
open Go.RowKit Go.Proofs.Ytcfimlllgkknhaa.PPatTells Go.Proofs.YtcfimlllgkknhaaW.PrintWords Go.Proofs.YtcfimlllgkknhaaW.PrintLast
set_option linter.unusedSimpArgs false
set_option linter.unusedVariables false

theorem match_of (s : ByteArray) (L : List Bool) (t : ByteArray) (l : List S42) (r : Bool) (hi : Evt (fun k => pat_items.f k s L) l) (hm : Evt (fun k => pat_matched.f k l t) r) : Evt (fun k => pat_Match.f k s L t) r := by
  unfold pat_Match.f
  refine Evt.bind hi ?_
  have := Evt.bind (g := fun y _ => some y) hm (Evt.of r)
  exact this

theorem raw_l0 (s : ByteArray) (hs : s.size < 1000000) : ∀ d i, d + i = s.size → Evt (fun k => pat_Raw.l0 k (s.size : Int) (i : Int) s (List.replicate i true)) (s, List.replicate s.size true) := by
  intro d
  induction d with
  | zero =>
    intro i h
    refine Evt.succ ?_
    simp only [pat_Raw.l0, if_neg (show ¬ ((i : Nat) : Int) < (s.size : Int) by omega)]
    rw [show i = s.size by omega]
    exact Evt.of _
  | succ d ih =>
    intro i h
    refine Evt.succ ?_
    simp only [pat_Raw.l0, if_pos (show ((i : Nat) : Int) < (s.size : Int) by omega), if_pos (show (List.replicate i true).length < 140737488355328 by rw [List.length_replicate]; omega), wn i (by omega)]
    rw [show List.replicate i true ++ [true] = List.replicate (i + 1) true by rw [List.replicate_succ']]
    exact ih (i + 1) (by omega)
theorem raw_end (s : ByteArray) (hs : s.size < 1000000) : Evt (fun k => pat_Raw.f k s) (s, List.replicate s.size true) := raw_l0 s hs s.size 0 (by omega)

theorem awake_60 : conchlaw6_awake.f 60 = some true := by kernel_rfl
theorem awake_end : Evt (fun k => conchlaw6_awake.f k) true := by
  refine ⟨60, fun k hk => ?_⟩
  obtain ⟨j, rfl⟩ : ∃ j, k = 60 + j := ⟨k - 60, by omega⟩
  clear hk
  induction j with
  | zero => exact awake_60
  | succ j ih => exact conchlaw6_awake.mono (60 + j) true ih
end Go.Proofs.Ytcfimlllgkknhaa.Mt


namespace Go.Proofs.Ytcfimlllgkknhaa.Mt
open Go.RowKit Go.Proofs.Ytcfimlllgkknhaa.PPatTells Go.Proofs.YtcfimlllgkknhaaW.PrintWords Go.Proofs.YtcfimlllgkknhaaW.PrintLast
set_option linter.unusedSimpArgs false
set_option linter.unusedVariables false

/-- A row answers. -/
theorem has_ends (inn : ByteArray) (ds : List Bool) (hd : ds.length = inn.size) (hs : inn.size < 1000) (f0 f1 : Int) (no lt : Bool) (c : Int) :
    ∀ d i, inn.size ≤ d + i → ∃ r, ∀ k, 3 * d + 1 ≤ k → pat_item_has.l0 k c (i : Int) f0 f1 inn ds no lt = some r := by
  intro d
  induction d using Nat.strongRecOn with
  | _ d ih =>
    intro i h
    by_cases hi : i < inn.size
    · obtain ⟨d, rfl⟩ : ∃ e, d = e + 1 := ⟨d - 1, by omega⟩
      obtain ⟨r1, hr1⟩ := ih d (by omega) (i + 1) (by omega)
      obtain ⟨r3, hr3⟩ := ih d (by omega) (i + 3) (by omega)
      have w1 : wrap64 ((i : Int) + 1) = ((i + 1 : Nat) : Int) := wn i (by omega)
      have w2 : wrap64 ((i : Int) + 2) = ((i + 2 : Nat) : Int) := wr (by omega) (by omega)
      have w3 : wrap64 (((i + 2 : Nat) : Int) + 1) = ((i + 3 : Nat) : Int) := wn (i + 2) (by omega)
      have j2 : ∀ b : Bool, ∃ r, ∀ k, 3 * d + 1 + 1 ≤ k → pat_item_has.j2 k c (i : Int) b f0 f1 inn ds no lt = some r := by
        intro b
        cases b with
        | true =>
          refine ⟨true, fun k hk => ?_⟩
          obtain ⟨k, rfl⟩ : ∃ e, k = e + 1 := ⟨k - 1, by omega⟩
          simp only [pat_item_has.j2, if_true]
        | false =>
          refine ⟨r3, fun k hk => ?_⟩
          obtain ⟨k, rfl⟩ : ∃ e, k = e + 1 := ⟨k - 1, by omega⟩
          simp only [pat_item_has.j2, if_neg (show ¬ (false = true) by simp), w2, w3]
          exact hr3 k (by omega)
      have j1f : ∃ r, ∀ k, 3 * d + 1 + 2 ≤ k → pat_item_has.j1 k c (i : Int) false f0 f1 inn ds no lt = some r := by
        by_cases hb : bt inn (i : Int) = c
        · refine ⟨true, fun k hk => ?_⟩
          obtain ⟨k, rfl⟩ : ∃ e, k = e + 1 := ⟨k - 1, by omega⟩
          simp only [pat_item_has.j1, if_neg (show ¬ (false = true) by simp), if_pos (show (0 : Int) ≤ (i : Int) by omega), if_pos (show ((i : Nat) : Int) < (inn.size : Int) by omega), if_pos hb]
        · refine ⟨r1, fun k hk => ?_⟩
          obtain ⟨k, rfl⟩ : ∃ e, k = e + 1 := ⟨k - 1, by omega⟩
          simp only [pat_item_has.j1, if_neg (show ¬ (false = true) by simp), if_pos (show (0 : Int) ≤ (i : Int) by omega), if_pos (show ((i : Nat) : Int) < (inn.size : Int) by omega), if_neg hb, w1]
          exact hr1 k (by omega)
      have j1t : i + 2 < inn.size → ∃ r, ∀ k, 3 * d + 1 + 2 ≤ k → pat_item_has.j1 k c (i : Int) true f0 f1 inn ds no lt = some r := by
        intro h2
        by_cases hb : bt inn (i : Int) ≤ c
        · obtain ⟨r, hr⟩ := j2 (decide (c ≤ bt inn ((i + 2 : Nat) : Int)))
          refine ⟨r, fun k hk => ?_⟩
          obtain ⟨k, rfl⟩ : ∃ e, k = e + 1 := ⟨k - 1, by omega⟩
          simp only [pat_item_has.j1, if_true, if_pos (show (0 : Int) ≤ (i : Int) by omega), if_pos (show ((i : Nat) : Int) < (inn.size : Int) by omega), if_pos hb, w2, if_pos (show (0 : Int) ≤ ((i + 2 : Nat) : Int) by omega), if_pos (show ((i + 2 : Nat) : Int) < (inn.size : Int) by omega)]
          exact hr k (by omega)
        · obtain ⟨r, hr⟩ := j2 false
          refine ⟨r, fun k hk => ?_⟩
          obtain ⟨k, rfl⟩ : ∃ e, k = e + 1 := ⟨k - 1, by omega⟩
          simp only [pat_item_has.j1, if_true, if_pos (show (0 : Int) ≤ (i : Int) by omega), if_pos (show ((i : Nat) : Int) < (inn.size : Int) by omega), if_neg hb]
          exact hr k (by omega)
      by_cases h2 : i + 2 < inn.size
      · by_cases hb : bt inn ((i + 1 : Nat) : Int) = 45
        · have go : ∀ b : Bool, rdOf false ds ((i + 1 : Nat) : Int) = b → ∃ r, ∀ k, 3 * (d + 1) + 1 ≤ k → pat_item_has.l0 k c (i : Int) f0 f1 inn ds no lt = some r := by
            intro b hb2
            obtain ⟨r, hr⟩ : ∃ r, ∀ k, 3 * d + 1 + 2 ≤ k → pat_item_has.j1 k c (i : Int) b f0 f1 inn ds no lt = some r := by
              cases b with
              | true => exact j1t h2
              | false => exact j1f
            refine ⟨r, fun k hk => ?_⟩
            obtain ⟨k, rfl⟩ : ∃ e, k = e + 1 := ⟨k - 1, by omega⟩
            simp only [pat_item_has.l0, if_pos (show ((i : Nat) : Int) < (inn.size : Int) by omega), w2, if_pos (show ((i + 2 : Nat) : Int) < (inn.size : Int) by omega), w1, if_pos (show (0 : Int) ≤ ((i + 1 : Nat) : Int) by omega), if_pos (show ((i + 1 : Nat) : Int) < (inn.size : Int) by omega), if_pos hb,
              if_pos (show ((i + 1 : Nat) : Int) < (ds.length : Int) by omega), hb2]
            exact hr k (by omega)
          exact go _ rfl
        · obtain ⟨r, hr⟩ := j1f
          refine ⟨r, fun k hk => ?_⟩
          obtain ⟨k, rfl⟩ : ∃ e, k = e + 1 := ⟨k - 1, by omega⟩
          simp only [pat_item_has.l0, if_pos (show ((i : Nat) : Int) < (inn.size : Int) by omega), w2, if_pos (show ((i + 2 : Nat) : Int) < (inn.size : Int) by omega), w1, if_pos (show (0 : Int) ≤ ((i + 1 : Nat) : Int) by omega), if_pos (show ((i + 1 : Nat) : Int) < (inn.size : Int) by omega), if_neg hb]
          exact hr k (by omega)
      · obtain ⟨r, hr⟩ := j1f
        refine ⟨r, fun k hk => ?_⟩
        obtain ⟨k, rfl⟩ : ∃ e, k = e + 1 := ⟨k - 1, by omega⟩
        simp only [pat_item_has.l0, if_pos (show ((i : Nat) : Int) < (inn.size : Int) by omega), w2, if_neg (show ¬ ((i + 2 : Nat) : Int) < (inn.size : Int) by omega)]
        exact hr k (by omega)
    · refine ⟨false, fun k hk => ?_⟩
      obtain ⟨k, rfl⟩ : ∃ e, k = e + 1 := ⟨k - 1, by omega⟩
      simp only [pat_item_has.l0, if_neg (show ¬ ((i : Nat) : Int) < (inn.size : Int) by omega)]

/-- What a step answers. -/
def oneE (x : S42) (c : Int) : Bool := (pat_item_one.f 4000 x.f0 x.f1 x.f2 x.f3 x.f4 x.f5 c).getD false
theorem ones_all (s : ByteArray) (hs : s.size < 1000) (x : S42) (h : StepOk s x) : Ones oneE 4000 x := by
  intro k hk c
  obtain ⟨h0, h3, h2, -⟩ := h
  obtain ⟨r, hr⟩ := has_ends x.f2 x.f3 h3 (by omega) x.f0 x.f1 x.f4 x.f5 c x.f2.size 0 (by omega)
  have go : ∃ b, ∀ k, 4000 ≤ k → pat_item_one.f k x.f0 x.f1 x.f2 x.f3 x.f4 x.f5 c = some b := by
    rcases h0 with e | e | e | e
    · refine ⟨x.f1 == c, fun k hk => ?_⟩
      obtain ⟨j, rfl⟩ : ∃ j, k = j + 1 := ⟨k - 1, by omega⟩
      simp [pat_item_one.f, pat_item_one.j0, e]
    · refine ⟨true, fun k hk => ?_⟩
      obtain ⟨j, rfl⟩ : ∃ j, k = j + 1 := ⟨k - 1, by omega⟩
      simp [pat_item_one.f, pat_item_one.j0, e]
    · refine ⟨true, fun k hk => ?_⟩
      obtain ⟨j, rfl⟩ : ∃ j, k = j + 1 := ⟨k - 1, by omega⟩
      simp [pat_item_one.f, pat_item_one.j0, e]
    · refine ⟨r != x.f4, fun k hk => ?_⟩
      obtain ⟨j, rfl⟩ : ∃ j, k = j + 1 := ⟨k - 1, by omega⟩
      have this : pat_item_has.l0 j c 0 91 x.f1 x.f2 x.f3 x.f4 x.f5 = some r := by
        have := hr j (by omega)
        rw [e] at this
        exact this
      simp only [pat_item_one.f, pat_item_one.j0, e, pat_item_has.f, if_neg (show ¬ ((91 : Int) = 42) by omega), if_neg (show ¬ (((91 : Int) == 63) = true) by simp), if_true, this, Option.bind_some]
  obtain ⟨b, hb⟩ := go
  rw [hb k hk]
  unfold oneE
  rw [hb 4000 (Nat.le_refl _)]
  rfl

/-- What a pattern's steps answer at a text. -/
def ansE (l : List S42) (t : ByteArray) : Bool := l.foldl (stp oneE t) a0 t.size
theorem matched_end (s : ByteArray) (hs : s.size < 1000) (l : List S42) (hl : l.length ≤ s.size) (h : ∀ x ∈ l, StepOk s x) (t : ByteArray) (ht : t.size < 1000) : Evt (fun k => pat_matched.f k l t) (ansE l t) := by
  have hm := fun k => matched oneE t (by omega) 4000 l (by omega) (fun x hx => ones_all s hs x (h x hx)) (k + 4000) (by omega)
  refine Evt.from (4000 + l.length * (t.size + 3) + 1) fun k => ?_
  have := hm k
  rw [show k + (4000 + l.length * (t.size + 3) + 1) = k + 4000 + l.length * (t.size + 3) + 1 from by omega]
  exact this
theorem match_end (s : ByteArray) (hs : s.size < 1000) (L : List Bool) (l : List S42) (hi : Evt (fun k => pat_items.f k s L) l) (hl : l.length ≤ s.size) (h : ∀ x ∈ l, StepOk s x) (t : ByteArray) (ht : t.size < 1000) :
    Evt (fun k => pat_Match.f k s L t) (ansE l t) := match_of s L t l _ hi (matched_end s hs l hl h t ht)

/-- Where Cut looks in its round j. -/
def placeOf (front long : Bool) (n j : Nat) : Nat := if front = long then n - j else j
def partOf (front : Bool) (t : ByteArray) (p : Nat) : ByteArray := if front then t.extract 0 p else t.extract p t.size
def leftOf (front : Bool) (t : ByteArray) (p : Nat) : ByteArray := if front then t.extract p t.size else t.extract 0 p

theorem cut_step (s : ByteArray) (hs : s.size < 1000) (l : List S42) (hl : l.length ≤ s.size) (h : ∀ x ∈ l, StepOk s x) (t : ByteArray) (ht : t.size < 1000) (front long : Bool) (j : Nat) (hj : j ≤ t.size) (r : ByteArray)
    (hr : if ansE l (partOf front t (placeOf front long t.size j)) = true then r = leftOf front t (placeOf front long t.size j) else Evt (fun k => pat_Cut.l0 k t front long l ((t.size + 1 : Nat) : Int) ((j + 1 : Nat) : Int)) r) :
    Evt (fun k => pat_Cut.l0 k t front long l ((t.size + 1 : Nat) : Int) (j : Int)) r := by
  have w1 : wrap64 ((j : Int) + 1) = ((j + 1 : Nat) : Int) := wn j (by omega)
  have key : ∀ q : Nat, q ≤ t.size → (q = if long then t.size - j else j) → Evt (fun k => pat_Cut.j1 k t front long l (q : Int) ((t.size + 1 : Nat) : Int) (j : Int)) r := by
    intro q hq hq2
    have w2 : wrap64 ((t.size : Int) - (q : Int)) = ((t.size - q : Nat) : Int) := by rw [wr (by omega) (by omega)]; omega
    refine Evt.succ ?_
    cases front with
    | true =>
      have e : placeOf true long t.size j = q := by
        unfold placeOf
        cases long <;> simp_all
      rw [e] at hr
      have hm := matched_end s hs l hl h (t.extract 0 q) (by rw [ByteArray.size_extract]; omega)
      simp only [pat_Cut.j1, if_true, if_pos (show (0 : Int) ≤ (q : Int) by omega), if_pos (show ((q : Nat) : Int) ≤ (t.size : Int) by omega), Int.toNat_natCast]
      refine Evt.bind hm ?_
      refine Evt.succ ?_
      have e2 : partOf true t q = t.extract 0 q := rfl
      rw [e2] at hr
      by_cases ha : ansE l (t.extract 0 q) = true
      · rw [if_pos ha] at hr
        subst hr
        simp only [ha, pat_Cut.j2, if_true, if_pos (show (0 : Int) ≤ (q : Int) by omega), if_pos (show ((q : Nat) : Int) ≤ (t.size : Int) by omega), Int.toNat_natCast]
        exact Evt.of _
      · rw [if_neg ha] at hr
        simp only [ha, pat_Cut.j2, if_neg (show ¬ (false = true) by simp), if_true, w1]
        exact hr
    | false =>
      have e : placeOf false long t.size j = t.size - q := by
        unfold placeOf
        cases long <;> simp_all <;> omega
      rw [e] at hr
      have hm := matched_end s hs l hl h (t.extract (t.size - q) t.size) (by rw [ByteArray.size_extract]; omega)
      simp only [pat_Cut.j1, if_neg (show ¬ (false = true) by simp)]
      refine Evt.succ ?_
      simp only [pat_Cut.j2, if_neg (show ¬ (false = true) by simp), w2, if_pos (show (0 : Int) ≤ ((t.size - q : Nat) : Int) by omega), if_pos (show ((t.size - q : Nat) : Int) ≤ (t.size : Int) by omega), Int.toNat_natCast]
      refine Evt.bind hm ?_
      have e2 : partOf false t (t.size - q) = t.extract (t.size - q) t.size := rfl
      rw [e2] at hr
      by_cases ha : ansE l (t.extract (t.size - q) t.size) = true
      · rw [if_pos ha] at hr
        subst hr
        simp only [ha, if_true]
        exact Evt.of _
      · rw [if_neg ha] at hr
        simp only [ha, if_neg (show ¬ (false = true) by simp), w1]
        exact hr
  refine Evt.succ ?_
  cases long with
  | true =>
    have w3 : wrap64 ((t.size : Int) - (j : Int)) = ((t.size - j : Nat) : Int) := by rw [wr (by omega) (by omega)]; omega
    simp only [pat_Cut.l0, if_pos (show ((j : Nat) : Int) < ((t.size + 1 : Nat) : Int) by omega), if_true, w3]
    exact key (t.size - j) (by omega) rfl
  | false =>
    simp only [pat_Cut.l0, if_pos (show ((j : Nat) : Int) < ((t.size + 1 : Nat) : Int) by omega), if_neg (show ¬ (false = true) by simp)]
    exact key j hj rfl

end Go.Proofs.Ytcfimlllgkknhaa.Mt


namespace Go.Proofs.Ytcfimlllgkknhaa.Mt
open Go.RowKit Go.Proofs.Ytcfimlllgkknhaa.PPatTells Go.Proofs.YtcfimlllgkknhaaW.PrintWords Go.Proofs.YtcfimlllgkknhaaW.PrintLast
set_option linter.unusedSimpArgs false
set_option linter.unusedVariables false

theorem bt_low (s : ByteArray) (i : Int) : 0 ≤ bt s i := by
  unfold bt
  split
  · exact Int.natCast_nonneg _
  · exact Int.le_refl _
theorem tmod_in (b : Int) (h : 0 ≤ b) (n : Nat) (hn : 0 < n) : ∃ q : Nat, Int.tmod b (n : Int) = (q : Int) ∧ q < n := by
  obtain ⟨m, rfl⟩ := Int.eq_ofNat_of_zero_le h
  exact ⟨m % n, rfl, Nat.mod_lt _ hn⟩
theorem tame_l0 (a : ByteArray) (ha : a.size < 1000000) : ∀ (d i : Nat) (x : ByteArray), d + i = 12 → x.size = i → ∃ r : ByteArray, r.size ≤ 12 ∧ Evt (fun k => conchlaw6_Tame.l0 k a x (i : Int)) r := by
  intro d
  induction d with
  | zero =>
    intro i x hd hx
    refine ⟨x, by omega, Evt.succ ?_⟩
    by_cases h1 : (i : Int) < (a.size : Int)
    · simp only [conchlaw6_Tame.l0, if_pos h1, if_neg (show ¬ ((i : Nat) : Int) < 12 by omega)]
      exact Evt.of _
    · simp only [conchlaw6_Tame.l0, if_neg h1]
      exact Evt.of _
  | succ d ih =>
    intro i x hd hx
    by_cases h1 : (i : Int) < (a.size : Int)
    · obtain ⟨q, hq, hq2⟩ := tmod_in (bt a (i : Int)) (bt_low a _) 10 (by omega)
      have hq' : Int.tmod (bt a (i : Int)) 10 = (q : Int) := hq
      have h5 : ((q : Int) + 1) % 256 = ((q + 1 : Nat) : Int) := by omega
      have h6 : ((⟨#[97, 98, 42, 63, 91, 93, 33, 45, 97, 99]⟩ : ByteArray).extract q (q + 1)).size = 1 := by
        rw [ByteArray.size_extract]
        show min (q + 1) 10 - q = 1
        omega
      obtain ⟨r, h7, h8⟩ := ih (i + 1) (x ++ (⟨#[97, 98, 42, 63, 91, 93, 33, 45, 97, 99]⟩ : ByteArray).extract q (q + 1)) (by omega) (by rw [ByteArray.size_append, h6]; omega)
      refine ⟨r, h7, Evt.succ ?_⟩
      simp only [conchlaw6_Tame.l0, if_pos h1, if_pos (show ((i : Nat) : Int) < 12 by omega), if_pos (show (0 : Int) ≤ (i : Int) by omega), hq', if_pos (show (0 : Int) ≤ (q : Int) by omega), h5, if_pos (show ((q : Nat) : Int) ≤ ((q + 1 : Nat) : Int) by omega),
        if_pos (show ((q + 1 : Nat) : Int) ≤ 10 by omega), Int.toNat_natCast, if_pos (show x.size + ((⟨#[97, 98, 42, 63, 91, 93, 33, 45, 97, 99]⟩ : ByteArray).extract q (q + 1)).size ≤ 9223372036854775807 by omega), wn i (by omega)]
      exact h8
    · refine ⟨x, by omega, Evt.succ ?_⟩
      simp only [conchlaw6_Tame.l0, if_neg h1]
      exact Evt.of _
theorem tame_end (a : ByteArray) (ha : a.size < 1000000) : ∃ r : ByteArray, r.size ≤ 12 ∧ Evt (fun k => conchlaw6_Tame.f k a) r := tame_l0 a ha 12 0 _ rfl rfl
theorem letters_l0 (a : ByteArray) (ha : a.size < 1000000) : ∀ (d i : Nat) (x : ByteArray), d + i = 10 → x.size = i → ∃ r : ByteArray, r.size ≤ 10 ∧ Evt (fun k => conchlaw6_letters.l0 k a x (i : Int)) r := by
  intro d
  induction d with
  | zero =>
    intro i x hd hx
    refine ⟨x, by omega, Evt.succ ?_⟩
    by_cases h1 : (i : Int) < (a.size : Int)
    · simp only [conchlaw6_letters.l0, if_pos h1, if_neg (show ¬ ((i : Nat) : Int) < 10 by omega)]
      exact Evt.of _
    · simp only [conchlaw6_letters.l0, if_neg h1]
      exact Evt.of _
  | succ d ih =>
    intro i x hd hx
    by_cases h1 : (i : Int) < (a.size : Int)
    · obtain ⟨q, hq, hq2⟩ := tmod_in (bt a (i : Int)) (bt_low a _) 5 (by omega)
      have hq' : Int.tmod (bt a (i : Int)) 5 = (q : Int) := hq
      have h5 : ((q : Int) + 1) % 256 = ((q + 1 : Nat) : Int) := by omega
      have h6 : ((⟨#[97, 98, 99, 93, 45]⟩ : ByteArray).extract q (q + 1)).size = 1 := by
        rw [ByteArray.size_extract]
        show min (q + 1) 5 - q = 1
        omega
      obtain ⟨r, h7, h8⟩ := ih (i + 1) (x ++ (⟨#[97, 98, 99, 93, 45]⟩ : ByteArray).extract q (q + 1)) (by omega) (by rw [ByteArray.size_append, h6]; omega)
      refine ⟨r, h7, Evt.succ ?_⟩
      simp only [conchlaw6_letters.l0, if_pos h1, if_pos (show ((i : Nat) : Int) < 10 by omega), if_pos (show (0 : Int) ≤ (i : Int) by omega), hq', if_pos (show (0 : Int) ≤ (q : Int) by omega), h5, if_pos (show ((q : Nat) : Int) ≤ ((q + 1 : Nat) : Int) by omega),
        if_pos (show ((q + 1 : Nat) : Int) ≤ 5 by omega), Int.toNat_natCast, if_pos (show x.size + ((⟨#[97, 98, 99, 93, 45]⟩ : ByteArray).extract q (q + 1)).size ≤ 9223372036854775807 by omega), wn i (by omega)]
      exact h8
    · refine ⟨x, by omega, Evt.succ ?_⟩
      simp only [conchlaw6_letters.l0, if_neg h1]
      exact Evt.of _
theorem letters_end (a : ByteArray) (ha : a.size < 1000000) : ∃ r : ByteArray, r.size ≤ 10 ∧ Evt (fun k => conchlaw6_letters.f k a) r := letters_l0 a ha 10 0 _ rfl rfl
end Go.Proofs.Ytcfimlllgkknhaa.Mt


namespace Go.Proofs.Ytcfimlllgkknhaa.Mt
open Go.RowKit Go.Proofs.Ytcfimlllgkknhaa.PPatTells Go.Proofs.YtcfimlllgkknhaaW.PrintWords Go.Proofs.YtcfimlllgkknhaaW.PrintLast Go.Proofs.YtcfimlllgkknhaaW.PrintMore
set_option linter.unusedSimpArgs false
set_option linter.unusedVariables false

/-- A live byte stands there. -/
def isB (s : ByteArray) (L : List Bool) (i : Nat) (c : Int) : Bool := decide (i < s.size) && (Lv L i && bt s (i : Int) == c)
theorem is_at (s : ByteArray) (L : List Bool) (i : Nat) (c : Int) : conchref1_is.f s L (i : Int) c = some (isB s L i c) := by
  have hl : conchref1_live.f s L (i : Int) = some (Lv L i) := by
    unfold conchref1_live.f Lv
    by_cases h : i < L.length
    · rw [if_pos (by omega), if_pos (by omega), decide_eq_true h]; rfl
    · rw [if_neg (by omega), decide_eq_false h]; rfl
  unfold conchref1_is.f isB
  by_cases h : i < s.size
  · rw [if_pos (by omega), hl, Option.bind_some, decide_eq_true h]
    cases Lv L i with
    | true => rw [if_pos rfl, if_pos (by omega)]; rfl
    | false => rfl
  · rw [if_neg (by omega), decide_eq_false h]; rfl
/-- The first live closing bracket from k on. -/
def fnd (s : ByteArray) (L : List Bool) : Nat → Nat → Option Nat
  | 0, _ => none
  | d + 1, k => if isB s L k 93 then some k else fnd s L d (k + 1)
theorem fnd_in (s : ByteArray) (L : List Bool) : ∀ d k e, fnd s L d k = some e → k ≤ e ∧ e < s.size ∧ isB s L e 93 = true := by
  intro d
  induction d with
  | zero => intro k e h; cases h
  | succ d ih =>
    intro k e h
    unfold fnd at h
    by_cases hk : isB s L k 93 = true
    · rw [if_pos hk] at h
      cases h
      refine ⟨Nat.le_refl _, ?_, hk⟩
      unfold isB at hk
      simp only [Bool.and_eq_true, decide_eq_true_eq] at hk
      exact hk.1
    · rw [if_neg hk] at h
      obtain ⟨h1, h2, h3⟩ := ih (k + 1) e h
      exact ⟨by omega, h2, h3⟩
def frm (s : ByteArray) (L : List Bool) (i : Nat) : Nat := if isB s L (i + 1) 33 then i + 2 else i + 1
def endAt (s : ByteArray) (L : List Bool) (i : Nat) : Option Nat := fnd s L (s.size - (frm s L i + 1)) (frm s L i + 1)
def dsOf (L : List Bool) (a b : Nat) : List Bool := (List.range (b - a)).map fun j => Lv L (a + j)

theorem set_l1' (s : ByteArray) (L : List Bool) (hs : s.size < 4611686018427387) (at_ e : Nat) (he : e < s.size) (ha : at_ < e) (inn : ByteArray) (no : Bool) :
    ∀ d i ds, d + i = e → ds.length + d < 140737488355328 → Evt (fun k => pat_set.l1 k (at_ : Int) (e : Int) (i : Int) s L 91 0 inn ds no false) (91, 0, inn, ds ++ (List.range d).map (fun j => Lv L (i + j)), no, false, ((e + 1 - at_ : Nat) : Int)) := by
  intro d
  induction d with
  | zero =>
    intro i ds hd _
    refine Evt.succ ?_
    simp only [pat_set.l1]
    simp only [if_neg (show ¬ ((i : Nat) : Int) < (e : Int) by omega), wn e (by omega)]
    rw [wr (by omega) (by omega), show ((e + 1 : Nat) : Int) - (at_ : Int) = ((e + 1 - at_ : Nat) : Int) by omega, List.range_zero, List.map_nil, List.append_nil]
    exact Evt.of _
  | succ d ih =>
    intro i ds hd hds
    have hev := ih (i + 1) (ds ++ [Lv L i]) (by omega) (by simp; omega)
    refine Evt.succ ?_
    simp only [pat_set.l1]
    simp only [if_pos (show ((i : Nat) : Int) < (e : Int) by omega), live_at, Option.bind_some, if_pos (show ds.length < 140737488355328 by omega), wn i (by omega)]
    have e1 : ds ++ (List.range (d + 1)).map (fun j => Lv L (i + j)) = ds ++ [Lv L i] ++ (List.range d).map (fun j => Lv L (i + 1 + j)) := by
      rw [List.range_succ_eq_map, List.map_cons, List.map_map, List.append_assoc, Nat.add_zero]
      congr 2
      refine List.map_congr_left fun j _ => ?_
      show Lv L (i + (j + 1)) = _
      rw [show i + (j + 1) = i + 1 + j by omega]
    rw [e1]
    exact hev
/-- What set answers. -/
def setR (s : ByteArray) (at_ fr : Nat) (L : List Bool) (no : Bool) : Option Nat → Int × Int × ByteArray × List Bool × Bool × Bool × Int
  | some e => (91, 0, s.extract fr e, dsOf L fr e, no, false, ((e + 1 - at_ : Nat) : Int))
  | none => (0, 0, ⟨#[]⟩, [], false, false, 0)
theorem set_l0' (s : ByteArray) (L : List Bool) (hs : s.size < 140737488355) (at_ fr : Nat) (ha : at_ < fr) (no : Bool) :
    ∀ d i, d = s.size - i → fr < i → i ≤ s.size + 3 → Evt (fun k => pat_set.l0 k (at_ : Int) (i : Int) (fr : Int) s L 91 0 ⟨#[]⟩ [] no false) (setR s at_ fr L no (fnd s L d i)) := by
  intro d
  induction d with
  | zero =>
    intro i hd hfr hi2
    refine Evt.succ ?_
    simp only [pat_set.l0, if_neg (show ¬ ((i : Nat) : Int) < (s.size : Int) by omega)]
    exact Evt.of _
  | succ d ih =>
    intro i hd hfr hi2
    have hi : i < s.size := by omega
    have hev := ih (i + 1) (by omega) (by omega) (by omega)
    have no3 : isB s L i 93 = false → Evt (fun k => pat_set.j3 k (at_ : Int) (i : Int) (fr : Int) false s L 91 0 ⟨#[]⟩ [] no false) (setR s at_ fr L no (fnd s L (d + 1) i)) := by
      intro hb
      refine Evt.succ ?_
      simp only [pat_set.j3, if_neg (show ¬ (false = true) by simp), wn i (by omega)]
      unfold fnd
      rw [if_neg (by rw [hb]; simp)]
      exact hev
    by_cases h93 : bt s (i : Int) = 93
    · cases hl : Lv L i with
      | false =>
        have hb : isB s L i 93 = false := by unfold isB; rw [hl]; simp
        refine Evt.succ ?_
        simp only [pat_set.l0, if_pos (show ((i : Nat) : Int) < (s.size : Int) by omega), if_pos (show ((i : Nat) : Int) > (fr : Int) by omega), if_pos (show (0 : Int) ≤ (i : Int) by omega), if_pos h93, live_at, Option.bind_some, hl]
        exact no3 hb
      | true =>
        have hb : isB s L i 93 = true := by unfold isB; rw [hl, h93, decide_eq_true hi]; rfl
        have hev' := set_l1' s L (by omega) at_ i hi (by omega) (s.extract fr i) no (i - fr) fr [] (by omega) (by simp; omega)
        unfold fnd
        rw [if_pos hb]
        refine Evt.succ ?_
        simp only [pat_set.l0, if_pos (show ((i : Nat) : Int) < (s.size : Int) by omega), if_pos (show ((i : Nat) : Int) > (fr : Int) by omega), if_pos (show (0 : Int) ≤ (i : Int) by omega), if_pos h93, live_at, Option.bind_some, hl]
        refine Evt.succ ?_
        simp only [pat_set.j3, if_true, if_pos (show (0 : Int) ≤ (fr : Int) by omega), if_pos (show (fr : Int) ≤ (i : Int) by omega), if_pos (show (i : Int) ≤ (s.size : Int) by omega), Int.toNat_natCast]
        exact hev'
    · have hb : isB s L i 93 = false := by
        unfold isB
        have : (bt s (i : Int) == 93) = false := by simpa using h93
        rw [this]; simp
      refine Evt.succ ?_
      simp only [pat_set.l0, if_pos (show ((i : Nat) : Int) < (s.size : Int) by omega), if_pos (show ((i : Nat) : Int) > (fr : Int) by omega), if_pos (show (0 : Int) ≤ (i : Int) by omega), if_neg h93]
      exact no3 hb
theorem set_at (s : ByteArray) (L : List Bool) (hs : s.size < 140737488355) (at_ : Nat) (ha : at_ < s.size) :
    Evt (fun k => pat_set.f k s L (at_ : Int)) (setR s at_ (frm s L at_) L (isB s L (at_ + 1) 33) (endAt s L at_)) := by
  have go : ∀ (no : Bool) (fr : Nat), at_ < fr → fr ≤ s.size + 2 → Evt (fun k => pat_set.j1 k (at_ : Int) (fr : Int) s L 91 0 ⟨#[]⟩ no false) (setR s at_ fr L no (fnd s L (s.size - (fr + 1)) (fr + 1))) := by
    intro no fr hi hi2
    have hev := set_l0' s L hs at_ fr hi no (s.size - (fr + 1)) (fr + 1) rfl (by omega) (by omega)
    refine Evt.succ ?_
    simp only [pat_set.j1]
    refine Evt.succ ?_
    by_cases h : fr < s.size
    · simp only [pat_set.l0, if_pos (show ((fr : Nat) : Int) < (s.size : Int) by omega), if_neg (show ¬ ((fr : Nat) : Int) > (fr : Int) by omega)]
      refine Evt.succ ?_
      simp only [pat_set.j3, if_neg (show ¬ (false = true) by simp), wn fr (by omega)]
      exact hev
    · simp only [pat_set.l0, if_neg (show ¬ ((fr : Nat) : Int) < (s.size : Int) by omega)]
      rw [show s.size - (fr + 1) = 0 by omega]
      exact Evt.of _
  have g0 : ∀ b : Bool, isB s L (at_ + 1) 33 = b → Evt (fun k => pat_set.j0 k (at_ : Int) ((at_ + 1 : Nat) : Int) b s L 91 0 ⟨#[]⟩ false false) (setR s at_ (frm s L at_) L (isB s L (at_ + 1) 33) (endAt s L at_)) := by
    intro b hb
    unfold endAt frm
    rw [hb]
    cases b with
    | false =>
      have hev := go false (at_ + 1) (by omega) (by omega)
      refine Evt.succ ?_
      simp only [pat_set.j0, if_neg (show ¬ (false = true) by simp)]
      exact hev
    | true =>
      have hev := go true (at_ + 2) (by omega) (by omega)
      refine Evt.succ ?_
      simp only [pat_set.j0, if_true, wn (at_ + 1) (by omega)]
      exact hev
  unfold pat_set.f
  simp only [wn at_ (by omega)]
  by_cases h1 : at_ + 1 < s.size
  · simp only [if_pos (show ((at_ + 1 : Nat) : Int) < (s.size : Int) by omega), if_pos (show (0 : Int) ≤ ((at_ + 1 : Nat) : Int) by omega)]
    by_cases h33 : bt s ((at_ + 1 : Nat) : Int) = 33
    · simp only [if_pos h33, live_at, Option.bind_some]
      exact g0 _ (by unfold isB; rw [decide_eq_true h1, h33]; simp)
    · simp only [if_neg h33]
      exact g0 _ (by
        unfold isB
        have : (bt s ((at_ + 1 : Nat) : Int) == 33) = false := by simpa using h33
        rw [this]; simp)
  · simp only [if_neg (show ¬ ((at_ + 1 : Nat) : Int) < (s.size : Int) by omega)]
    exact g0 _ (by unfold isB; rw [decide_eq_false h1]; rfl)

theorem brk_l0 (s : ByteArray) (L : List Bool) (hs : s.size < 140737488355) : ∀ d k, d = s.size - k → k ≤ s.size + 3 →
    Evt (fun q => conchref1_bracket.l0 q (k : Int) s L) (match fnd s L d k with
      | some e => (e : Int)
      | none => -1) := by
  intro d
  induction d with
  | zero =>
    intro k hd hk
    refine Evt.succ ?_
    simp only [conchref1_bracket.l0, if_neg (show ¬ ((k : Nat) : Int) < (s.size : Int) by omega)]
    exact Evt.of _
  | succ d ih =>
    intro k hd hk
    have h := ih (k + 1) (by omega) (by omega)
    refine Evt.succ ?_
    simp only [conchref1_bracket.l0, if_pos (show ((k : Nat) : Int) < (s.size : Int) by omega), is_at, Option.bind_some, wn k (by omega)]
    unfold fnd
    cases hb : isB s L k 93 with
    | true => simp only [if_true]; exact Evt.of _
    | false => simp only [if_neg (show ¬ (false = true) by simp)]; exact h
def brkI (s : ByteArray) (L : List Bool) (i : Nat) : Int := if isB s L i 91 then (match endAt s L i with
  | some e => (e : Int)
  | none => -1) else -1
theorem brk_at (s : ByteArray) (L : List Bool) (hs : s.size < 140737488355) (i : Nat) (hi : i < s.size) : Evt (fun q => conchref1_bracket.f q s L (i : Int)) (brkI s L i) := by
  unfold conchref1_bracket.f brkI
  simp only [wn i (by omega), is_at, Option.bind_some]
  cases hb : isB s L i 91 with
  | false => simp only [if_neg (show ¬ (false = true) by simp)]; exact Evt.of _
  | true =>
    simp only [if_true, wn (i + 1) (by omega)]
    unfold endAt frm
    cases hn : isB s L (i + 1) 33 with
    | false =>
      simp only [if_neg (show ¬ (false = true) by simp)]
      refine Evt.succ ?_
      simp only [conchref1_bracket.j0, wn (i + 1) (by omega)]
      exact brk_l0 s L hs _ (i + 1 + 1) rfl (by omega)
    | true =>
      simp only [if_true]
      refine Evt.succ ?_
      simp only [conchref1_bracket.j0, wn (i + 1 + 1) (by omega)]
      exact brk_l0 s L hs _ (i + 2 + 1) rfl (by omega)

/-- What is among a row, from k on. -/
def amg (s : ByteArray) (L : List Bool) (e : Nat) (c : Int) : Nat → Nat → Bool
  | 0, _ => false
  | d + 1, k => if k < e then (if decide (k + 2 < e) && isB s L (k + 1) 45 then (decide (bt s (k : Int) ≤ c) && decide (c ≤ bt s ((k + 2 : Nat) : Int))) || amg s L e c d (k + 3) else decide (bt s (k : Int) = c) || amg s L e c d (k + 1)) else false
theorem among_l0 (s : ByteArray) (L : List Bool) (hs : s.size < 140737488355) (e : Nat) (he : e ≤ s.size) (c : Int) (no : Bool) : ∀ d k z, e ≤ d + k → k ≤ e + 3 →
    Evt (fun q => conchref1_among.l0 q (e : Int) c (k : Int) no z s L) ((z || amg s L e c d k) != no) := by
  intro d
  induction d with
  | zero =>
    intro k z hd hk
    refine Evt.succ ?_
    simp only [conchref1_among.l0, if_neg (show ¬ ((k : Nat) : Int) < (e : Int) by omega), amg, Bool.or_false]
    exact Evt.of _
  | succ d ih =>
    intro k z hd hk
    refine Evt.succ ?_
    by_cases hke : k < e
    · have w1 : wrap64 ((k : Int) + 1) = ((k + 1 : Nat) : Int) := wn k (by omega)
      have w2 : wrap64 ((k : Int) + 2) = ((k + 2 : Nat) : Int) := wr (by omega) (by omega)
      have w3 : wrap64 ((k : Int) + 3) = ((k + 3 : Nat) : Int) := wr (by omega) (by omega)
      have one : (decide (k + 2 < e) && isB s L (k + 1) 45) = false → Evt (fun q => if z = true then (conchref1_among.l0 q (e : Int) c ((k + 1 : Nat) : Int) no true s L) else (if (0 : Int) ≤ (k : Int) then (if (k : Int) < (s.size : Int) then (conchref1_among.l0 q (e : Int) c ((k + 1 : Nat) : Int) no (c == (bt s (k : Int))) s L) else (none)) else (none)))
          ((z || amg s L e c (d + 1) k) != no) := by
        intro hf
        unfold amg
        rw [if_pos hke, hf]
        simp only [if_neg (show ¬ (false = true) by simp)]
        cases z with
        | true =>
          have := ih (k + 1) true (by omega) (by omega)
          simp only [if_true, Bool.true_or] at this ⊢
          exact this
        | false =>
          have := ih (k + 1) (c == bt s (k : Int)) (by omega) (by omega)
          have e1 : (c == bt s (k : Int)) = decide (bt s (k : Int) = c) := by rw [Bool.eq_iff_iff, beq_iff_eq, decide_eq_true_iff]; exact eq_comm
          simp only [if_neg (show ¬ (false = true) by simp), if_pos (show (0 : Int) ≤ (k : Int) by omega), if_pos (show ((k : Nat) : Int) < (s.size : Int) by omega), Bool.false_or]
          rw [← e1]
          exact this
      by_cases h2 : k + 2 < e
      · simp only [conchref1_among.l0, if_pos (show ((k : Nat) : Int) < (e : Int) by omega), w1, w2, w3, if_pos (show ((k + 2 : Nat) : Int) < (e : Int) by omega), is_at, Option.bind_some]
        cases hd' : isB s L (k + 1) 45 with
        | false =>
          simp only [if_neg (show ¬ (false = true) by simp)]
          exact one (by rw [hd']; simp)
        | true =>
          simp only [if_true]
          unfold amg
          rw [if_pos hke, decide_eq_true h2, hd']
          simp only [Bool.and_true, if_true]
          cases z with
          | true =>
            have := ih (k + 3) true (by omega) (by omega)
            simp only [if_true, Bool.true_or] at this ⊢
            exact this
          | false =>
            simp only [if_neg (show ¬ (false = true) by simp), if_pos (show (0 : Int) ≤ (k : Int) by omega), if_pos (show ((k : Nat) : Int) < (s.size : Int) by omega), Bool.false_or]
            by_cases hc : bt s (k : Int) ≤ c
            · have := ih (k + 3) (decide (c ≤ bt s ((k + 2 : Nat) : Int))) (by omega) (by omega)
              simp only [if_pos (show c ≥ bt s (k : Int) from hc), if_pos (show (0 : Int) ≤ ((k + 2 : Nat) : Int) by omega), if_pos (show ((k + 2 : Nat) : Int) < (s.size : Int) by omega), decide_eq_true hc, Bool.true_and]
              exact this
            · have := ih (k + 3) false (by omega) (by omega)
              simp only [if_neg (show ¬ c ≥ bt s (k : Int) from hc), decide_eq_false hc, Bool.false_and, Bool.false_or] at this ⊢
              exact this
      · simp only [conchref1_among.l0, if_pos (show ((k : Nat) : Int) < (e : Int) by omega), w1, w2, if_neg (show ¬ ((k + 2 : Nat) : Int) < (e : Int) by omega)]
        exact one (by rw [decide_eq_false h2]; rfl)
    · simp only [conchref1_among.l0, if_neg (show ¬ ((k : Nat) : Int) < (e : Int) by omega), amg, if_neg hke, Bool.or_false]
      exact Evt.of _
theorem among_at (s : ByteArray) (L : List Bool) (hs : s.size < 140737488355) (i e : Nat) (hi : i < s.size) (he : e ≤ s.size) (hf : frm s L i ≤ e) (c : Int) :
    Evt (fun q => conchref1_among.f q s L (i : Int) (e : Int) c) (amg s L e c e (frm s L i) != isB s L (i + 1) 33) := by
  unfold conchref1_among.f
  simp only [wn i (by omega), is_at, Option.bind_some]
  unfold frm at hf ⊢
  cases hn : isB s L (i + 1) 33 with
  | false =>
    rw [hn] at hf
    simp only [if_neg (show ¬ (false = true) by simp)] at hf ⊢
    refine Evt.succ ?_
    simp only [conchref1_among.j0]
    exact among_l0 s L hs e he c false e (i + 1) false (by omega) (by omega)
  | true =>
    rw [hn] at hf
    simp only [if_true] at hf ⊢
    refine Evt.succ ?_
    simp only [conchref1_among.j0, wn (i + 1) (by omega)]
    exact among_l0 s L hs e he c true e (i + 2) false (by omega) (by omega)
end Go.Proofs.Ytcfimlllgkknhaa.Mt


namespace Go.Proofs.Ytcfimlllgkknhaa.Mt
open Go.RowKit Go.Proofs.Ytcfimlllgkknhaa.PPatTells Go.Proofs.YtcfimlllgkknhaaW.PrintWords Go.Proofs.YtcfimlllgkknhaaW.PrintLast Go.Proofs.YtcfimlllgkknhaaW.PrintMore
set_option linter.unusedSimpArgs false
set_option linter.unusedVariables false

theorem bt_extract (s : ByteArray) (a b j : Nat) (hj : a + j < b) (hb : b ≤ s.size) : bt (s.extract a b) (j : Int) = bt s ((a + j : Nat) : Int) := by
  have h1 : j < (s.extract a b).size := by rw [ByteArray.size_extract]; omega
  have h2 : a + j < s.size := by omega
  unfold bt
  simp only [Int.toNat_natCast]
  rw [dif_pos h1, dif_pos h2]
  simp [ByteArray.getElem_extract]
theorem rd_ds (L : List Bool) (a b j : Nat) (hj : a + j < b) : rdOf false (dsOf L a b) (j : Int) = Lv L (a + j) := by
  unfold rdOf dsOf
  rw [Int.toNat_natCast, List.getD_eq_getElem?_getD, List.getElem?_map, List.getElem?_range (by omega)]
  rfl
/-- What the program's row answers is what is among it. -/
theorem has_val (s : ByteArray) (L : List Bool) (hs : s.size < 1000) (fr e : Nat) (he : e ≤ s.size) (hfe : fr ≤ e) (f0 f1 : Int) (no lt : Bool) (c : Int) :
    ∀ d j, e ≤ d + (fr + j) → ∀ k, 3 * d + 1 ≤ k → pat_item_has.l0 k c (j : Int) f0 f1 (s.extract fr e) (dsOf L fr e) no lt = some (amg s L e c d (fr + j)) := by
  have sz : (s.extract fr e).size = e - fr := by rw [ByteArray.size_extract]; omega
  have sl : (dsOf L fr e).length = e - fr := by simp [dsOf]
  intro d
  induction d with
  | zero =>
    intro j h k hk
    obtain ⟨k, rfl⟩ : ∃ e, k = e + 1 := ⟨k - 1, by omega⟩
    simp only [pat_item_has.l0, sz, if_neg (show ¬ ((j : Nat) : Int) < ((e - fr : Nat) : Int) by omega), amg]
  | succ d ih =>
    intro j h k hk
    obtain ⟨k, rfl⟩ : ∃ e, k = e + 1 := ⟨k - 1, by omega⟩
    by_cases hj : fr + j < e
    · have w1 : Aside0 (wrap64 ((j : Int) + 1) = ((j + 1 : Nat) : Int)) := ⟨wn j (by omega)⟩
      have w2 : Aside0 (wrap64 ((j : Int) + 2) = ((j + 2 : Nat) : Int)) := ⟨wr (by omega) (by omega)⟩
      have w3 : Aside0 (wrap64 (((j + 2 : Nat) : Int) + 1) = ((j + 3 : Nat) : Int)) := ⟨wn (j + 2) (by omega)⟩
      have bj := bt_extract s fr e j hj he
      obtain ⟨k, rfl⟩ : ∃ e, k = e + 1 := ⟨k - 1, by omega⟩
      have one : (decide (fr + j + 2 < e) && isB s L (fr + j + 1) 45) = false → pat_item_has.j1 (k + 1) c (j : Int) false f0 f1 (s.extract fr e) (dsOf L fr e) no lt = some (amg s L e c (d + 1) (fr + j)) := by
        intro hf
        unfold amg
        rw [if_pos hj, hf]
        have h1 := ih (j + 1) (by omega) k (by omega)
        simp only [pat_item_has.j1, if_neg (show ¬ (false = true) by simp), if_pos (show (0 : Int) ≤ (j : Int) by omega), sz, if_pos (show ((j : Nat) : Int) < ((e - fr : Nat) : Int) by omega), bj, w1.out]
        by_cases hb : bt s ((fr + j : Nat) : Int) = c
        · simp only [if_pos hb, decide_eq_true hb, Bool.true_or]
        · simp only [if_neg hb, decide_eq_false hb, Bool.false_or]
          exact h1
      have two : fr + j + 2 < e → isB s L (fr + j + 1) 45 = true → pat_item_has.j1 (k + 1) c (j : Int) true f0 f1 (s.extract fr e) (dsOf L fr e) no lt = some (amg s L e c (d + 1) (fr + j)) := by
        intro h2 hf
        obtain ⟨k, rfl⟩ : ∃ e, k = e + 1 := ⟨k - 1, by omega⟩
        have h3 := ih (j + 3) (by omega) k (by omega)
        have b2 := bt_extract s fr e (j + 2) (by omega) he
        unfold amg
        rw [if_pos hj, hf, decide_eq_true h2]
        simp only [pat_item_has.j1, if_true, if_pos (show (0 : Int) ≤ (j : Int) by omega), sz, if_pos (show ((j : Nat) : Int) < ((e - fr : Nat) : Int) by omega), bj, w2.out, if_pos (show (0 : Int) ≤ ((j + 2 : Nat) : Int) by omega), if_pos (show ((j + 2 : Nat) : Int) < ((e - fr : Nat) : Int) by omega), b2,
          Bool.and_true, if_true]
        rw [show fr + (j + 2) = fr + j + 2 by omega]
        rw [show fr + (j + 3) = fr + j + 3 by omega] at h3
        by_cases hb : bt s ((fr + j : Nat) : Int) ≤ c
        · simp only [if_pos hb, decide_eq_true hb, Bool.true_and]
          by_cases hc : c ≤ bt s ((fr + j + 2 : Nat) : Int)
          · simp only [decide_eq_true hc, pat_item_has.j2, if_true, Bool.true_or]
          · simp only [decide_eq_false hc, pat_item_has.j2, if_neg (show ¬ (false = true) by simp), Bool.false_or, w2.out, w3.out]
            exact h3
        · simp only [if_neg hb, decide_eq_false hb, Bool.false_and, Bool.false_or, pat_item_has.j2, if_neg (show ¬ (false = true) by simp), w2.out, w3.out]
          exact h3
      by_cases h2 : fr + j + 2 < e
      · have b1 := bt_extract s fr e (j + 1) (by omega) he
        have r1 := rd_ds L fr e (j + 1) (by omega)
        rw [show fr + (j + 1) = fr + j + 1 by omega] at b1 r1
        simp only [pat_item_has.l0, sz, sl, if_pos (show ((j : Nat) : Int) < ((e - fr : Nat) : Int) by omega), w1.out, w2.out, if_pos (show ((j + 2 : Nat) : Int) < ((e - fr : Nat) : Int) by omega), if_pos (show (0 : Int) ≤ ((j + 1 : Nat) : Int) by omega), if_pos (show ((j + 1 : Nat) : Int) < ((e - fr : Nat) : Int) by omega), b1, r1]
        by_cases h45 : bt s ((fr + j + 1 : Nat) : Int) = 45
        · simp only [if_pos h45]
          cases hl : Lv L (fr + j + 1) with
          | true => exact two h2 (by unfold isB; rw [decide_eq_true (by omega), hl, h45]; rfl)
          | false => exact one (by unfold isB; rw [hl]; simp)
        · simp only [if_neg h45]
          have : (bt s ((fr + j + 1 : Nat) : Int) == 45) = false := by simpa using h45
          exact one (by unfold isB; rw [this]; simp)
      · simp only [pat_item_has.l0, sz, if_pos (show ((j : Nat) : Int) < ((e - fr : Nat) : Int) by omega), w2.out, if_neg (show ¬ ((j + 2 : Nat) : Int) < ((e - fr : Nat) : Int) by omega)]
        exact one (by rw [decide_eq_false h2]; rfl)
    · simp only [pat_item_has.l0, sz, if_neg (show ¬ ((j : Nat) : Int) < ((e - fr : Nat) : Int) by omega), amg, if_neg hj]

/-- The step of a row. -/
def rowS (s : ByteArray) (L : List Bool) (i e : Nat) : S42 := ⟨91, 0, s.extract (frm s L i) e, dsOf L (frm s L i) e, isB s L (i + 1) 33, false⟩
theorem one_row (s : ByteArray) (L : List Bool) (hs : s.size < 1000) (i e : Nat) (he : e ≤ s.size) (hf : frm s L i ≤ e) (c : Int) (k : Nat) (hk : 3 * e + 1 ≤ k) :
    pat_item_one.f (k + 1) 91 0 (s.extract (frm s L i) e) (dsOf L (frm s L i) e) (isB s L (i + 1) 33) false c = some (amg s L e c e (frm s L i) != isB s L (i + 1) 33) := by
  have h := has_val s L hs (frm s L i) e he hf 91 0 (isB s L (i + 1) 33) false c e 0 (by omega) k hk
  rw [Nat.add_zero] at h
  have h' : pat_item_has.l0 k c 0 91 0 (s.extract (frm s L i) e) (dsOf L (frm s L i) e) (isB s L (i + 1) 33) false = some (amg s L e c e (frm s L i)) := h
  simp only [pat_item_one.f, pat_item_one.j0, pat_item_has.f, if_neg (show ¬ ((91 : Int) = 42) by omega), if_neg (show ¬ (((91 : Int) == 63) = true) by simp), if_true, h', Option.bind_some]
theorem oneE_of (x : S42) (c : Int) (b : Bool) (h : ∀ k, 3500 ≤ k → pat_item_one.f (k + 1) x.f0 x.f1 x.f2 x.f3 x.f4 x.f5 c = some b) : oneE x c = b := by
  have h1 := h 3999 (by omega)
  unfold oneE
  rw [show (4000 : Nat) = 3999 + 1 from rfl, h1]
  rfl
theorem oneE_row (s : ByteArray) (L : List Bool) (hs : s.size < 1000) (i e : Nat) (he : e ≤ s.size) (hf : frm s L i ≤ e) (c : Int) : oneE (rowS s L i e) c = (amg s L e c e (frm s L i) != isB s L (i + 1) 33) :=
  oneE_of _ _ _ fun k hk => one_row s L hs i e he hf c k (by omega)
theorem oneE_lit (b c : Int) : oneE (lit b) c = (b == c) := oneE_of _ _ _ fun k hk => by
  simp [pat_item_one.f, pat_item_one.j0, lit]
def wild (c : Int) : S42 := ⟨c, 0, ⟨#[]⟩, [], false, false⟩
theorem oneE_quest (c : Int) : oneE (wild 63) c = true := oneE_of _ _ _ fun k hk => by
  simp [pat_item_one.f, pat_item_one.j0, wild]

end Go.Proofs.Ytcfimlllgkknhaa.Mt


namespace Go.Proofs.Ytcfimlllgkknhaa.Mt
open Go.RowKit Go.Proofs.Ytcfimlllgkknhaa.PPatTells Go.Proofs.YtcfimlllgkknhaaW.PrintWords Go.Proofs.YtcfimlllgkknhaaW.PrintLast Go.Proofs.YtcfimlllgkknhaaW.PrintMore
set_option linter.unusedSimpArgs false
set_option linter.unusedVariables false

section
variable (s : ByteArray) (L : List Bool) (t : ByteArray) (n : Nat) (ht : t.size = n) (hn : n < 1000) (x5 : List Bool) (a : Nat → Bool) (h5 : Rep n x5 a) (i : Nat) (E : Int)
theorem ref_star (hst : isB s L i 42 = true) (r : Bool) (ht : t.size = n) (hn : n < 1000) (h5 : Rep n x5 a) (one : Int → Bool)
    (K : ∀ y, Rep n y (nx true one t a) → Evt (fun q => conchref1_Match.l0 q t y (wrap64 (mx (i : Int) E + 1)) s L) r) :
    ∀ d k x7 z, d + k = n + 1 → x7.length = n + 1 → (∀ q, q < k → rdOf false x7 (q : Int) = nx true one t a q) → (z = (if k = 0 then false else nx true one t a (k - 1))) →
      Evt (fun q => conchref1_Match.l1 q t x5 (i : Int) x7 E z (k : Int) s L) r := by
  intro d
  induction d with
  | zero =>
    intro k x7 z hd h7 hq hz
    refine Evt.succ ?_
    simp only [conchref1_Match.l1, if_neg (show ¬ ((k : Nat) : Int) ≤ (t.size : Int) by omega)]
    exact K x7 ⟨h7, fun q hq2 => hq q (by omega)⟩
  | succ d ih =>
    intro k x7 z hd h7 hq hz
    have hk : k ≤ n := by omega
    have hl5 : x5.length = n + 1 := h5.len
    have ek : nx true one t a k = (z || a k) := by
      cases k with
      | zero => simp [nx, hz]
      | succ k =>
        rw [hz]
        simp only [nx, if_true, Nat.add_eq_zero_iff, Nat.one_ne_zero, and_false, if_false, Nat.add_sub_cancel]
        exact Bool.or_comm _ _
    have step : Evt (fun q => conchref1_Match.j2 q t x5 (i : Int) x7 E (nx true one t a k) (k : Int) s L) r := by
      refine Evt.succ ?_
      simp only [conchref1_Match.j2, is_at, Option.bind_some, hst, if_true, if_pos (show (0 : Int) ≤ (k : Int) by omega), if_pos (show ((k : Nat) : Int) < (x7.length : Int) by omega), Int.toNat_natCast, wn k (by omega)]
      refine ih (k + 1) _ _ (by omega) (by rw [List.length_set, h7]) (fun q hq2 => ?_) (by simp)
      rw [rd_set _ _ _ _ (by omega)]
      by_cases e : q = k
      · rw [if_pos e, e]
      · rw [if_neg e]
        exact hq q (by omega)
    refine Evt.succ ?_
    simp only [conchref1_Match.l1, if_pos (show ((k : Nat) : Int) ≤ (t.size : Int) by omega)]
    cases z with
    | true =>
      simp only [if_true]
      rw [ek, Bool.true_or] at step
      exact step
    | false =>
      simp only [if_neg (show ¬ (false = true) by simp), if_pos (show (0 : Int) ≤ (k : Int) by omega), if_pos (show ((k : Nat) : Int) < (x5.length : Int) by omega), h5.at_ k hk]
      rw [ek, Bool.false_or] at step
      exact step
theorem ref_one (hst : isB s L i 42 = false) (r : Bool) (ht : t.size = n) (hn : n < 1000) (h5 : Rep n x5 a) (one : Int → Bool)
    (hone : ∀ (k : Nat) (x7 : List Bool) (z : Bool), k < n → x7.length = n + 1 → Evt (fun q => conchref1_Match.l1 q t x5 (i : Int) (x7.set (k + 1) (one (bt t (k : Int)))) E z ((k + 1 : Nat) : Int) s L) r →
      Evt (fun q => conchref1_Match.j3 q t x5 (i : Int) x7 E z (k : Int) false s L) r)
    (K : ∀ y, Rep n y (nx false one t a) → Evt (fun q => conchref1_Match.l0 q t y (wrap64 (mx (i : Int) E + 1)) s L) r) :
    ∀ d k x7 z, d + k = n + 1 → x7.length = n + 1 → (∀ q, q ≤ n → rdOf false x7 (q : Int) = if q ≤ k then nx false one t a q else false) →
      Evt (fun q => conchref1_Match.l1 q t x5 (i : Int) x7 E z (k : Int) s L) r := by
  intro d
  induction d with
  | zero =>
    intro k x7 z hd h7 hq
    refine Evt.succ ?_
    simp only [conchref1_Match.l1, if_neg (show ¬ ((k : Nat) : Int) ≤ (t.size : Int) by omega)]
    exact K x7 ⟨h7, fun q hq2 => by rw [hq q hq2, if_pos (by omega)]⟩
  | succ d ih =>
    intro k x7 z hd h7 hq
    have hk : k ≤ n := by omega
    have hl5 : x5.length = n + 1 := h5.len
    have pass : (∀ q, q ≤ n → rdOf false x7 (q : Int) = if q ≤ k + 1 then nx false one t a q else false) → ∀ z, Evt (fun q => conchref1_Match.j3 q t x5 (i : Int) x7 E z (k : Int) true s L) r := by
      intro hq' z
      refine Evt.succ ?_
      simp only [conchref1_Match.j3, if_true, wn k (by omega)]
      exact ih (k + 1) x7 z (by omega) h7 hq'
    have step : ∀ z, Evt (fun q => conchref1_Match.j2 q t x5 (i : Int) x7 E z (k : Int) s L) r := by
      intro z
      refine Evt.succ ?_
      by_cases hkn : k = n
      · simp only [conchref1_Match.j2, is_at, Option.bind_some, hst, if_neg (show ¬ (false = true) by simp), if_pos (show ((k : Nat) : Int) = (t.size : Int) by omega)]
        refine pass (fun q hq2 => ?_) z
        rw [hq q hq2, if_pos (by omega), if_pos (by omega)]
      · simp only [conchref1_Match.j2, is_at, Option.bind_some, hst, if_neg (show ¬ (false = true) by simp), if_neg (show ¬ ((k : Nat) : Int) = (t.size : Int) by omega), if_pos (show (0 : Int) ≤ (k : Int) by omega), if_pos (show ((k : Nat) : Int) < (x5.length : Int) by omega), h5.at_ k hk]
        have ek : nx false one t a (k + 1) = (a k && one (bt t (k : Int))) := by simp [nx]
        cases ha : a k with
        | false =>
          refine pass (fun q hq2 => ?_) z
          rw [hq q hq2]
          by_cases e : q = k + 1
          · rw [if_neg (by omega), if_pos (by omega), e, ek, ha]; rfl
          · by_cases e2 : q ≤ k
            · rw [if_pos e2, if_pos (by omega)]
            · rw [if_neg e2, if_neg (by omega)]
        | true =>
          refine hone k x7 z (by omega) h7 (ih (k + 1) _ z (by omega) (by rw [List.length_set, h7]) fun q hq2 => ?_)
          rw [rd_set _ _ _ _ (by omega)]
          by_cases e : q = k + 1
          · rw [if_pos e, if_pos (by omega), e, ek, ha]; rfl
          · rw [if_neg e, hq q hq2]
            by_cases e2 : q ≤ k
            · rw [if_pos e2, if_pos (by omega)]
            · rw [if_neg e2, if_neg (by omega)]
    refine Evt.succ ?_
    simp only [conchref1_Match.l1, if_pos (show ((k : Nat) : Int) ≤ (t.size : Int) by omega)]
    cases z with
    | true => simp only [if_true]; exact step _
    | false =>
      simp only [if_neg (show ¬ (false = true) by simp), if_pos (show (0 : Int) ≤ (k : Int) by omega), if_pos (show ((k : Nat) : Int) < (x5.length : Int) by omega)]
      exact step _
end
end Go.Proofs.Ytcfimlllgkknhaa.Mt


namespace Go.Proofs.Ytcfimlllgkknhaa.Mt
open Go.RowKit Go.Proofs.Ytcfimlllgkknhaa.PPatTells Go.Proofs.YtcfimlllgkknhaaW.PrintWords Go.Proofs.YtcfimlllgkknhaaW.PrintLast Go.Proofs.YtcfimlllgkknhaaW.PrintMore
set_option linter.unusedSimpArgs false
set_option linter.unusedVariables false

/-- From a row on, the document answers what the steps answer. -/
def RefAt (s : ByteArray) (L : List Bool) (i : Nat) (l : List S42) : Prop :=
  ∀ (t : ByteArray), t.size < 1000 → ∀ (a : Nat → Bool) (x5 : List Bool), Rep t.size x5 a → Evt (fun q => conchref1_Match.l0 q t x5 (i : Int) s L) (l.foldl (stp oneE t) a t.size)
def ActAt (s : ByteArray) (L : List Bool) (i : Nat) (l : List S42) : Prop := Evt (fun q => conchref1_Active.l0 q (i : Int) s L) (l.any fun x => !x.f5)

theorem rep_false (n : Nat) (one : Int → Bool) (t : ByteArray) (a : Nat → Bool) : ∀ q, q ≤ n → rdOf false (List.replicate (n + 1) false) (q : Int) = if q ≤ 0 then nx false one t a q else false := by
  intro q hq
  rw [rd_rep]
  split
  · rename_i h
    rw [show q = 0 by omega]; rfl
  · rfl
/-- One step of the document, where no star stands. -/
theorem ref_step (s : ByteArray) (L : List Bool) (hs : s.size < 1000) (i m : Nat) (hi : i < s.size) (x : S42) (l : List S42) (E : Int) (hE : brkI s L i = E) (hm : wrap64 (mx (i : Int) E + 1) = ((m : Nat) : Int)) (h42 : isB s L i 42 = false) (hx : (x.f0 == 42) = false)
    (hone : ∀ (t : ByteArray), t.size < 1000 → ∀ (x5 : List Bool) (k : Nat) (x7 : List Bool) (z r : Bool), k < t.size → x7.length = t.size + 1 → Evt (fun q => conchref1_Match.l1 q t x5 (i : Int) (x7.set (k + 1) (oneE x (bt t (k : Int)))) E z ((k + 1 : Nat) : Int) s L) r →
      Evt (fun q => conchref1_Match.j3 q t x5 (i : Int) x7 E z (k : Int) false s L) r)
    (h : RefAt s L m l) : RefAt s L i (x :: l) := by
  intro t ht a x5 h5
  rw [List.foldl_cons]
  have e : stp oneE t a x = nx false (oneE x) t a := by unfold stp; rw [hx]
  rw [e]
  have hb := brk_at s L (by omega) i hi
  rw [hE] at hb
  refine Evt.succ ?_
  simp only [conchref1_Match.l0, if_pos (show ((i : Nat) : Int) < (s.size : Int) by omega), wn t.size (by omega), if_pos (show (0 : Int) ≤ ((t.size + 1 : Nat) : Int) by omega), Int.toNat_natCast, if_pos (show t.size + 1 ≤ 281474976710656 by omega)]
  refine Evt.bind hb ?_
  exact ref_one s L t t.size x5 a i E h42 _ rfl ht h5 (oneE x) (fun k x7 z h1 h2 h3 => hone t ht x5 k x7 z _ h1 h2 h3) (fun y hy => by rw [hm]; exact h t ht _ y hy) (t.size + 1) 0 _ false (by omega) (by simp) (rep_false _ _ _ _)
theorem ref_lit (s : ByteArray) (L : List Bool) (hs : s.size < 1000) (i : Nat) (hi : i < s.size) (l : List S42) (hE : brkI s L i = -1) (h42 : isB s L i 42 = false) (h63 : isB s L i 63 = false) (h : RefAt s L (i + 1) l) : RefAt s L i (lit (bt s (i : Int)) :: l) := by
  have hm : wrap64 (mx (i : Int) (-1) + 1) = ((i + 1 : Nat) : Int) := by
    unfold mx
    rw [if_neg (by omega)]
    exact wn i (by omega)
  refine ref_step s L hs i (i + 1) hi (lit (bt s (i : Int))) l (-1) hE hm h42 rfl (fun t ht x5 k x7 z r hk h7 h8 => ?_) h
  rw [oneE_lit] at h8
  have e : (bt s (i : Int) == bt t (k : Int)) = (bt t (k : Int) == bt s (i : Int)) := by
    rw [Bool.eq_iff_iff, beq_iff_eq, beq_iff_eq]; exact eq_comm
  rw [e] at h8
  refine Evt.succ ?_
  simp only [conchref1_Match.j3, if_neg (show ¬ (false = true) by simp), is_at, Option.bind_some, h63, if_neg (show ¬ ((-1 : Int) ≥ 0) by omega), if_pos (show (0 : Int) ≤ (k : Int) by omega), if_pos (show ((k : Nat) : Int) < (t.size : Int) by omega), if_pos (show (0 : Int) ≤ (i : Int) by omega),
    if_pos (show ((i : Nat) : Int) < (s.size : Int) by omega), wn k (by omega), if_pos (show (0 : Int) ≤ ((k + 1 : Nat) : Int) by omega), if_pos (show ((k + 1 : Nat) : Int) < (x7.length : Int) by omega), Int.toNat_natCast]
  exact h8
theorem ref_quest (s : ByteArray) (L : List Bool) (hs : s.size < 1000) (i : Nat) (hi : i < s.size) (l : List S42) (hE : brkI s L i = -1) (h42 : isB s L i 42 = false) (h63 : isB s L i 63 = true) (h : RefAt s L (i + 1) l) : RefAt s L i (wild 63 :: l) := by
  have hm : wrap64 (mx (i : Int) (-1) + 1) = ((i + 1 : Nat) : Int) := by
    unfold mx
    rw [if_neg (by omega)]
    exact wn i (by omega)
  refine ref_step s L hs i (i + 1) hi (wild 63) l (-1) hE hm h42 rfl (fun t ht x5 k x7 z r hk h7 h8 => ?_) h
  rw [oneE_quest] at h8
  refine Evt.succ ?_
  simp only [conchref1_Match.j3, if_neg (show ¬ (false = true) by simp), is_at, Option.bind_some, h63, if_true, wn k (by omega), if_pos (show (0 : Int) ≤ ((k + 1 : Nat) : Int) by omega), if_pos (show ((k + 1 : Nat) : Int) < (x7.length : Int) by omega), Int.toNat_natCast]
  exact h8
theorem ref_row (s : ByteArray) (L : List Bool) (hs : s.size < 1000) (i e : Nat) (hi : i < s.size) (he : e < s.size) (hie : i < e) (hf : frm s L i ≤ e) (l : List S42) (hE : brkI s L i = (e : Int)) (h42 : isB s L i 42 = false) (h63 : isB s L i 63 = false) (h : RefAt s L (e + 1) l) : RefAt s L i (rowS s L i e :: l) := by
  have hm : wrap64 (mx (i : Int) (e : Int) + 1) = ((e + 1 : Nat) : Int) := by
    unfold mx
    rw [if_pos (by omega)]
    exact wn e (by omega)
  refine ref_step s L hs i (e + 1) hi (rowS s L i e) l (e : Int) hE hm h42 rfl (fun t ht x5 k x7 z r hk h7 h8 => ?_) h
  clear hm hE h
  rw [oneE_row s L hs i e (by omega) hf] at h8
  have q1 : ((e : Nat) : Int) ≥ 0 := Int.natCast_nonneg e
  have q2 : ((k : Nat) : Int) < (t.size : Int) := by omega
  have q3 : (0 : Int) ≤ (k : Int) := Int.natCast_nonneg k
  refine Evt.succ ?_
  simp only [conchref1_Match.j3, if_neg (show ¬ (false = true) by simp), is_at, Option.bind_some, h63]
  simp only [if_pos q1, if_pos q2, if_pos q3]
  refine Evt.bind (among_at s L (by omega) i e hi (by omega) hf (bt t (k : Int))) ?_
  simp only [wn k (by omega), if_pos (show (0 : Int) ≤ ((k + 1 : Nat) : Int) by omega), if_pos (show ((k + 1 : Nat) : Int) < (x7.length : Int) by omega), Int.toNat_natCast]
  exact h8
theorem ref_starred (s : ByteArray) (L : List Bool) (hs : s.size < 1000) (i : Nat) (hi : i < s.size) (l : List S42) (hE : brkI s L i = -1) (h42 : isB s L i 42 = true) (h : RefAt s L (i + 1) l) : RefAt s L i (wild 42 :: l) := by
  have hm : wrap64 (mx (i : Int) (-1) + 1) = ((i + 1 : Nat) : Int) := by
    unfold mx
    rw [if_neg (by omega)]
    exact wn i (by omega)
  intro t ht a x5 h5
  rw [List.foldl_cons]
  have e : stp oneE t a (wild 42) = nx true (oneE (wild 42)) t a := rfl
  rw [e]
  have hb := brk_at s L (by omega) i hi
  rw [hE] at hb
  refine Evt.succ ?_
  simp only [conchref1_Match.l0, if_pos (show ((i : Nat) : Int) < (s.size : Int) by omega), wn t.size (by omega), if_pos (show (0 : Int) ≤ ((t.size + 1 : Nat) : Int) by omega), Int.toNat_natCast, if_pos (show t.size + 1 ≤ 281474976710656 by omega)]
  refine Evt.bind hb ?_
  exact ref_star s L t t.size x5 a i (-1) h42 _ rfl ht h5 (oneE (wild 42)) (fun y hy => by rw [hm]; exact h t ht _ y hy) (t.size + 1) 0 _ false (by omega) (by simp) (fun q hq => by omega) (by simp)

theorem act_lit (s : ByteArray) (L : List Bool) (hs : s.size < 1000) (i : Nat) (hi : i < s.size) (c : Int) (l : List S42) (hE : brkI s L i = -1) (h42 : isB s L i 42 = false) (h63 : isB s L i 63 = false) (h : ActAt s L (i + 1) l) : ActAt s L i (lit c :: l) := by
  have hb := brk_at s L (by omega) i hi
  rw [hE] at hb
  refine Evt.succ ?_
  simp only [conchref1_Active.l0, if_pos (show ((i : Nat) : Int) < (s.size : Int) by omega), is_at, Option.bind_some, h42, h63, if_neg (show ¬ (false = true) by simp)]
  refine Evt.bind hb ?_
  simp only [if_neg (show ¬ ((-1 : Int) ≥ 0) by omega), wn i (by omega)]
  exact h
theorem act_live (s : ByteArray) (L : List Bool) (hs : s.size < 1000) (i : Nat) (hi : i < s.size) (x : S42) (hx : x.f5 = false) (l : List S42) (h : isB s L i 42 = true ∨ isB s L i 63 = true ∨ ∃ e : Nat, brkI s L i = (e : Int)) : ActAt s L i (x :: l) := by
  have e : ((x :: l).any fun x => !x.f5) = true := by simp [hx]
  unfold ActAt
  rw [e]
  refine Evt.succ ?_
  simp only [conchref1_Active.l0, if_pos (show ((i : Nat) : Int) < (s.size : Int) by omega), is_at, Option.bind_some]
  cases h42 : isB s L i 42 with
  | true => simp only [if_true]; exact Evt.of _
  | false =>
    simp only [if_neg (show ¬ (false = true) by simp)]
    cases h63 : isB s L i 63 with
    | true => simp only [if_true]; exact Evt.of _
    | false =>
      simp only [if_neg (show ¬ (false = true) by simp)]
      rw [h42, h63] at h
      rcases h with h | h | ⟨e, he⟩
      · cases h
      · cases h
      · have hb := brk_at s L (by omega) i hi
        rw [he] at hb
        refine Evt.bind hb ?_
        simp only [if_pos (show ((e : Nat) : Int) ≥ 0 by omega)]
        exact Evt.of _

theorem frm_lt (s : ByteArray) (L : List Bool) (i : Nat) : i < frm s L i := by
  unfold frm; split <;> omega
/-- From each place on, the program's steps are what the document goes by. -/
theorem both (s : ByteArray) (L : List Bool) (hs : s.size < 1000) :
    ∀ d i, d + i = s.size → ∃ l, (∀ x ∈ l, StepOk s x) ∧ l.length ≤ d ∧ (∀ xs, xs.length ≤ i → Evt (fun k => pat_items.l0 k xs (i : Int) s L) (xs ++ l)) ∧ RefAt s L i l ∧ ActAt s L i l := by
  intro d
  induction d using Nat.strongRecOn with
  | _ d ih =>
    intro i hd
    by_cases h0 : d = 0
    · refine ⟨[], by simp, by simp, fun xs hx => Evt.succ ?_, fun t ht a x5 h5 => Evt.succ ?_, Evt.succ ?_⟩
      · simp only [pat_items.l0, if_neg (show ¬ ((i : Nat) : Int) < (s.size : Int) by omega), List.append_nil]
        exact Evt.of _
      · simp only [conchref1_Match.l0, if_neg (show ¬ ((i : Nat) : Int) < (s.size : Int) by omega), if_pos (show (0 : Int) ≤ (t.size : Int) by omega), if_pos (show (t.size : Int) < (x5.length : Int) by rw [h5.len]; omega), h5.at_ _ (Nat.le_refl _)]
        exact Evt.of _
      · simp only [conchref1_Active.l0, if_neg (show ¬ ((i : Nat) : Int) < (s.size : Int) by omega)]
        exact Evt.of _
    · have hi : i < s.size := by omega
      have hlt : ((i : Nat) : Int) < (s.size : Int) := by omega
      have hge : (0 : Int) ≤ (i : Int) := by omega
      obtain ⟨l1, a1, a2, a3, a4, a5⟩ := ih (d - 1) (by omega) (i + 1) (by omega)
      have app : ∀ (x : S42) (l xs : List S42), xs ++ [x] ++ l = xs ++ x :: l := fun x l xs => by simp
      have okL : StepOk s (lit (bt s (i : Int))) := ⟨.inl rfl, rfl, Nat.zero_le _, by simp [lit]⟩
      have mk : ∀ (x : S42) (l : List S42), StepOk s x → (∀ y ∈ l, StepOk s y) → ∀ y ∈ x :: l, StepOk s y := fun x l hx hl y hy => by
        rcases List.mem_cons.1 hy with rfl | hy
        · exact hx
        · exact hl y hy
      cases hl : Lv L i with
      | false =>
        have no : ∀ c, isB s L i c = false := fun c => by unfold isB; rw [hl]; simp
        have hE : brkI s L i = -1 := by unfold brkI; rw [no]; simp
        refine ⟨lit (bt s (i : Int)) :: l1, mk _ _ okL a1, by simp; omega, fun xs hx => ?_, ref_lit s L hs i hi l1 hE (no _) (no _) a4, act_lit s L hs i hi _ l1 hE (no _) (no _) a5⟩
        have h4 := a3 (xs ++ [lit (bt s (i : Int))]) (by simp; omega)
        rw [app] at h4
        refine Evt.succ ?_
        simp only [pat_items.l0, if_pos hlt, if_pos hge, live_at, Option.bind_some, hl, if_neg (show ¬ (false = true) by simp), if_pos (show xs.length < 2513169434916 by omega), wn i (by omega)]
        exact h4
      | true =>
        have isb : ∀ c, isB s L i c = (bt s (i : Int) == c) := fun c => by unfold isB; rw [hl, decide_eq_true hi]; simp
        have wld : ∀ c : Int, (c = 42 ∨ c = 63) → ∀ xs : List S42, xs.length ≤ i → Evt (fun k => pat_items.j1 k xs (i : Int) c 1 c true s L 0 c ⟨#[]⟩ false true) (xs ++ wild c :: l1) := by
          intro c hc xs hx
          have h4 := a3 (xs ++ [wild c]) (by simp; omega)
          rw [app] at h4
          refine Evt.succ ?_
          simp only [pat_items.j1, if_true, if_pos (show xs.length < 2513169434916 by omega), wn i (by omega)]
          exact h4
        have okW : ∀ c : Int, (c = 42 ∨ c = 63) → StepOk s (wild c) := fun c hc =>
          ⟨by show c = 0 ∨ c = 42 ∨ c = 63 ∨ c = 91; omega, rfl, Nat.zero_le _, ⟨fun h => by simp [wild] at h, fun h => by have : c = 0 := h; omega⟩⟩
        by_cases c42 : bt s (i : Int) = 42
        · have h42 : isB s L i 42 = true := by rw [isb, c42]; rfl
          have hE : brkI s L i = -1 := by unfold brkI; rw [isb, c42]; simp
          refine ⟨wild 42 :: l1, mk _ _ (okW 42 (.inl rfl)) a1, by simp; omega, fun xs hx => Evt.succ ?_, ref_starred s L hs i hi l1 hE h42 a4, act_live s L hs i hi _ rfl l1 (.inl h42)⟩
          simp only [pat_items.l0, if_pos hlt, if_pos hge, live_at, Option.bind_some, hl, if_true, c42, beq_self_eq_true]
          exact wld 42 (.inl rfl) xs hx
        · have h42 : isB s L i 42 = false := by rw [isb]; simpa using c42
          by_cases c63 : bt s (i : Int) = 63
          · have h63 : isB s L i 63 = true := by rw [isb, c63]; rfl
            have hE : brkI s L i = -1 := by unfold brkI; rw [isb, c63]; simp
            refine ⟨wild 63 :: l1, mk _ _ (okW 63 (.inr rfl)) a1, by simp; omega, fun xs hx => Evt.succ ?_, ref_quest s L hs i hi l1 hE h42 h63 a4, act_live s L hs i hi _ rfl l1 (.inr (.inl h63))⟩
            simp only [pat_items.l0, if_pos hlt, if_pos hge, live_at, Option.bind_some, hl, if_true, c63, beq_self_eq_true, if_neg (show ¬ ((63 : Int) = 42) by omega)]
            exact wld 63 (.inr rfl) xs hx
          · have e63 : (bt s (i : Int) == 63) = false := by simpa using c63
            have h63 : isB s L i 63 = false := by rw [isb]; exact e63
            by_cases c91 : bt s (i : Int) = 91
            · have h91 : isB s L i 91 = true := by rw [isb, c91]; rfl
              have hset := set_at s L (by omega) i hi
              cases hE0 : endAt s L i with
              | none =>
                have hE : brkI s L i = -1 := by unfold brkI; rw [if_pos h91, hE0]
                rw [hE0] at hset
                refine ⟨lit (bt s (i : Int)) :: l1, mk _ _ okL a1, by simp; omega, fun xs hx => Evt.succ ?_, ref_lit s L hs i hi l1 hE h42 h63 a4, act_lit s L hs i hi _ l1 hE h42 h63 a5⟩
                have h4 := a3 (xs ++ [lit (bt s (i : Int))]) (by simp; omega)
                rw [app] at h4
                simp only [pat_items.l0, if_pos hlt, if_pos hge, live_at, Option.bind_some, hl, if_true, if_neg c42, e63]
                refine Evt.succ ?_
                simp only [pat_items.j1, if_neg (show ¬ (false = true) by simp), if_pos c91]
                refine Evt.bind hset ?_
                simp only [setR, if_neg (show ¬ ((0 : Int) > 0) by omega), if_pos (show xs.length < 2513169434916 by omega), wn i (by omega)]
                exact h4
              | some e =>
                have hE : brkI s L i = (e : Int) := by unfold brkI; rw [if_pos h91, hE0]
                rw [hE0] at hset
                obtain ⟨f1, f2, -⟩ := fnd_in s L _ _ e hE0
                have f0 := frm_lt s L i
                obtain ⟨l2, b1, b2, b3, b4, b5⟩ := ih (d - (e + 1 - i)) (by omega) (e + 1) (by omega)
                have okR : StepOk s (rowS s L i e) := by
                  refine ⟨.inr (.inr (.inr rfl)), ?_, ?_, by simp [rowS]⟩
                  · show (dsOf L (frm s L i) e).length = (s.extract (frm s L i) e).size
                    rw [ByteArray.size_extract]
                    simp [dsOf]
                    omega
                  · show (s.extract (frm s L i) e).size ≤ s.size
                    rw [ByteArray.size_extract]
                    omega
                refine ⟨rowS s L i e :: l2, mk _ _ okR b1, by simp; omega, fun xs hx => Evt.succ ?_, ref_row s L hs i e hi f2 (by omega) (by omega) l2 hE h42 h63 b4, act_live s L hs i hi _ rfl l2 (.inr (.inr ⟨e, hE⟩))⟩
                have h4 := b3 (xs ++ [rowS s L i e]) (by simp; omega)
                rw [app] at h4
                simp only [pat_items.l0, if_pos hlt, if_pos hge, live_at, Option.bind_some, hl, if_true, if_neg c42, e63]
                refine Evt.succ ?_
                simp only [pat_items.j1, if_neg (show ¬ (false = true) by simp), if_pos c91]
                refine Evt.bind hset ?_
                simp only [setR, if_pos (show ((e + 1 - i : Nat) : Int) > 0 by omega), if_pos (show xs.length < 2513169434916 by omega)]
                rw [wr (n := (i : Int) + ((e + 1 - i : Nat) : Int)) (by omega) (by omega), show (i : Int) + ((e + 1 - i : Nat) : Int) = ((e + 1 : Nat) : Int) by omega]
                exact h4
            · have hE : brkI s L i = -1 := by
                have : isB s L i 91 = false := by rw [isb]; simpa using c91
                unfold brkI; rw [this]; simp
              refine ⟨lit (bt s (i : Int)) :: l1, mk _ _ okL a1, by simp; omega, fun xs hx => Evt.succ ?_, ref_lit s L hs i hi l1 hE h42 h63 a4, act_lit s L hs i hi _ l1 hE h42 h63 a5⟩
              have h4 := a3 (xs ++ [lit (bt s (i : Int))]) (by simp; omega)
              rw [app] at h4
              simp only [pat_items.l0, if_pos hlt, if_pos hge, live_at, Option.bind_some, hl, if_true, if_neg c42, e63]
              refine Evt.succ ?_
              simp only [pat_items.j1, if_neg (show ¬ (false = true) by simp), if_neg c91, if_pos (show xs.length < 2513169434916 by omega), wn i (by omega)]
              exact h4
end Go.Proofs.Ytcfimlllgkknhaa.Mt


namespace Go.Proofs.Ytcfimlllgkknhaa.Mt
open Go.RowKit Go.Proofs.Ytcfimlllgkknhaa.PPatTells Go.Proofs.YtcfimlllgkknhaaW.PrintWords Go.Proofs.YtcfimlllgkknhaaW.PrintLast Go.Proofs.YtcfimlllgkknhaaW.PrintMore
set_option linter.unusedSimpArgs false
set_option linter.unusedVariables false

theorem rmatch_end (s : ByteArray) (L : List Bool) (l : List S42) (h : RefAt s L 0 l) (t : ByteArray) (ht : t.size < 1000) : Evt (fun k => conchref1_Match.f k s L t) (ansE l t) := by
  have hw : wrap64 ((t.size : Int) + 1) = ((t.size + 1 : Nat) : Int) := wn t.size (by omega)
  have h1 := h t ht a0 ((List.replicate (t.size + 1) false).set 0 true) ⟨by simp, fun i hi => by
    rw [rd_set _ _ _ _ (by simp), rd_rep]
    unfold a0
    by_cases e : i = 0 <;> simp [e]⟩
  unfold conchref1_Match.f
  have q1 : (0 : Int) ≤ ((t.size + 1 : Nat) : Int) := Int.natCast_nonneg _
  have q2 : t.size + 1 ≤ 281474976710656 := by omega
  have q3 : (0 : Int) < (((List.replicate (t.size + 1) false).length : Nat) : Int) := by rw [List.length_replicate]; omega
  simp only [hw, if_pos q1, Int.toNat_natCast, if_pos q2, Option.bind_some]
  simp only [if_pos q3]
  exact h1

theorem rcut_step (s : ByteArray) (L : List Bool) (l : List S42) (hR : RefAt s L 0 l) (t : ByteArray) (ht : t.size < 1000) (front long : Bool) (j : Nat) (hj : j ≤ t.size) (r : ByteArray)
    (hr : if ansE l (partOf front t (placeOf front long t.size j)) = true then r = leftOf front t (placeOf front long t.size j) else Evt (fun k => conchref1_Cut.l0 k t front long ((j + 1 : Nat) : Int) s L) r) :
    Evt (fun k => conchref1_Cut.l0 k t front long (j : Int) s L) r := by
  have w1 : Aside0 (wrap64 ((j : Int) + 1) = ((j + 1 : Nat) : Int)) := ⟨wn j (by omega)⟩
  have key : ∀ q : Nat, q ≤ t.size → (q = if long then t.size - j else j) → Evt (fun k => conchref1_Cut.j1 k t front long (j : Int) (q : Int) s L) r := by
    intro q hq hq2
    have w2 : Aside0 (wrap64 ((t.size : Int) - (q : Int)) = ((t.size - q : Nat) : Int)) := ⟨by rw [wr (by omega) (by omega)]; omega⟩
    have g1 : (0 : Int) ≤ (q : Int) := Int.natCast_nonneg q
    have g2 : ((q : Nat) : Int) ≤ (t.size : Int) := by omega
    have g3 : (0 : Int) ≤ ((t.size - q : Nat) : Int) := Int.natCast_nonneg _
    have g4 : ((t.size - q : Nat) : Int) ≤ (t.size : Int) := by omega
    refine Evt.succ ?_
    cases front with
    | true =>
      have e : placeOf true long t.size j = q := by
        unfold placeOf
        cases long <;> simp_all
      rw [e] at hr
      have hm := rmatch_end s L l hR (t.extract 0 q) (by rw [ByteArray.size_extract]; omega)
      simp only [conchref1_Cut.j1, if_true, if_pos g1, if_pos g2, Int.toNat_natCast]
      refine Evt.bind hm ?_
      refine Evt.succ ?_
      have e2 : partOf true t q = t.extract 0 q := rfl
      rw [e2] at hr
      by_cases ha : ansE l (t.extract 0 q) = true
      · rw [if_pos ha] at hr
        subst hr
        simp only [ha, conchref1_Cut.j2, if_true, if_pos g1, if_pos g2, Int.toNat_natCast]
        exact Evt.of _
      · rw [if_neg ha] at hr
        simp only [ha, conchref1_Cut.j2, if_neg (show ¬ (false = true) by simp), if_true, w1.out]
        exact hr
    | false =>
      have e : placeOf false long t.size j = t.size - q := by
        unfold placeOf
        cases long <;> simp_all <;> omega
      rw [e] at hr
      have hm := rmatch_end s L l hR (t.extract (t.size - q) t.size) (by rw [ByteArray.size_extract]; omega)
      simp only [conchref1_Cut.j1, if_neg (show ¬ (false = true) by simp)]
      refine Evt.succ ?_
      simp only [conchref1_Cut.j2, if_neg (show ¬ (false = true) by simp), w2.out, if_pos g3, if_pos g4, Int.toNat_natCast]
      refine Evt.bind hm ?_
      have e2 : partOf false t (t.size - q) = t.extract (t.size - q) t.size := rfl
      rw [e2] at hr
      by_cases ha : ansE l (t.extract (t.size - q) t.size) = true
      · rw [if_pos ha] at hr
        subst hr
        simp only [ha, if_true]
        exact Evt.of _
      · rw [if_neg ha] at hr
        simp only [ha, if_neg (show ¬ (false = true) by simp), w1.out]
        exact hr
  refine Evt.succ ?_
  have g0 : ((j : Nat) : Int) ≤ (t.size : Int) := by omega
  cases long with
  | true =>
    have w3 : Aside0 (wrap64 ((t.size : Int) - (j : Int)) = ((t.size - j : Nat) : Int)) := ⟨by rw [wr (by omega) (by omega)]; omega⟩
    simp only [conchref1_Cut.l0, if_pos g0, if_true, w3.out]
    exact key (t.size - j) (by omega) rfl
  | false =>
    simp only [conchref1_Cut.l0, if_pos g0, if_neg (show ¬ (false = true) by simp)]
    exact key j hj rfl
theorem cut_same (s : ByteArray) (hs : s.size < 1000) (L : List Bool) (l : List S42) (hl : l.length ≤ s.size) (h : ∀ x ∈ l, StepOk s x) (hR : RefAt s L 0 l) (t : ByteArray) (ht : t.size < 1000) (front long : Bool) :
    ∀ d j, d + j = t.size + 1 → ∃ r, Evt (fun k => pat_Cut.l0 k t front long l ((t.size + 1 : Nat) : Int) (j : Int)) r ∧ Evt (fun k => conchref1_Cut.l0 k t front long (j : Int) s L) r := by
  intro d
  induction d with
  | zero =>
    intro j hj
    refine ⟨t, Evt.succ ?_, Evt.succ ?_⟩
    · simp only [pat_Cut.l0, if_neg (show ¬ ((j : Nat) : Int) < ((t.size + 1 : Nat) : Int) by omega)]
      exact Evt.of _
    · simp only [conchref1_Cut.l0, if_neg (show ¬ ((j : Nat) : Int) ≤ (t.size : Int) by omega)]
      exact Evt.of _
  | succ d ih =>
    intro j hj
    cases ha : ansE l (partOf front t (placeOf front long t.size j)) with
    | true => exact ⟨_, cut_step s hs l hl h t ht front long j (by omega) (leftOf front t (placeOf front long t.size j)) (by rw [if_pos ha]), rcut_step s L l hR t ht front long j (by omega) _ (by rw [if_pos ha])⟩
    | false =>
      obtain ⟨r, h1, h2⟩ := ih (j + 1) (by omega)
      exact ⟨r, cut_step s hs l hl h t ht front long j (by omega) r (by rw [if_neg (by rw [ha]; simp)]; exact h1), rcut_step s L l hR t ht front long j (by omega) r (by rw [if_neg (by rw [ha]; simp)]; exact h2)⟩

/-- What is asked of a pattern and a text: the program's and the document's answers are one. -/
structure Same (s : ByteArray) (L : List Bool) (t : ByteArray) (front long : Bool) (m a : Bool) (c : ByteArray) : Prop where
  m1 : ∃ k, pat_Match.f k s L t = some m
  m2 : ∃ k, conchref1_Match.f k s L t = some m
  a1 : ∃ k, pat_Active.f k s L = some a
  a2 : ∃ k, conchref1_Active.f k s L = some a
  c1 : ∃ k, pat_Cut.f k s L t front long = some c
  c2 : ∃ k, conchref1_Cut.f k s L t front long = some c
theorem same_all (s : ByteArray) (hs : s.size ≤ 60) (L : List Bool) (t : ByteArray) (ht : t.size ≤ 60) (front long : Bool) : ∃ m a c, Same s L t front long m a c := by
  obtain ⟨l, h1, h2, h3, h4, h5⟩ := both s L (by omega) s.size 0 (by omega)
  have hi : Evt (fun k => pat_items.f k s L) l := by
    have := h3 [] (by simp)
    rw [List.nil_append] at this
    exact this
  obtain ⟨c, hc1, hc2⟩ := cut_same s (by omega) L l h2 h1 h4 t (by omega) front long (t.size + 1) 0 (by omega)
  refine ⟨ansE l t, l.any (fun x => !x.f5), c, (match_end s (by omega) L l hi h2 h1 t (by omega)).ex, (rmatch_end s L l h4 t (by omega)).ex, (active_end s L l (by omega) hi).ex, ?_, ?_, ?_⟩
  · exact Evt.ex (f := fun k => conchref1_Active.f k s L) h5
  · refine Evt.ex (f := fun k => pat_Cut.f k s L t front long) ?_
    unfold pat_Cut.f
    refine Evt.bind hi ?_
    rw [show wrap64 ((t.size : Int) + 1) = ((t.size + 1 : Nat) : Int) from wn _ (by omega)]
    exact hc1
  · exact Evt.ex (f := fun k => conchref1_Cut.f k s L t front long) hc2
end Go.Proofs.Ytcfimlllgkknhaa.Mt

