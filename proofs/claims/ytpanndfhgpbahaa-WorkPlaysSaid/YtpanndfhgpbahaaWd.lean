/-
  A number goes down to its place.
-/
import Derived.Test.YtpanndfhgpbahaaWc
set_option linter.unusedSimpArgs false
set_option linter.unusedVariables false
namespace Go.Proofs.Ytpanndfhgpbahaa
open Go.RowKit
theorem less_at {B : Nat} {W : World} {gp : Nat} {mp : Value} {n g c : Nat} {a : Nat → Int} (h : St B W gp mp n a) (hv : W.heap[gp]? = some (.cells #[.slice (some ⟨g, 0, none⟩) n c, mp] 36 (0, 0))) (i k : Nat) (I K : Int) (hI : I = (i : Int)) (hK : K = (k : Int)) (hi : i < n) (hk : k < n) :
    Calls Try.prog 31 #[.slice (some ⟨g, 0, none⟩) n c, .int .i64 I, .int .i64 K] W fun e w' => e = .returned (.bool (decide (a i < a k))) ∧ w' = W.drew := by
  subst hI hK
  obtain ⟨g1, c1, h1, h2⟩ := less_st h i k hi hk
  rw [hv] at h1
  cases h1
  exact h2
theorem swap_at {B : Nat} {W : World} {gp : Nat} {mp : Value} {n g c : Nat} {a : Nat → Int} (h : St B W gp mp n a) (hv : W.heap[gp]? = some (.cells #[.slice (some ⟨g, 0, none⟩) n c, mp] 36 (0, 0))) (i k : Nat) (I K : Int) (hI : I = (i : Int)) (hK : K = (k : Int)) (hi : i < n) (hk : k < n) :
    Calls Try.prog 32 #[.slice (some ⟨g, 0, none⟩) n c, .int .i64 I, .int .i64 K] W fun e w' => e = .returned (.tuple #[]) ∧ St B w' gp mp n (swp a i k) ∧ Fr B W w' := by
  subst hI hK
  obtain ⟨g1, c1, h1, h2⟩ := swap_st h i k hi hk
  rw [hv] at h1
  cases h1
  exact h2

/-- No number is less than its parent, but below i. -/
structure Dxc (N : Nat) (a : Nat → Int) (i : Nat) : Prop where
  ne : ∀ k, 0 < k → k < N → (k - 1) / 2 ≠ i → a ((k - 1) / 2) ≤ a k
  up : 0 < i → ∀ k, 0 < k → k < N → (k - 1) / 2 = i → a ((i - 1) / 2) ≤ a k
theorem dxc_none {N : Nat} {a : Nat → Int} {i : Nat} (h : Dxc N a i) (hn : N ≤ 2 * i + 1) : Heap N a := fun k h1 h2 => h.ne k h1 h2 (by omega)
theorem dxc_stop {N : Nat} {a : Nat → Int} {i j : Nat} (h : Dxc N a i) (hj : j = 2 * i + 1 ∨ j = 2 * i + 2) (hmin : ∀ k, k < N → (k = 2 * i + 1 ∨ k = 2 * i + 2) → a j ≤ a k) (hge : ¬ a j < a i) : Heap N a := fun k h1 h2 => by
  by_cases e : (k - 1) / 2 = i
  · have := hmin k h2 (by omega)
    rw [e]
    omega
  · exact h.ne k h1 h2 e
theorem dxc_go {N : Nat} {a : Nat → Int} {i j : Nat} (h : Dxc N a i) (hj : j = 2 * i + 1 ∨ j = 2 * i + 2) (hjN : j < N) (hmin : ∀ k, k < N → (k = 2 * i + 1 ∨ k = 2 * i + 2) → a j ≤ a k) (hlt : a j < a i) : Dxc N (swp a i j) j := by
  have e1 : swp a i j j = a i := by unfold swp; rw [if_pos rfl]
  have e2 : swp a i j i = a j := by unfold swp; rw [if_neg (by omega), if_pos rfl]
  have e3 : ∀ x, x ≠ j → x ≠ i → swp a i j x = a x := fun x h1 h2 => by unfold swp; rw [if_neg h1, if_neg h2]
  constructor
  · intro k h1 h2 h3
    by_cases k1 : k = j
    · have : (k - 1) / 2 = i := by omega
      rw [this, k1, e1, e2]
      omega
    · by_cases q1 : (k - 1) / 2 = i
      · rw [q1, e2, e3 k k1 (by omega)]
        exact hmin k h2 (by omega)
      · by_cases k2 : k = i
        · rw [k2, e2, e3 _ (by omega) (by omega)]
          exact h.up (by omega) j (by omega) hjN (by omega)
        · rw [e3 k k1 k2, e3 _ h3 q1]
          exact h.ne k h1 h2 q1
  · intro h0 k h1 h2 h3
    have : (j - 1) / 2 = i := by omega
    rw [this, e2, e3 k (by omega) (by omega)]
    have := h.ne k h1 h2 (by omega)
    rw [h3] at this
    exact this
theorem swp_far (a : Nat → Int) (i k x : Nat) (h1 : x ≠ i) (h2 : x ≠ k) : swp a i k x = a x := by unfold swp; rw [if_neg h2, if_neg h1]

set_option maxHeartbeats 8000000 in
set_option maxRecDepth 100000 in
theorem down_st {B : Nat} {w : World} {gp : Nat} {mp : Value} {M : Nat} {a : Nat → Int} (h : St B w gp mp M a) (hM : M ≤ 1000000) (N : Nat) (hN : N ≤ M) (hE : Dxc N a 0) :
    Calls Try.prog 12 #[.iface 38 (.pointer (some ⟨gp, 0, none⟩)), .int .i64 0, .int .i64 N] w fun e w' => (∃ q, e = .returned (.bool q)) ∧ ∃ b, St B w' gp mp M b ∧ Fr B w w' ∧ Heap N b ∧ Same M a b ∧ ∀ x, N ≤ x → b x = a x := by
  have H0 := Aside0.mk h
  have H1 := Aside0.mk hE
  clear h hE
  go_enter Try.func12, Try.ntmps12
  go_wp2
  go_loopg [7] N (fun kx s7 wr => ∃ (i : Nat) (b : Nat → Int), s7 = .int .i64 i ∧ i ≤ N ∧ N - i ≤ kx ∧ Aside0 (St B wr gp mp M b) ∧ Aside0 (Fr B w wr) ∧ Aside0 (Dxc N b i) ∧ Aside0 (Same M a b) ∧ Aside0 (∀ x, N ≤ x → b x = a x))
  case atStart => exact ⟨0, a, rfl, by omega, by omega, H0, ⟨Fr.refl _ _⟩, H1, ⟨Same.refl _ _⟩, ⟨fun _ _ => rfl⟩⟩
  case round =>
    obtain ⟨i, b, rfl, hi, hk, HS, HF, HE, HM, HX⟩ := hrel
    by_cases h0 : N ≤ 2 * i + 1
    · have h0z : (N : Int) ≤ 2 * (i : Int) + 1 := by omega
      have HH : St B wr gp mp M b ∧ Fr B w wr ∧ Heap N b ∧ Same M a b ∧ ∀ x, N ≤ x → b x = a x := ⟨HS.out, HF.out, dxc_none HE.out h0, HM.out, HX.out⟩
      clear HS HF HE HM HX
      go_wp2
      (try simp only [Exit.inBlock, Exit.then])
      go_ret
      exact ⟨⟨_, rfl⟩, b, HH⟩
    · have h0z : ¬ ((N : Int) ≤ 2 * (i : Int) + 1) := by omega
      obtain ⟨g, c, cur, hv, -⟩ := HS.out.open_ (by omega)
      have c0 : wr.cell? ⟨gp, 0, none⟩ = some (.slice (some ⟨g, 0, none⟩) M c) := by simp [World.cell?, hv]
      have c1 : wr.drew.cell? ⟨gp, 0, none⟩ = some (.slice (some ⟨g, 0, none⟩) M c) := c0
      have c2 : wr.drew.drew.cell? ⟨gp, 0, none⟩ = some (.slice (some ⟨g, 0, none⟩) M c) := c0
      have L0 := method_of mLess wr gp (some ⟨g, 0, none⟩) M c c0
      have L1 := method_of mLess wr.drew gp (some ⟨g, 0, none⟩) M c c1
      have S1 := method_of mSwap wr.drew gp (some ⟨g, 0, none⟩) M c c1
      have S2 := method_of mSwap wr.drew.drew gp (some ⟨g, 0, none⟩) M c c2
      have hvx := Aside0.mk hv
      clear hv
      -- once the lesser child is known
      by_cases h1 : 2 * i + 2 < N
      · have h1z : 2 * (i : Int) + 1 + 1 < (N : Int) := by omega
        have A1 := Aside0.mk (less_at HS.out hvx.out (2 * i + 2) (2 * i + 1) (2 * (i : Int) + 1 + 1) (2 * (i : Int) + 1) (by omega) (by omega) (by omega) (by omega))
        by_cases d1 : b (2 * i + 2) < b (2 * i + 1)
        · rw [decide_eq_true d1] at A1
          have hmin : ∀ k, k < N → (k = 2 * i + 1 ∨ k = 2 * i + 2) → b (2 * i + 2) ≤ b k := fun k _ hk => by rcases hk with rfl | rfl <;> omega
          have A2 := Aside0.mk (less_at HS.out.drew hvx.out (2 * i + 2) i (2 * (i : Int) + 1 + 1) (i : Int) (by omega) rfl (by omega) (by omega))
          by_cases d2 : b (2 * i + 2) < b i
          · rw [decide_eq_true d2] at A2
            have A3 := Aside0.mk (swap_at HS.out.drew.drew hvx.out i (2 * i + 2) (i : Int) (2 * (i : Int) + 1 + 1) rfl (by omega) (by omega) (by omega))
            have HH := Aside0.mk (And.intro hmin d2)
            clear hmin d2 d1
            go_wp2_with (first
              | (go_at_call 31; (with_reducible refine A1.out.mono ?_); rintro e w1 ⟨rfl, rfl⟩)
              | (go_at_call 31; (with_reducible refine A2.out.mono ?_); rintro e w1 ⟨rfl, rfl⟩)
              | (go_at_call 32; (with_reducible refine A3.out.mono ?_); rintro e w2 ⟨rfl, hs2, hf2⟩; have HS2 := Aside0.mk hs2; have HF2 := Aside0.mk hf2; clear hs2 hf2))
            go_roundg (N - (2 * i + 2))
            case measure => omega
            case rel => exact ⟨2 * i + 2, swp b i (2 * i + 2), by go_num, by omega, Nat.le_refl _, HS2, ⟨HF.out.drew.drew.trans HF2.out⟩, ⟨dxc_go HE.out (.inr rfl) (by omega) HH.out.1 HH.out.2⟩, ⟨HM.out.trans (same_swp M b i (2 * i + 2) (by omega) (by omega))⟩, ⟨fun x hx => (swp_far b i _ x (by omega) (by omega)).trans (HX.out x hx)⟩⟩
          · rw [decide_eq_false d2] at A2
            have HH : St B wr.drew.drew gp mp M b ∧ Fr B w wr.drew.drew ∧ Heap N b ∧ Same M a b ∧ ∀ x, N ≤ x → b x = a x := ⟨HS.out.drew.drew, HF.out.drew.drew, dxc_stop HE.out (.inr rfl) hmin d2, HM.out, HX.out⟩
            clear hmin d2 d1 HS HF HE HM HX
            go_wp2_with (first
              | (go_at_call 31; (with_reducible refine A1.out.mono ?_); rintro e w1 ⟨rfl, rfl⟩)
              | (go_at_call 31; (with_reducible refine A2.out.mono ?_); rintro e w1 ⟨rfl, rfl⟩))
            (try simp only [Exit.inBlock, Exit.then])
            go_ret
            exact ⟨⟨_, rfl⟩, b, HH⟩
        · rw [decide_eq_false d1] at A1
          have hmin : ∀ k, k < N → (k = 2 * i + 1 ∨ k = 2 * i + 2) → b (2 * i + 1) ≤ b k := fun k _ hk => by rcases hk with rfl | rfl <;> omega
          have A2 := Aside0.mk (less_at HS.out.drew hvx.out (2 * i + 1) i (2 * (i : Int) + 1) (i : Int) (by omega) rfl (by omega) (by omega))
          by_cases d2 : b (2 * i + 1) < b i
          · rw [decide_eq_true d2] at A2
            have A3 := Aside0.mk (swap_at HS.out.drew.drew hvx.out i (2 * i + 1) (i : Int) (2 * (i : Int) + 1) rfl (by omega) (by omega) (by omega))
            have HH := Aside0.mk (And.intro hmin d2)
            clear hmin d2 d1
            go_wp2_with (first
              | (go_at_call 31; (with_reducible refine A1.out.mono ?_); rintro e w1 ⟨rfl, rfl⟩)
              | (go_at_call 31; (with_reducible refine A2.out.mono ?_); rintro e w1 ⟨rfl, rfl⟩)
              | (go_at_call 32; (with_reducible refine A3.out.mono ?_); rintro e w2 ⟨rfl, hs2, hf2⟩; have HS2 := Aside0.mk hs2; have HF2 := Aside0.mk hf2; clear hs2 hf2))
            go_roundg (N - (2 * i + 1))
            case measure => omega
            case rel => exact ⟨2 * i + 1, swp b i (2 * i + 1), by go_num, by omega, Nat.le_refl _, HS2, ⟨HF.out.drew.drew.trans HF2.out⟩, ⟨dxc_go HE.out (.inl rfl) (by omega) HH.out.1 HH.out.2⟩, ⟨HM.out.trans (same_swp M b i (2 * i + 1) (by omega) (by omega))⟩, ⟨fun x hx => (swp_far b i _ x (by omega) (by omega)).trans (HX.out x hx)⟩⟩
          · rw [decide_eq_false d2] at A2
            have HH : St B wr.drew.drew gp mp M b ∧ Fr B w wr.drew.drew ∧ Heap N b ∧ Same M a b ∧ ∀ x, N ≤ x → b x = a x := ⟨HS.out.drew.drew, HF.out.drew.drew, dxc_stop HE.out (.inl rfl) hmin d2, HM.out, HX.out⟩
            clear hmin d2 d1 HS HF HE HM HX
            go_wp2_with (first
              | (go_at_call 31; (with_reducible refine A1.out.mono ?_); rintro e w1 ⟨rfl, rfl⟩)
              | (go_at_call 31; (with_reducible refine A2.out.mono ?_); rintro e w1 ⟨rfl, rfl⟩))
            (try simp only [Exit.inBlock, Exit.then])
            go_ret
            exact ⟨⟨_, rfl⟩, b, HH⟩
      · have h1z : ¬ (2 * (i : Int) + 1 + 1 < (N : Int)) := by omega
        have hmin : ∀ k, k < N → (k = 2 * i + 1 ∨ k = 2 * i + 2) → b (2 * i + 1) ≤ b k := fun k hkN hk => by
          rcases hk with rfl | rfl
          · exact Int.le_refl _
          · omega
        have A2 := Aside0.mk (less_at HS.out hvx.out (2 * i + 1) i (2 * (i : Int) + 1) (i : Int) (by omega) rfl (by omega) (by omega))
        by_cases d2 : b (2 * i + 1) < b i
        · rw [decide_eq_true d2] at A2
          have A3 := Aside0.mk (swap_at HS.out.drew hvx.out i (2 * i + 1) (i : Int) (2 * (i : Int) + 1) rfl (by omega) (by omega) (by omega))
          have HH := Aside0.mk (And.intro hmin d2)
          clear hmin d2
          go_wp2_with (first
            | (go_at_call 31; (with_reducible refine A2.out.mono ?_); rintro e w1 ⟨rfl, rfl⟩)
            | (go_at_call 32; (with_reducible refine A3.out.mono ?_); rintro e w2 ⟨rfl, hs2, hf2⟩; have HS2 := Aside0.mk hs2; have HF2 := Aside0.mk hf2; clear hs2 hf2))
          go_roundg (N - (2 * i + 1))
          case measure => omega
          case rel => exact ⟨2 * i + 1, swp b i (2 * i + 1), by go_num, by omega, Nat.le_refl _, HS2, ⟨HF.out.drew.trans HF2.out⟩, ⟨dxc_go HE.out (.inl rfl) (by omega) HH.out.1 HH.out.2⟩, ⟨HM.out.trans (same_swp M b i (2 * i + 1) (by omega) (by omega))⟩, ⟨fun x hx => (swp_far b i _ x (by omega) (by omega)).trans (HX.out x hx)⟩⟩
        · rw [decide_eq_false d2] at A2
          have HH : St B wr.drew gp mp M b ∧ Fr B w wr.drew ∧ Heap N b ∧ Same M a b ∧ ∀ x, N ≤ x → b x = a x := ⟨HS.out.drew, HF.out.drew, dxc_stop HE.out (.inl rfl) hmin d2, HM.out, HX.out⟩
          clear hmin d2 HS HF HE HM HX
          go_wp2_with (first
            | (go_at_call 31; (with_reducible refine A2.out.mono ?_); rintro e w1 ⟨rfl, rfl⟩))
          (try simp only [Exit.inBlock, Exit.then])
          go_ret
          exact ⟨⟨_, rfl⟩, b, HH⟩
end Go.Proofs.Ytpanndfhgpbahaa
