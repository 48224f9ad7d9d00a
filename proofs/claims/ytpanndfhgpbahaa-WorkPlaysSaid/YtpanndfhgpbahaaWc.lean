/-
  The heap's own functions: a number goes up, or down, to its place.
-/
import Derived.Test.YtpanndfhgpbahaaWb
import Derived.Deep.LoopGhost
set_option linter.unusedSimpArgs false
set_option linter.unusedVariables false
namespace Go.Proofs.Ytpanndfhgpbahaa
open Go.RowKit
theorem Try.under38 : Try.prog.underlying 38 = some (.pointer 34) := by kernel_rfl
theorem method_of {name : String} {f : FuncId} (hf : (Try.prog.info? 38).bind (fun i => (i.methods.find? (·.name == name)).map (fun m => (m.path.toList, m.func))) = some ([], some (f, false))) (w : World) (gp : Nat) (A : Option Addr) (n c : Nat)
    (c0 : w.cell? ⟨gp, 0, none⟩ = some (.slice A n c)) : (method 164 38 (.pointer (some ⟨gp, 0, none⟩)) name).run Try.prog w = .ok (f, .slice A n c) w := by
  obtain ⟨i, h1, h2⟩ := Option.bind_eq_some_iff.1 hf
  obtain ⟨m, h3, h4⟩ := Option.map_eq_some_iff.1 h2
  simp only [Prod.mk.injEq] at h4
  obtain ⟨h4, h5⟩ := h4
  have h4' : m.path = #[] := by simpa using h4
  unfold method
  simp only [typeInfo, h1, h3, h4', h5]
  have hw : ∀ nm, (Builtin.ssaWrapNilChk_ #[38] 38 #[.pointer (some ⟨gp, 0, none⟩), strVal "", strVal nm]).run Try.prog w = .ok (.pointer (some ⟨gp, 0, none⟩)) w := fun nm => rfl
  have hl : (loadVar 34 ⟨gp, 0, none⟩).run Try.prog w = .ok (.slice A n c) w := by
    go_simp
  simp [h1, h3, h4', h5, follow, receiverAt, run_underlying Try.under38, Place.get, hw, asAddr, hl]
theorem mLen : (Try.prog.info? 38).bind (fun i => (i.methods.find? (·.name == "Len")).map (fun m => (m.path.toList, m.func))) = some ([], some (30, false)) := by kernel_rfl
theorem mLess : (Try.prog.info? 38).bind (fun i => (i.methods.find? (·.name == "Less")).map (fun m => (m.path.toList, m.func))) = some ([], some (31, false)) := by kernel_rfl
theorem mSwap : (Try.prog.info? 38).bind (fun i => (i.methods.find? (·.name == "Swap")).map (fun m => (m.path.toList, m.func))) = some ([], some (32, false)) := by kernel_rfl

structure Aside0 (p : Prop) : Prop where mk :: (out : p)
/-- No number is less than its parent, but at j. -/
structure Exc (n : Nat) (a : Nat → Int) (j : Nat) : Prop where
  ne : ∀ k, 0 < k → k < n → k ≠ j → a ((k - 1) / 2) ≤ a k
  up : 0 < j → ∀ k, 0 < k → k < n → (k - 1) / 2 = j → a ((j - 1) / 2) ≤ a k
def Heap (n : Nat) (a : Nat → Int) : Prop := ∀ k, 0 < k → k < n → a ((k - 1) / 2) ≤ a k
/-- The same numbers. -/
structure Same (n : Nat) (a b : Nat → Int) : Prop where
  mem : ∀ x, (∃ i, i < n ∧ b i = x) ↔ (∃ i, i < n ∧ a i = x)
  inj : (∀ i k, i < n → k < n → a i = a k → i = k) → (∀ i k, i < n → k < n → b i = b k → i = k)
theorem Same.refl (n : Nat) (a : Nat → Int) : Same n a a := ⟨fun _ => Iff.rfl, fun h => h⟩
theorem Same.trans {n : Nat} {a b c : Nat → Int} (h : Same n a b) (k : Same n b c) : Same n a c := ⟨fun x => (k.mem x).trans (h.mem x), fun g => k.inj (h.inj g)⟩
def tau (i k x : Nat) : Nat := if x = k then i else if x = i then k else x
theorem swp_at (a : Nat → Int) (i k x : Nat) : swp a i k x = a (tau i k x) := by
  unfold swp tau
  split
  · rfl
  · split <;> rfl
theorem tau_tau (i k x : Nat) : tau i k (tau i k x) = x := by
  unfold tau
  by_cases h1 : x = k
  · subst h1
    by_cases h2 : i = x <;> simp [h2]
  · by_cases h2 : x = i
    · subst h2
      simp [h1]
    · simp [h1, h2]
theorem same_swp (n : Nat) (a : Nat → Int) (i k : Nat) (hi : i < n) (hk : k < n) : Same n a (swp a i k) := by
  have lt : ∀ x, x < n → tau i k x < n := fun x hx => by unfold tau; split <;> (try split) <;> omega
  refine ⟨fun x => ⟨?_, ?_⟩, fun h p q hp hq e => ?_⟩
  · rintro ⟨p, hp, rfl⟩
    exact ⟨_, lt p hp, (swp_at a i k p).symm⟩
  · rintro ⟨p, hp, rfl⟩
    exact ⟨_, lt p hp, by rw [swp_at, tau_tau]⟩
  · rw [swp_at, swp_at] at e
    have h3 := h _ _ (lt p hp) (lt q hq) e
    have h4 := congrArg (tau i k) h3
    rw [tau_tau, tau_tau] at h4
    exact h4
/-- A number that is less than its parent changes places with it. -/
theorem exc_up {n : Nat} {a : Nat → Int} {m : Nat} (hm : m + 1 < n) (h : Exc n a (m + 1)) (hlt : a (m + 1) < a (m / 2)) : Exc n (swp a (m / 2) (m + 1)) (m / 2) := by
  have e1 : swp a (m / 2) (m + 1) (m + 1) = a (m / 2) := by unfold swp; rw [if_pos rfl]
  have e2 : swp a (m / 2) (m + 1) (m / 2) = a (m + 1) := by unfold swp; rw [if_neg (by omega), if_pos rfl]
  have e3 : ∀ x, x ≠ m + 1 → x ≠ m / 2 → swp a (m / 2) (m + 1) x = a x := fun x h1 h2 => by unfold swp; rw [if_neg h1, if_neg h2]
  have hp : ∀ k, 0 < k → k < n → k ≠ m + 1 → a ((k - 1) / 2) ≤ a k := h.ne
  have hu := h.up (by omega)
  rw [Nat.add_sub_cancel] at hu
  constructor
  · intro k h1 h2 h3
    by_cases k1 : k = m + 1
    · subst k1
      rw [Nat.add_sub_cancel, e1, e2]
      omega
    · rw [e3 k k1 h3]
      by_cases q1 : (k - 1) / 2 = m + 1
      · rw [q1, e1]
        exact hu k h1 h2 q1
      · by_cases q2 : (k - 1) / 2 = m / 2
        · rw [q2, e2]
          have := hp k h1 h2 k1
          rw [q2] at this
          omega
        · rw [e3 _ q1 q2]
          exact hp k h1 h2 k1
  · intro h0 k h1 h2 h3
    have q3 : m / 2 - 1 < m / 2 := by omega
    have p1 : (m / 2 - 1) / 2 ≠ m + 1 := by omega
    have p2 : (m / 2 - 1) / 2 ≠ m / 2 := by omega
    have hpp := hp (m / 2) h0 (by omega) (by omega)
    rw [e3 _ p1 p2]
    by_cases k1 : k = m + 1
    · rw [k1, e1]
      exact hpp
    · rw [e3 k k1 (by omega)]
      have := hp k h1 h2 k1
      rw [h3] at this
      omega
theorem heap_of {n : Nat} {a : Nat → Int} {m : Nat} (h : Exc n a (m + 1)) (hlt : ¬ a (m + 1) < a (m / 2)) : Heap n a := fun k h1 h2 => by
  by_cases e : k = m + 1
  · subst e
    rw [Nat.add_sub_cancel]
    omega
  · exact h.ne k h1 h2 e
theorem heap_zero {n : Nat} {a : Nat → Int} (h : Exc n a 0) : Heap n a := fun k h1 h2 => h.ne k h1 h2 (by omega)

set_option maxHeartbeats 4000000 in
set_option maxRecDepth 100000 in
theorem up_st {B : Nat} {w : World} {gp : Nat} {mp : Value} {n : Nat} {a : Nat → Int} (h : St B w gp mp n a) (hn : n ≤ 1000000) (j : Nat) (hj : j < n) (hE : Exc n a j) :
    Calls Try.prog 13 #[.iface 38 (.pointer (some ⟨gp, 0, none⟩)), .int .i64 j] w fun e w' => e = .returned (.tuple #[]) ∧ ∃ b, St B w' gp mp n b ∧ Fr B w w' ∧ Heap n b ∧ Same n a b := by
  have H0 := Aside0.mk h
  have H1 := Aside0.mk hE
  clear h hE
  go_enter Try.func13, Try.ntmps13
  go_wp2
  go_loopg [1] j (fun kx s1 wr => ∃ (j : Nat) (b : Nat → Int), s1 = .int .i64 j ∧ j < n ∧ j ≤ kx ∧ Aside0 (St B wr gp mp n b) ∧ Aside0 (Fr B w wr) ∧ Aside0 (Exc n b j) ∧ Aside0 (Same n a b))
  case atStart => exact ⟨j, a, rfl, hj, Nat.le_refl _, H0, ⟨Fr.refl _ _⟩, H1, ⟨Same.refl _ _⟩⟩
  case round =>
    obtain ⟨j', b, rfl, hj', hk, HS, HF, HE, HM⟩ := hrel
    obtain ⟨hB, v, hv, hr⟩ := HS.out
    have hpos : 0 < n := by omega
    obtain ⟨g, c, cur, hv2, -⟩ := HS.out.open_ hpos
    have c0 : wr.cell? ⟨gp, 0, none⟩ = some (.slice (some ⟨g, 0, none⟩) n c) := by simp [World.cell?, hv2]
    clear hv hr
    cases j' with
    | zero =>
      have HH : St B wr gp mp n b ∧ Fr B w wr ∧ Heap n b ∧ Same n a b := ⟨HS.out, HF.out, heap_zero HE.out, HM.out⟩
      clear HS HF HE HM
      go_wp2
      (try simp only [Exit.inBlock, Exit.then])
      go_end0
      exact ⟨rfl, b, HH⟩
    | succ m =>
      have hq : Int.tdiv (m : Int) 2 = ((m / 2 : Nat) : Int) := rfl
      have hne : ¬ (((m / 2 : Nat) : Int) = (m : Int) + 1) := by omega
      have hL := method_of mLess wr gp (some ⟨g, 0, none⟩) n c c0
      have c0' : wr.drew.cell? ⟨gp, 0, none⟩ = some (.slice (some ⟨g, 0, none⟩) n c) := c0
      have hS := method_of mSwap wr.drew gp (some ⟨g, 0, none⟩) n c c0'
      obtain ⟨g1, c1, hv3, HC⟩ := less_st HS.out (m + 1) (m / 2) hj' (by omega)
      rw [hv2] at hv3
      cases hv3
      obtain ⟨g1, c1, hv4, HW⟩ := swap_st HS.out.drew (m / 2) (m + 1) (by omega) hj'
      have hv4' : wr.heap[gp]? = some (.cells #[.slice (some ⟨g1, 0, none⟩) n c1, mp] 36 (0, 0)) := hv4
      rw [hv2] at hv4'
      cases hv4'
      have HC2 : Calls Try.prog 31 #[.slice (some ⟨g, 0, none⟩) n c, .int .i64 ((m : Int) + 1), .int .i64 ((m : Int) / 2)] wr fun e w' => e = .returned (.bool (decide (b (m + 1) < b (m / 2)))) ∧ w' = wr.drew := HC
      have HW2 : Calls Try.prog 32 #[.slice (some ⟨g, 0, none⟩) n c, .int .i64 ((m : Int) / 2), .int .i64 ((m : Int) + 1)] wr.drew fun e w' => e = .returned (.tuple #[]) ∧ St B w' gp mp n (swp b (m / 2) (m + 1)) ∧ Fr B wr.drew w' := HW
      have hcx := Aside0.mk HC2
      have hwx := Aside0.mk HW2
      clear HC HW HC2 HW2 hv4
      by_cases hlt : b (m + 1) < b (m / 2)
      · have hd : decide (b (m + 1) < b (m / 2)) = true := decide_eq_true hlt
        rw [hd] at hcx
        have HLT := Aside0.mk hlt
        clear hd hlt
        go_wp2_with (first
          | (go_at_call 31; refine hcx.out.mono ?_; rintro e w1 ⟨rfl, rfl⟩)
          | (go_at_call 32; refine hwx.out.mono ?_; rintro e w2 ⟨rfl, hs2, hf2⟩; have HS2 := Aside0.mk hs2; have HF2 := Aside0.mk hf2; clear hs2 hf2))
        go_roundg (m / 2)
        case measure => omega
        case rel => exact ⟨m / 2, swp b (m / 2) (m + 1), by go_num, by omega, Nat.le_refl _, HS2, ⟨(HF.out.drew).trans HF2.out⟩, ⟨exc_up hj' HE.out HLT.out⟩, ⟨HM.out.trans (same_swp n b (m / 2) (m + 1) (by omega) hj')⟩⟩
      · have hd : decide (b (m + 1) < b (m / 2)) = false := decide_eq_false hlt
        rw [hd] at hcx
        have HH : St B wr.drew gp mp n b ∧ Fr B w wr.drew ∧ Heap n b ∧ Same n a b := ⟨HS.out.drew, HF.out.drew, heap_of HE.out hlt, HM.out⟩
        clear hd hlt HS HF HE HM
        go_wp2_with (go_at_call 31; refine hcx.out.mono ?_; rintro e w1 ⟨rfl, rfl⟩)
        (try simp only [Exit.inBlock, Exit.then])
        go_end0
        exact ⟨rfl, b, HH⟩
end Go.Proofs.Ytpanndfhgpbahaa
