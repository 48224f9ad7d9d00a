/-
  A new Work, with some numbers.
-/
import Derived.Test.YtpanndfhgpbahaaWg
set_option linter.unusedSimpArgs false
set_option linter.unusedVariables false
namespace Go.Proofs.Ytpanndfhgpbahaa
open Go.RowKit Go.Maps Go.ChangeMaps Go.MapKept

theorem ws_new (w : World) (a : Nat → Int) : WS w.heap.size ((w.alloc (.map #[] 0)).alloc (.cells #[.slice none 0 0, .map (some w.heap.size)] 36 (0, 0))) (w.heap.size + 1) w.heap.size 0 0 a := by
  have h1 := heap_alloc_new (w.alloc (.map #[] 0)) (.cells #[.slice none 0 0, .map (some w.heap.size)] 36 (0, 0))
  rw [World.size_alloc] at h1
  refine ⟨⟨by omega, _, h1, .inl ⟨rfl, rfl⟩⟩, fun k h0 h => by omega, fun i k hi => by omega, ?_, fun i hi => by omega, Nat.le_refl _⟩
  have h2 := (World.ownsMap_made (H := Unit) w Try.prog 3 (plainElem Try.prog 3)).alloc (.cells #[.slice none 0 0, .map (some w.heap.size)] 36 (0, 0))
  exact ⟨_, h2, fun x hx => ⟨fun ⟨i, hi, _⟩ => by omega, fun _ => rfl⟩⟩
/-- A slice of numbers that came in. -/
def Ints (w : World) (A : Option Addr) (n : Nat) (xs : Nat → Int) : Prop := ∀ i, i < n → ∃ ad, A = some ad ∧ ad.spot = none ∧ ad.block < w.heap.size ∧ w.cell? ⟨ad.block, ad.off + i, none⟩ = some (.int .i64 (xs i))
set_option maxHeartbeats 4000000 in
set_option maxRecDepth 100000 in
theorem new_st (w : World) (A : Option Addr) (n c : Nat) (xs : Nat → Int) (hx : Ints w A n xs) (hr : ∀ i, i < n → InR (xs i)) (hn : n ≤ 1000) :
    Calls Try.prog 6 #[.slice A n c] w fun e w' => ∃ gp gm m k a, e = .returned (.pointer (some ⟨gp, 0, none⟩)) ∧ WS w.heap.size w' gp gm m k a ∧ Below w.heap.size w w' ∧ m ≤ n ∧ k ≤ n ∧ ∀ y, (∃ i, i < k ∧ a i = y) ↔ (∃ i, i < n ∧ xs i = y) := by
  have hx' := Aside0.mk hx
  have hr' := Aside0.mk hr
  clear hx hr
  have mk := fun w => run_makeMap (P := Try.prog) 33 w
  have W0 := Aside0.mk (ws_new w (fun _ => 0))
  go_enter Try.func6, Try.ntmps6
  go_wp2
  go_loopg [11] n (fun kx s11 wr => ∃ (j m k : Nat) (a : Nat → Int), s11 = .int .i64 j ∧ j ≤ n ∧ n - j ≤ kx ∧ m ≤ j ∧ k ≤ j ∧ Aside0 (WS w.heap.size wr (w.heap.size + 1) w.heap.size m k a) ∧ Aside0 (Below w.heap.size w wr) ∧ Aside0 (∀ y, (∃ i, i < k ∧ a i = y) ↔ (∃ i, i < j ∧ xs i = y)))
  case atStart => exact ⟨0, 0, 0, fun _ => 0, rfl, by omega, by omega, by omega, by omega, W0, ⟨((Below.refl _ _).alloc (Nat.le_refl _) _).alloc (by rw [World.size_alloc]; omega) _⟩, ⟨fun y => ⟨fun ⟨i, h, _⟩ => by omega, fun ⟨i, h, _⟩ => by omega⟩⟩⟩
  case round =>
    obtain ⟨j, m, k, a, rfl, hj, hk, hm, hkj, HW, HB, HM⟩ := hrel
    clear W0 mk
    by_cases h : j < n
    · have hz : (j : Int) < (n : Int) := by omega
      obtain ⟨ad, rfl, hsp, hlt, hc⟩ := hx'.out j h
      obtain ⟨blk, off, spot⟩ := ad
      simp only at hsp hlt hc
      subst hsp
      have hc' : wr.cell? ⟨blk, off + j, none⟩ = some (.int .i64 (xs j)) := (HB.out.cell (p := ⟨blk, off + j, none⟩) hlt).trans hc
      have A1 := Aside0.mk (wPush_st HW.out (xs j) (hr'.out j h) (by omega) (by omega) HB.out.size)
      clear hc
      go_wp2_with (first | (go_at_call 9; (with_reducible refine A1.out.mono ?_); rintro e w1 ⟨hb1, ⟨hs1, rfl, ws1⟩ | ⟨hs1, rfl, b, ws1, hm1⟩⟩))
      · go_roundg (n - (j + 1))
        case measure => omega
        case rel =>
          refine ⟨j + 1, m, k, a, by go_num, by omega, by omega, by omega, by omega, ⟨ws1⟩, ⟨HB.out.trans hb1⟩, ⟨fun y => ?_⟩⟩
          rw [HM.out y]
          constructor
          · rintro ⟨i, hi, e⟩
            exact ⟨i, by omega, e⟩
          · rintro ⟨i, hi, e⟩
            by_cases e2 : i = j
            · rw [← HM.out y]
              obtain ⟨i', hi', e3⟩ := hs1
              exact ⟨i', hi', by rw [e3, ← e2]; exact e⟩
            · exact ⟨i, by omega, e⟩
      · go_roundg (n - (j + 1))
        case measure => omega
        case rel =>
          refine ⟨j + 1, m + 1, k + 1, b, by go_num, by omega, by omega, by omega, by omega, ⟨ws1⟩, ⟨HB.out.trans hb1⟩, ⟨fun y => ?_⟩⟩
          rw [hm1 y, HM.out y]
          constructor
          · rintro (rfl | ⟨i, hi, e⟩)
            · exact ⟨j, by omega, rfl⟩
            · exact ⟨i, by omega, e⟩
          · rintro ⟨i, hi, e⟩
            by_cases e2 : i = j
            · exact .inl (by rw [← e, e2])
            · exact .inr ⟨i, by omega, e⟩
    · have hz : ¬ (j : Int) < (n : Int) := by omega
      have e : j = n := by omega
      subst e
      have HH : WS w.heap.size wr (w.heap.size + 1) w.heap.size m k a ∧ Below w.heap.size w wr ∧ m ≤ j ∧ k ≤ j ∧ ∀ y, (∃ i, i < k ∧ a i = y) ↔ (∃ i, i < j ∧ xs i = y) := ⟨HW.out, HB.out, hm, hkj, HM.out⟩
      clear HW HB HM
      go_wp2
      (try simp only [Exit.inBlock, Exit.then])
      go_wp2
      go_ret
      exact ⟨_, rfl, _, m, k, a, HH⟩
end Go.Proofs.Ytpanndfhgpbahaa
