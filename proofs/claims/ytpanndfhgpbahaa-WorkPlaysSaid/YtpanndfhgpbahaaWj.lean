/-
  WorkSorts, walked.
-/
import Derived.Test.YtpanndfhgpbahaaWi
set_option linter.unusedSimpArgs false
set_option linter.unusedVariables false
namespace Go.Proofs.Ytpanndfhgpbahaa
open Go.RowKit Go.Maps Go.ChangeMaps Go.MapKept

set_option maxHeartbeats 8000000 in
set_option maxRecDepth 100000 in
theorem sorts_calls (w : World) (A : Option Addr) (n c : Nat) (xs : Nat → Int) (hx : Ints w A n xs) (hr : ∀ i, i < n → InR (xs i)) (hn : n ≤ 200) :
    Calls Try.prog 4 #[.slice A n c] w fun e w' => e = .returned (.bool true) ∧ Below w.heap.size w w' := by
  have hx' := Aside0.mk hx
  have hr' := Aside0.mk hr
  have A1 := Aside0.mk (new_st w none 0 0 (fun _ => 0) (fun i hi => by omega) (fun i hi => by omega) (by omega))
  have hz0 : ¬ (200 : Int) < (n : Int) := by omega
  clear hx hr
  go_enter Try.func4, Try.ntmps4
  go_wp2_with (first
    | (go_at_call 6; (with_reducible refine A1.out.mono ?_); rintro e w1 ⟨gp, gm, m, k, a, rfl, ws1, hb1, hm1, hk1, mem1⟩; obtain rfl : m = 0 := (by omega); obtain rfl : k = 0 := (by omega); have WS1 := Aside0.mk ws1; have HB1 := Aside0.mk hb1; clear ws1 hb1 mem1 hm1 hk1))
  go_loopg [4, 5] n (fun kx s4 s5 wr => ∃ (j m k : Nat) (a : Nat → Int), s4 = .int .i64 k ∧ s5 = .int .i64 j ∧ j ≤ n ∧ n - j ≤ kx ∧ m ≤ j ∧ k ≤ j ∧ Aside0 (WS w.heap.size wr gp gm m k a) ∧ Aside0 (Below w.heap.size w wr))
  case atStart => exact ⟨0, 0, 0, a, rfl, rfl, by omega, by omega, by omega, by omega, WS1, HB1⟩
  case round =>
    obtain ⟨j, m, k, b, rfl, rfl, hj, hk, hm, hkj, HW, HB⟩ := hrel
    clear WS1 HB1 A1
    by_cases h : j < n
    · have hz : (j : Int) < (n : Int) := by omega
      obtain ⟨ad, rfl, hsp, hlt, hc⟩ := hx'.out j h
      obtain ⟨blk, off, spot⟩ := ad
      simp only at hsp hlt hc
      subst hsp
      have hc' : wr.cell? ⟨blk, off + j, none⟩ = some (.int .i64 (xs j)) := (HB.out.cell (p := ⟨blk, off + j, none⟩) hlt).trans hc
      clear hc
      by_cases hin : ∃ i, i < k ∧ b i = xs j
      · have A2 := Aside0.mk (push_in HW.out (xs j) (hr'.out j h) (by omega) (by omega) HB.out.size hin)
        clear hin
        go_wp2_with (first | (go_at_call 9; (with_reducible refine A2.out.mono ?_); rintro e w2 ⟨rfl, hb2, ws2⟩; have WS2 := Aside0.mk ws2; have HB2 := Aside0.mk hb2; clear ws2 hb2))
        go_roundg (n - (j + 1))
        case measure => omega
        case rel => exact ⟨j + 1, m, k, b, by go_num, by go_num, by omega, by omega, by omega, by omega, WS2, ⟨HB.out.trans HB2.out⟩⟩
      · have A2 := Aside0.mk (push_new HW.out (xs j) (hr'.out j h) (by omega) (by omega) HB.out.size hin)
        clear hin
        go_wp2_with (first | (go_at_call 9; (with_reducible refine A2.out.mono ?_); rintro e w2 ⟨rfl, hb2, b2, ws2, -⟩; have WS2 := Aside0.mk ws2; have HB2 := Aside0.mk hb2; clear ws2 hb2))
        go_roundg (n - (j + 1))
        case measure => omega
        case rel => exact ⟨j + 1, m + 1, k + 1, b2, by go_num, by go_num, by omega, by omega, by omega, by omega, WS2, ⟨HB.out.trans HB2.out⟩⟩
    · have hz : ¬ (j : Int) < (n : Int) := by omega
      go_wp2
      go_loopg [6, 7] k (fun kx s6 s7 wr2 => ∃ (q N : Nat) (last : Int) (b2 : Nat → Int), s6 = .int .i64 last ∧ s7 = .int .i64 q ∧ q + N = k ∧ N ≤ kx ∧ Aside0 (WS w.heap.size wr2 gp gm m N b2) ∧ Aside0 (Below w.heap.size w wr2) ∧ Aside0 (0 < q → ∀ i, i < N → last < b2 i))
      case atStart => exact ⟨0, k, 0, b, rfl, rfl, by omega, Nat.le_refl _, HW, HB, ⟨fun h => by omega⟩⟩
      case round =>
        obtain ⟨q, N, last, b2, rfl, rfl, hq, hN, HW2, HB2, HL⟩ := hrel
        clear HW HB
        cases N with
        | succ N' =>
          have hz2 : (q : Int) < (k : Int) := by omega
          have P1 := Aside0.mk (wPop_some HW2.out (by omega) HB2.out.size)
          have next : ∀ (b3 : Nat → Int), (∀ y, (∃ i, i < N' ∧ b3 i = y) ↔ (y ≠ b2 0 ∧ ∃ i, i < N' + 1 ∧ b2 i = y)) → (0 < q + 1 → ∀ i, i < N' → b2 0 < b3 i) := fun b3 hm _ i hi => by
            obtain ⟨h1, i2, h2, h3⟩ := (hm (b3 i)).1 ⟨i, hi, rfl⟩
            have := heap_min HW2.out.heap i2 h2
            omega
          have NX := Aside0.mk next
          clear next
          by_cases h0 : q = 0
          · subst h0
            have hd : decide ((0 : Int) < ((0 : Nat) : Int)) = false := by decide
            go_wp2_with (first | (go_at_call 8; (with_reducible refine P1.out.mono ?_); rintro e w3 ⟨hb3, rfl, b3, ws3, mem3⟩; have WS3 := Aside0.mk ws3; have HB3 := Aside0.mk hb3; have MEM3 := Aside0.mk mem3; clear ws3 hb3 mem3))
            go_roundg N'
            case measure => omega
            case rel => exact ⟨1, N', b2 0, b3, by go_num, by go_num, by omega, Nat.le_refl _, WS3, ⟨HB2.out.trans HB3.out⟩, ⟨NX.out b3 MEM3.out⟩⟩
          · have hd : (0 : Int) < (q : Int) := by omega
            have hl : ¬ b2 0 ≤ last := by
              have := HL.out (by omega) 0 (by omega)
              omega
            go_wp2_with (first | (go_at_call 8; (with_reducible refine P1.out.mono ?_); rintro e w3 ⟨hb3, rfl, b3, ws3, mem3⟩; have WS3 := Aside0.mk ws3; have HB3 := Aside0.mk hb3; have MEM3 := Aside0.mk mem3; clear ws3 hb3 mem3))
            go_roundg N'
            case measure => omega
            case rel => exact ⟨q + 1, N', b2 0, b3, by go_num, by go_num, by omega, Nat.le_refl _, WS3, ⟨HB2.out.trans HB3.out⟩, ⟨NX.out b3 MEM3.out⟩⟩
        | zero =>
          have hz2 : ¬ (q : Int) < (k : Int) := by omega
          have P1 := Aside0.mk (wPop_none HW2.out)
          have P2 := Aside0.mk (wLen_st HW2.out)
          have P3 := Aside0.mk (awake_st wr)
          go_wp2_with (first
            | (go_at_call 8; (with_reducible refine P1.out.mono ?_); rintro e w3 ⟨rfl, rfl⟩)
            | (go_at_call 7; (with_reducible refine P2.out.mono ?_); rintro e w3 ⟨rfl, rfl⟩)
            | (go_at_call 5; (with_reducible refine P3.out.mono ?_); rintro e w3 ⟨rfl, hb3⟩; have HB3 := Aside0.mk hb3; clear hb3))
          (try simp only [Exit.inBlock, Exit.then])
          go_ret
          exact ⟨rfl, HB2.out.trans (HB3.out.mono HB2.out.size)⟩
end Go.Proofs.Ytpanndfhgpbahaa
