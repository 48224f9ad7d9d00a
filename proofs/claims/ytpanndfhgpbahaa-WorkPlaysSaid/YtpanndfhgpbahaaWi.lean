/-
  awake, of the Work's laws.
-/
import Derived.Test.YtpanndfhgpbahaaWh
set_option linter.unusedSimpArgs false
set_option linter.unusedVariables false
namespace Go.Proofs.Ytpanndfhgpbahaa
open Go.RowKit Go.Maps Go.ChangeMaps Go.MapKept

def three (i : Nat) : Int := if i = 1 then 1 else 3
theorem two_of {k : Nat} {a : Nat → Int} (hm : ∀ y, (∃ i, i < k ∧ a i = y) ↔ (∃ i, i < 3 ∧ three i = y)) (inj : ∀ i j, i < k → j < k → a i = a j → i = j) (hh : Heap k a) : k = 2 ∧ a 0 = 1 := by
  have v : ∀ i, i < k → a i = 1 ∨ a i = 3 := fun i hi => by
    obtain ⟨j, -, e⟩ := (hm (a i)).1 ⟨i, hi, rfl⟩
    unfold three at e
    split at e <;> omega
  obtain ⟨i1, h1, e1⟩ := (hm 1).2 ⟨1, by omega, rfl⟩
  obtain ⟨i3, h3, e3⟩ := (hm 3).2 ⟨0, by omega, rfl⟩
  have hne : i1 ≠ i3 := fun e => by rw [e, e3] at e1; omega
  have h0 := heap_min hh i1 h1
  refine ⟨?_, ?_⟩
  · by_cases hk : 3 ≤ k
    · have a01 := inj 0 1 (by omega) (by omega)
      have a02 := inj 0 2 (by omega) (by omega)
      have a12 := inj 1 2 (by omega) (by omega)
      have v0 := v 0 (by omega)
      have v1 := v 1 (by omega)
      have v2 := v 2 (by omega)
      omega
    · omega
  · have := v 0 (by omega)
    omega
theorem ints3 (w : World) : Ints (w.alloc (.cells #[.int .i64 3, .int .i64 1, .int .i64 3] 3)) (some ⟨w.heap.size, 0, none⟩) 3 three := fun i hi => by
  have h1 := heap_alloc_new w (.cells #[.int .i64 3, .int .i64 1, .int .i64 3] 3)
  refine ⟨_, rfl, rfl, by rw [World.size_alloc]; exact Nat.lt_succ_self _, ?_⟩
  simp only [World.cell?, h1]
  match i, hi with
  | 0, _ => rfl
  | 1, _ => rfl
  | 2, _ => rfl
theorem inR_small {x : Int} (h0 : 0 ≤ x) (h1 : x ≤ 1000) : InR x := ⟨by omega, by omega⟩
/-- A number that is in is not put in again. -/
theorem push_in {B : Nat} {w : World} {gp gm m n : Nat} {a : Nat → Int} (h : WS B w gp gm m n a) (x : Int) (hx : InR x) (hn : n < 1000000) (hm : m < 1000000) (hB : B ≤ w.heap.size) (hi : ∃ i, i < n ∧ a i = x) :
    Calls Try.prog 9 #[.pointer (some ⟨gp, 0, none⟩), .int .i64 x] w fun e w' => e = .returned (.bool false) ∧ Below B w w' ∧ WS B w' gp gm m n a :=
  (wPush_st h x hx hn hm hB).mono fun e w' ⟨hb, hh⟩ => by
    rcases hh with ⟨-, h1, h2⟩ | ⟨h1, -⟩
    · exact ⟨h1, hb, h2⟩
    · exact absurd hi h1
theorem push_new {B : Nat} {w : World} {gp gm m n : Nat} {a : Nat → Int} (h : WS B w gp gm m n a) (x : Int) (hx : InR x) (hn : n < 1000000) (hm : m < 1000000) (hB : B ≤ w.heap.size) (hi : ¬ ∃ i, i < n ∧ a i = x) :
    Calls Try.prog 9 #[.pointer (some ⟨gp, 0, none⟩), .int .i64 x] w fun e w' => e = .returned (.bool true) ∧ Below B w w' ∧ ∃ b, WS B w' gp gm (m + 1) (n + 1) b ∧ ∀ y, (∃ i, i < n + 1 ∧ b i = y) ↔ (y = x ∨ ∃ i, i < n ∧ a i = y) :=
  (wPush_st h x hx hn hm hB).mono fun e w' ⟨hb, hh⟩ => by
    rcases hh with ⟨h1, -⟩ | ⟨-, h1, h2⟩
    · exact absurd h1 hi
    · exact ⟨h1, hb, h2⟩
set_option maxHeartbeats 4000000 in
set_option maxRecDepth 100000 in
theorem awake_st (w : World) : Calls Try.prog 5 #[] w fun e w' => e = .returned (.bool true) ∧ Below w.heap.size w w' := by
  have A1 := Aside0.mk (new_st _ _ 3 3 three (ints3 w) (fun i hi => by unfold three; split <;> exact inR_small (by omega) (by omega)) (by omega))
  have B0 : Below w.heap.size w (w.alloc (.cells #[.int .i64 3, .int .i64 1, .int .i64 3] 3)) := (Below.refl _ _).alloc (Nat.le_refl _) _
  have B0' := Aside0.mk B0
  clear B0
  go_enter Try.func5, Try.ntmps5
  go_wp2_with (first
    | (go_at_call 6; (with_reducible refine A1.out.mono ?_); rintro e w1 ⟨gp, gm, m, k, a, rfl, ws1, hb1, hm1, hk1, mem1⟩; obtain ⟨rfl, ha0⟩ := two_of mem1 ws1.inj ws1.heap; have WS1 := Aside0.mk ws1; have HB1 := Aside0.mk hb1; have MEM1 := Aside0.mk mem1; have HA0 := Aside0.mk ha0; clear ws1 hb1 mem1 ha0; have A2 := Aside0.mk (wLen_st WS1.out); have A3 := wPop_some WS1.out (by omega) HB1.out.size; rw [HA0.out] at A3; have A3' := Aside0.mk A3; clear A3)
    | (go_at_call 7; (with_reducible refine A2.out.mono ?_); rintro e w2 ⟨rfl, rfl⟩)
    | (go_at_call 8; (with_reducible refine A3'.out.mono ?_); rintro e w3 ⟨hb3, rfl, b, ws3, mem3⟩; have WS3 := Aside0.mk ws3; have HB3 := Aside0.mk hb3; have MEM3 := Aside0.mk mem3; clear ws3 hb3 mem3; have A4 := Aside0.mk (push_in WS3.out 3 (inR_small (by omega) (by omega)) (by omega) (by omega) (Nat.le_trans HB1.out.size HB3.out.size) ((MEM3.out 3).2 ⟨by omega, (MEM1.out 3).2 ⟨0, by omega, rfl⟩⟩)))
    | (go_at_call 9; (with_reducible refine A4.out.mono ?_); rintro e w4 ⟨rfl, hb4, ws4⟩; have WS4 := Aside0.mk ws4; have HB4 := Aside0.mk hb4; clear ws4 hb4; have A5 := Aside0.mk (push_new WS4.out 2 (inR_small (by omega) (by omega)) (by omega) (by omega) (Nat.le_trans HB1.out.size (Nat.le_trans HB3.out.size HB4.out.size)) (fun h => by
        obtain ⟨-, h2⟩ := (MEM3.out 2).1 h
        obtain ⟨i, hi, e⟩ := (MEM1.out 2).1 h2
        unfold three at e
        split at e <;> omega)))
    | (go_at_call 9; (with_reducible refine A5.out.mono ?_); rintro e w5 ⟨rfl, hb5, -⟩; have HB5 := Aside0.mk hb5; clear hb5))
  go_ret
  have hs := B0'.out.size
  refine ⟨rfl, ?_⟩
  exact B0'.out.trans ((((HB1.out.trans HB3.out).trans HB4.out).trans HB5.out).mono hs)
end Go.Proofs.Ytpanndfhgpbahaa
