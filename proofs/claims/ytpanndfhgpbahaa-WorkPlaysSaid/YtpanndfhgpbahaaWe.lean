/-
  heap.Push and heap.Pop, on a row of numbers.
-/
import Derived.Test.YtpanndfhgpbahaaWd
set_option linter.unusedSimpArgs false
set_option linter.unusedVariables false
namespace Go.Proofs.Ytpanndfhgpbahaa
open Go.RowKit
theorem exc_ext {n : Nat} {a : Nat → Int} (h : Heap n a) (x : Int) : Exc (n + 1) (ext a n x) n := by
  constructor
  · intro k h1 h2 h3
    unfold ext
    rw [if_neg (by omega), if_neg h3]
    exact h k h1 (by omega)
  · intro h0 k h1 h2 h3
    omega
theorem row_slice {B : Nat} {W : World} {v : Value} {n : Nat} {a : Nat → Int} (h : RowIs B W v n a) : ∃ A c, v = .slice A n c := by
  rcases h with ⟨rfl, rfl⟩ | ⟨g, c, cur, rfl, -⟩
  · exact ⟨_, _, rfl⟩
  · exact ⟨_, _, rfl⟩
theorem len_at (w : World) (A : Option Addr) (n c : Nat) : Calls Try.prog 30 #[.slice A n c] w fun e w' => e = .returned (.int .i64 n) ∧ w' = w := by
  go_enter Try.func30, Try.ntmps30
  go_wp2
  go_ret
  exact ⟨rfl, rfl⟩
set_option maxHeartbeats 4000000 in
set_option maxRecDepth 100000 in
theorem hpush_st {B : Nat} {w : World} {gp : Nat} {mp : Value} {n : Nat} {a : Nat → Int} (h : St B w gp mp n a) (hh : Heap n a) (x : Int) (hn : n < 1000000) (hB : B ≤ w.heap.size) :
    Calls Try.prog 11 #[.iface 38 (.pointer (some ⟨gp, 0, none⟩)), .iface 3 (.int .i64 x)] w fun e w' => e = .returned (.tuple #[]) ∧ ∃ b, St B w' gp mp (n + 1) b ∧ Fr B w w' ∧ Heap (n + 1) b ∧ Same (n + 1) (ext a n x) b := by
  have A1 := Aside0.mk (rowPush_st h x (by omega) hB)
  have H1 := Aside0.mk hh
  clear h hh
  go_enter Try.func11, Try.ntmps11
  go_wp2_with fail
  refine A1.out.mono ?_
  rintro e w1 ⟨rfl, s1, f1⟩
  have S1 := Aside0.mk s1
  have F1 := Aside0.mk f1
  obtain ⟨hBg, v1, hv1, hr1⟩ := s1
  obtain ⟨A, c, rfl⟩ := row_slice hr1
  have c1 : w1.cell? ⟨gp, 0, none⟩ = some (.slice A (n + 1) c) := by simp [World.cell?, hv1]
  have L1 := method_of mLen w1 gp A (n + 1) c c1
  clear hv1 hr1 f1
  rename_i K hK
  refine hK _ _ ?_
  clear hK
  have A2 := Aside0.mk (len_at w1 A (n + 1) c)
  have A3 := Aside0.mk (up_st S1.out (by omega) n (by omega) (exc_ext H1.out x))
  go_wp2_with (first
    | (go_at_call 30; (with_reducible refine A2.out.mono ?_); rintro e w2 ⟨rfl, rfl⟩)
    | (go_at_call 13; (with_reducible refine A3.out.mono ?_); rintro e w2 ⟨rfl, b, s2, f2, h2, m2⟩; have S2 := Aside0.mk s2; have F2 := Aside0.mk f2; have HH2 := Aside0.mk h2; have M2 := Aside0.mk m2; clear s2 f2 h2 m2))
  go_end0
  exact ⟨rfl, b, S2.out, F1.out.trans F2.out, HH2.out, M2.out⟩

theorem mPop : (Try.prog.info? 38).bind (fun i => (i.methods.find? (·.name == "Pop")).map (fun m => (m.path.toList, m.func))) = some ([], some (33, true)) := by kernel_rfl
theorem method_ptr {name : String} {f : FuncId} (hf : (Try.prog.info? 38).bind (fun i => (i.methods.find? (·.name == name)).map (fun m => (m.path.toList, m.func))) = some ([], some (f, true))) (w : World) (gp : Nat) :
    (method 164 38 (.pointer (some ⟨gp, 0, none⟩)) name).run Try.prog w = .ok (f, .pointer (some ⟨gp, 0, none⟩)) w := by
  obtain ⟨i, h1, h2⟩ := Option.bind_eq_some_iff.1 hf
  obtain ⟨m, h3, h4⟩ := Option.map_eq_some_iff.1 h2
  simp only [Prod.mk.injEq] at h4
  obtain ⟨h4, h5⟩ := h4
  have h4' : m.path = #[] := by simpa using h4
  unfold method
  simp only [typeInfo, h1, h3, h4', h5]
  simp [h1, h3, h4', h5, follow, receiverAt, run_underlying Try.under38, Place.get]
theorem dxc_swap {N : Nat} {a : Nat → Int} (h : Heap (N + 1) a) : Dxc N (swp a 0 N) 0 := by
  constructor
  · intro k h1 h2 h3
    rw [swp_far a 0 N k (by omega) (by omega), swp_far a 0 N _ (by omega) (by omega)]
    exact h k h1 (by omega)
  · intro h0
    omega
set_option maxHeartbeats 4000000 in
set_option maxRecDepth 100000 in
theorem hpop_st {B : Nat} {w : World} {gp : Nat} {mp : Value} {N : Nat} {a : Nat → Int} (h : St B w gp mp (N + 1) a) (hh : Heap (N + 1) a) (hn : N < 1000000) :
    Calls Try.prog 10 #[.iface 38 (.pointer (some ⟨gp, 0, none⟩))] w fun e w' => e = .returned (.iface 3 (.int .i64 (a 0))) ∧ ∃ b, St B w' gp mp N b ∧ Fr B w w' ∧ Heap N b ∧ Same (N + 1) a b ∧ b N = a 0 := by
  obtain ⟨g, c, cur, hv, -⟩ := h.open_ (by omega)
  have c0 : w.cell? ⟨gp, 0, none⟩ = some (.slice (some ⟨g, 0, none⟩) (N + 1) c) := by simp [World.cell?, hv]
  have L0 := method_of mLen w gp _ (N + 1) c c0
  have L1 := method_of mSwap w gp _ (N + 1) c c0
  have A1 := Aside0.mk (len_at w (some ⟨g, 0, none⟩) (N + 1) c)
  have A2 := Aside0.mk (swap_at h hv 0 N 0 (N : Int) rfl rfl (by omega) (by omega))
  have H1 := Aside0.mk hh
  have LP := fun w => method_ptr mPop w gp
  clear h hv hh
  go_enter Try.func10, Try.ntmps10
  go_wp2_with (first
    | (go_at_call 30; (with_reducible refine A1.out.mono ?_); rintro e w2 ⟨rfl, rfl⟩)
    | (go_at_call 32; (with_reducible refine A2.out.mono ?_); rintro e w2 ⟨rfl, s2, f2⟩; have S2 := Aside0.mk s2; have F2 := Aside0.mk f2; clear s2 f2; have A3 := Aside0.mk (down_st S2.out (by omega) N (by omega) (dxc_swap H1.out)))
    | (go_at_call 12; (with_reducible refine A3.out.mono ?_); rintro e w3 ⟨⟨q, rfl⟩, b, s3, f3, h3, m3, x3⟩; have S3 := Aside0.mk s3; have F3 := Aside0.mk f3; have HH3 := Aside0.mk h3; have M3 := Aside0.mk m3; have X3 := Aside0.mk x3; clear s3 f3 h3 m3 x3; have A4 := Aside0.mk (rowPop_st S3.out (by omega)))
    | (go_at_call 33; (with_reducible refine A4.out.mono ?_); rintro e w4 ⟨rfl, s4, f4⟩; have S4 := Aside0.mk s4; have F4 := Aside0.mk f4; clear s4 f4))
  go_ret
  have e0 : b N = a 0 := by
    rw [X3.out N (Nat.le_refl _)]
    unfold swp
    rw [if_pos rfl]
  refine ⟨?_, b, S4.out, (F2.out.trans F3.out).trans F4.out, HH3.out, (same_swp (N + 1) a 0 N (by omega) (by omega)).trans M3.out, e0⟩
  rw [← e0]
  rfl
end Go.Proofs.Ytpanndfhgpbahaa
