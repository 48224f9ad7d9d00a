import Derived.Test.YtcfimlllgkknhaaTlB
set_option linter.unusedSimpArgs false
set_option linter.unusedVariables false
namespace Go.Proofs.Ytcfimlllgkknhaa
open Go.RowKit Go.Eng Go.Ev Go.Proofs.YtcfimlllgkknhaaW.PrintWords Go.Proofs.Ytcfimlllgkknhaa.PPatTells

set_option maxRecDepth 100000 in
theorem run0 (s t : ByteArray) (A : Option Addr) (n c : Nat) (fr lg : Bool) (hs : s.size ≤ 60) (ht : t.size ≤ 60) (hn : n ≤ 200) (w : World) :
    Go.Ev.ask (withN (runS Try.prog 10 2 (bodyOf Try.prog 4) ⟨initTm Try.f4 [.agg #[.string s, .slice A n c], .string t, .bool fr, .bool lg], ([(13, GT .i64 3 (s.size : Int) 60 (c := false) (decide_eq_false (by omega))), (17, GT .i64 3 (t.size : Int) 60 (c := false) (decide_eq_false (by omega))),
      (23, GT .i64 3 (n : Int) 200 (c := false) (decide_eq_false (by omega)))] : Items Try.prog w), []⟩)) ([0, 5, 6, 7, 8, 9] ++ ran 10 59) =
    Go.Ev.told (withN (runS Try.prog 10 2 (bodyOf Try.prog 4) ⟨initTm Try.f4 [.agg #[.string s, .slice A n c], .string t, .bool fr, .bool lg], ([(13, GT .i64 3 (s.size : Int) 60 (c := false) (decide_eq_false (by omega))), (17, GT .i64 3 (t.size : Int) 60 (c := false) (decide_eq_false (by omega))),
      (23, GT .i64 3 (n : Int) 200 (c := false) (decide_eq_false (by omega)))] : Items Try.prog w), []⟩)) .normal (tmT true s t A n c fr lg .no) := by kernel_rfl

set_option maxRecDepth 100000 in
theorem tells_calls (s t : ByteArray) (A : Option Addr) (L : List Bool) (c : Nat) (fr lg : Bool) (hs : s.size ≤ 60) (ht : t.size ≤ 60) (hn : L.length ≤ 200) (hc : L.length ≤ c) (H : Law fr lg) (F : Few) (AW : ∃ k, conchlaw6_awake.f k = some true) (w : World) (hC : Kd.C Kd.bool w A L.length L) :
    Calls Try.prog 4 #[.agg #[.string s, .slice A L.length c], .string t, .bool fr, .bool lg] w fun e w' => e = .returned (.bool true) ∧ Below w.heap.size w w' := by
  refine calls_of_wp Try.func4 (by kernel_rfl : Try.f4.body = some (bodyOf Try.prog 4)) ?_
  refine wp_spine mixed _ (c := bodyOf Try.prog 4) (n := 2) (run0 s t A L.length c fr lg hs ht hn w) (rep_init w Try.f4 [.agg #[.string s, .slice A L.length c], .string t, .bool fr, .bool lg]) fun ν a W x R => ?_
  show (body4 2).wp Try.prog _ a W
  rw [body4_is]
  refine wp_seq (wp_seq (wp_piece mixed (e := .normal) trivial (run3 true s t A L.length c fr lg) R fun ν1 a1 W1 x1 R1 => wp_block (wp_loop_rounds 4 ?_)))
  have I0 : InvE w fr lg 0 a1 W1 := ⟨s, t, A, L, c, ν1 0, inv_of R1 rfl hs ht hc (R1.new 0 _ rfl rfl) R1.below, fun _ => hC, fun _ => Kd.C_below hC R1.below⟩
  clear R R1 x1
  rw [rounds_succ]
  refine round w fr lg H F 0 (by omega) _ (fun a2 W2 I2 => ?_) a1 W1 I0
  show Code.rounds Try.prog loop4 _ 3 a2 W2
  rw [rounds_succ]
  refine round w fr lg H F 1 (by omega) _ (fun a3 W3 I3 => ?_) a2 W2 I2
  show Code.rounds Try.prog loop4 _ 2 a3 W3
  rw [rounds_succ]
  refine round w fr lg H F 2 (by omega) _ (fun a4 W4 I4 => ?_) a3 W3 I3
  show Code.rounds Try.prog loop4 _ 1 a4 W4
  rw [rounds_succ, loop4_is]
  obtain ⟨s', t', A', L', c', gp', I, -, -⟩ := I4
  refine wp_seq (wp_piece mixed (e := .exit 0) trivial (runX false s' t' A' L'.length c' fr lg) (I.rep W4 false (Below.refl _ _) (fun h => by cases h)) fun ν5 a5 W5 x5 R5 => ?_)
  show end4.wp Try.prog _ a5 W5
  have hb : ∀ W', Below W4.heap.size W4 W' → Below w.heap.size w W' := fun W' h => I.below.trans (h.mono I.below.size)
  exact wp_ends mixed (fuel := 10) (its := [(68, C (awake_at AW))]) (tm' := endOf (runC Try.prog 10 end4 ⟨tmT false s' t' A' L'.length c' fr lg (iN 3), [(68, C (awake_at (W := W4) AW))], []⟩)) (by kernel_rfl) (v := .bool true) (by kernel_rfl) R5 fun W' hW => ⟨rfl, hb W' hW⟩

set_option maxRecDepth 100000 in
theorem tells_walk (s : ByteArray) (A : Option Addr) (L : List Bool) (c : Nat) (t : ByteArray) (fr lg : Bool) (hc : L.length ≤ c) (hl : L.length ≤ 9223372036854775807) (H : Law fr lg) (F : Few) (AW : ∃ k, conchlaw6_awake.f k = some true) (w : World) (hC : Kd.C Kd.bool w A L.length L) :
    Calls Try.prog 4 #[.agg #[.string s, .slice A L.length c], .string t, .bool fr, .bool lg] w fun e w' => e = .returned (.bool true) ∧ Below w.heap.size w w' := by
  have hw : PureAt Try.prog w 9 #[] (.bool true) := awake_at AW
  by_cases h1 : (60 : Int) < (s.size : Int)
  · exact calls_of_run mixed (args := [.agg #[.string s, .slice A L.length c], .string t, .bool fr, .bool lg]) (v := .bool true) 10 w [(13, GT .i64 3 (s.size : Int) 60 (decide_eq_true h1)), (25, C hw)] (by kernel_rfl)
  by_cases h2 : (60 : Int) < (t.size : Int)
  · exact calls_of_run mixed (args := [.agg #[.string s, .slice A L.length c], .string t, .bool fr, .bool lg]) (v := .bool true) 10 w [(13, GT .i64 3 (s.size : Int) 60 (decide_eq_false h1)), (17, GT .i64 3 (t.size : Int) 60 (decide_eq_true h2)), (25, C hw)] (by kernel_rfl)
  by_cases h3 : (200 : Int) < (L.length : Int)
  · exact calls_of_run mixed (args := [.agg #[.string s, .slice A L.length c], .string t, .bool fr, .bool lg]) (v := .bool true) 10 w [(13, GT .i64 3 (s.size : Int) 60 (decide_eq_false h1)), (17, GT .i64 3 (t.size : Int) 60 (decide_eq_false h2)), (23, GT .i64 3 (L.length : Int) 200 (decide_eq_true h3)), (25, C hw)] (by kernel_rfl)
  exact tells_calls s t A L c fr lg (by omega) (by omega) (by omega) hc H F AW w hC
end Go.Proofs.Ytcfimlllgkknhaa

