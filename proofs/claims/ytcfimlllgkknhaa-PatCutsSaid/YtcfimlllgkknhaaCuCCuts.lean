import Derived.Test.YtcfimlllgkknhaaCuTCuts
import Derived.Test.YtcfimlllgkknhaaCuB
/-
What is cut off is matched.
-/
namespace Go.Proofs.Ytcfimlllgkknhaa.Mt
open Go.RowKit Go.Eng Go.Ev Go.Proofs.Ytcfimlllgkknhaa.PPatCuts Go.Proofs.YtcfimlllgkknhaaW.PrintWords Go.Proofs.YtcfimlllgkknhaaW.PrintLast
set_option linter.unusedSimpArgs false
set_option linter.unusedVariables false

theorem any_iff (M : Nat → Bool) : ∀ n, anyK M n = true ↔ ∃ i, i < n ∧ M i = true := by
  intro n
  induction n with
  | zero => exact ⟨fun h => (by cases h), fun ⟨i, h, _⟩ => by omega⟩
  | succ n ih =>
    show (anyK M n || M n) = true ↔ _
    rw [Bool.or_eq_true, ih]
    constructor
    · rintro (⟨i, h1, h2⟩ | h)
      · exact ⟨i, by omega, h2⟩
      · exact ⟨n, by omega, h⟩
    · rintro ⟨i, h1, h2⟩
      by_cases e : i = n
      · right; rw [← e]; exact h2
      · exact .inl ⟨i, by omega, h2⟩
theorem none_of {M : Nat → Bool} {n : Nat} (h : anyK M (n + 1) = false) : ∀ i, i ≤ n → M i = false := fun i hi => by
  cases hm : M i with
  | false => rfl
  | true =>
    have := (any_iff M (n + 1)).2 ⟨i, by omega, hm⟩
    rw [h] at this
    cases this
/-- Of two places that Cut found, one from each side. -/
theorem two_places {M : Nat → Bool} {n z p q : Nat} (hp : CutAt M n true z p) (hq : CutAt M n false z q) :
    p ≤ q ∧ (∀ i, i ≤ n → M i = true → p ≤ i ∧ i ≤ q) ∧ M p = (if anyK M (n + 1) then true else M p) ∧ (anyK M (n + 1) = true → M p = true ∧ M q = true) ∧ (anyK M (n + 1) = false → p = z ∧ q = z) := by
  have hit : ∀ i, i ≤ n → M i = true → p ≤ i ∧ i ≤ q := fun i h1 h2 => ⟨by simpa using (hp.hit i h1 h2).2, by simpa using (hq.hit i h1 h2).2⟩
  have all : anyK M (n + 1) = true → M p = true ∧ M q = true := fun h => by
    obtain ⟨i, h1, h2⟩ := (any_iff M _).1 h
    exact ⟨(hp.hit i (by omega) h2).1, (hq.hit i (by omega) h2).1⟩
  have non : anyK M (n + 1) = false → p = z ∧ q = z := fun h => ⟨hp.none (none_of h), hq.none (none_of h)⟩
  refine ⟨?_, hit, ?_, all, non⟩
  · cases h : anyK M (n + 1) with
    | true => exact (hit p hp.le (all h).1).2
    | false => rw [(non h).1, (non h).2]; exact Nat.le_refl _
  · split
    · rename_i h; exact (all h).1
    · rfl
theorem any_eq {M : Nat → Bool} {n p : Nat} (hp : p ≤ n) (h : anyK M (n + 1) = true → M p = true) : M p = anyK M (n + 1) := by
  cases hz : anyK M (n + 1) with
  | true => exact h hz
  | false => exact none_of hz p hp

theorem asked (sp st : ByteArray) (hs : sp.size ≤ 12) (ht : st.size ≤ 10) : ∃ A B G D M1 M2, Asked sp (List.replicate sp.size true) st A B G D M1 M2 := by
  obtain ⟨l, hok, hlen, -, hi⟩ := items_end sp (List.replicate sp.size true) (by omega)
  obtain ⟨a, ca, pa⟩ := cut_end sp (by omega) _ l hi hlen hok st (by omega) true false
  obtain ⟨b, cb, pb⟩ := cut_end sp (by omega) _ l hi hlen hok st (by omega) true true
  obtain ⟨c, cc, pc⟩ := cut_end sp (by omega) _ l hi hlen hok st (by omega) false false
  obtain ⟨d, cd, pd⟩ := cut_end sp (by omega) _ l hi hlen hok st (by omega) false true
  have pa' : CutAt (fun i => ansE l (st.extract 0 i)) st.size true 0 a := pa
  have pb' : CutAt (fun i => ansE l (st.extract 0 i)) st.size false 0 b := pb
  have pc' : CutAt (fun i => ansE l (st.extract i st.size)) st.size false st.size c := pc
  have pd' : CutAt (fun i => ansE l (st.extract i st.size)) st.size true st.size d := pd
  clear pa pb pc pd
  have la := pa'.le
  have lb := pb'.le
  have lc := pc'.le
  have ld := pd'.le
  have sA : (st.extract a st.size).size = st.size - a := by rw [ByteArray.size_extract]; omega
  have sB : (st.extract b st.size).size = st.size - b := by rw [ByteArray.size_extract]; omega
  have sG : (st.extract 0 c).size = c := by rw [ByteArray.size_extract]; omega
  have sD : (st.extract 0 d).size = d := by rw [ByteArray.size_extract]; omega
  have nA : st.size - (st.size - a) = a := by omega
  have nB : st.size - (st.size - b) = b := by omega
  obtain ⟨f1, f2, -, f4, f5⟩ := two_places pa' pb'
  obtain ⟨g1, g2, -, g4, g5⟩ := two_places pd' pc'
  refine ⟨st.extract a st.size, st.extract b st.size, st.extract 0 c, st.extract 0 d, fun i => ansE l (st.extract 0 i), fun i => ansE l (st.extract i st.size), ?_⟩
  refine ⟨ht, fun i h => ?_, fun i h => ?_, ca.ex, cb.ex, cc.ex, cd.ex, awake_end.ex, by omega, by omega, by omega, by omega, by rw [sA, nA], by rw [sB, nB], by rw [sG], by rw [sD], ?_, ?_, ?_, ?_, ?_, ?_, ?_, ?_⟩
  · exact (match_end sp (by omega) _ l hi hlen hok _ (by rw [ByteArray.size_extract]; omega)).ex
  · exact (match_end sp (by omega) _ l hi hlen hok _ (by rw [ByteArray.size_extract]; omega)).ex
  · rw [sA, sB, nA, nB]
    exact f2
  · rw [sA, nA]
    exact any_eq (M := fun i => ansE l (st.extract 0 i)) la fun h => (f4 h).1
  · rw [sB, nB]
    exact fun h => (f4 h).2
  · intro h
    obtain ⟨rfl, rfl⟩ := f5 h
    exact ⟨extract_all st, extract_all st⟩
  · rw [sG, sD]
    exact g2
  · rw [sG]
    exact any_eq (M := fun i => ansE l (st.extract i st.size)) lc fun h => (g4 h).2
  · rw [sD]
    exact fun h => (g4 h).1
  · intro h
    obtain ⟨e1, e2⟩ := g5 h
    rw [e1, e2]
    exact ⟨extract_all st, extract_all st⟩

set_option maxRecDepth 100000 in
theorem cuts_walk (raw t : ByteArray) (w : World) : Calls Try.prog 6 #[.string raw, .string t] w fun e w' => e = .returned (.bool true) ∧ Below w.heap.size w w' := by
  have hw : PureAt Try.prog w 9 #[] (.bool true) := awake_at awake_end.ex
  by_cases h1 : (60 : Int) < (raw.size : Int)
  · exact calls_of_run mixed (args := [.string raw, .string t]) (v := .bool true) 10 w [(18, GT .i64 3 (raw.size : Int) 60 (decide_eq_true h1)), (24, C hw)] (by kernel_rfl)
  by_cases h2 : (60 : Int) < (t.size : Int)
  · exact calls_of_run mixed (args := [.string raw, .string t]) (v := .bool true) 10 w [(18, GT .i64 3 (raw.size : Int) 60 (decide_eq_false h1)), (22, GT .i64 3 (t.size : Int) 60 (decide_eq_true h2)), (24, C hw)] (by kernel_rfl)
  obtain ⟨sp, hs, e1⟩ := tame_end raw (by omega)
  obtain ⟨st, ht, e2⟩ := letters_end t (by omega)
  obtain ⟨A, B, G, D, M1, M2, H⟩ := asked sp st hs ht
  exact region3 raw t sp st (by omega) (by omega) _ e1.ex e2.ex (raw_end sp (by omega)).ex w (rest3 w raw t sp st _ A B G D M1 M2 H)
end Go.Proofs.Ytcfimlllgkknhaa.Mt
