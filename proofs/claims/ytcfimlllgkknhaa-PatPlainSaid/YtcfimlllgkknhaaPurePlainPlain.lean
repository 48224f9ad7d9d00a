import Derived.Test.YtcfimlllgkknhaaPlPlain
import Derived.Test.YtcfimlllgkknhaaPPatPlainx8
/-
What means nothing matches itself alone; what is not active neither; what is all live is all live.
-/
namespace Go.Proofs.Ytcfimlllgkknhaa.Mt
open Go.RowKit Go.Proofs.Ytcfimlllgkknhaa.PPatPlain Go.Proofs.YtcfimlllgkknhaaW.PrintWords Go.Proofs.YtcfimlllgkknhaaW.PrintLast
set_option linter.unusedSimpArgs false
set_option linter.unusedVariables false

theorem plain_l0 (s : ByteArray) (n : Nat) (hn : n < 1000000) : ∀ d i, d + i = n → Evt (fun k => conchlaw6_PatPlain.l0 k true (i : Int) s (List.replicate n true)) true := by
  intro d
  induction d with
  | zero =>
    intro i h
    refine Evt.succ ?_
    simp only [conchlaw6_PatPlain.l0, List.length_replicate, if_neg (show ¬ ((i : Nat) : Int) < (n : Int) by omega), if_true]
    exact Evt.bind (g := fun y _ => some y) awake_end (Evt.of _)
  | succ d ih =>
    intro i h
    have hr : rdOf false (List.replicate n true) (i : Int) = true := by
      unfold rdOf
      rw [Int.toNat_natCast, List.getD_eq_getElem?_getD, List.getElem?_replicate, if_pos (by omega)]; rfl
    refine Evt.succ ?_
    simp only [conchlaw6_PatPlain.l0, List.length_replicate, if_pos (show ((i : Nat) : Int) < (n : Int) by omega), if_true, if_pos (show (0 : Int) ≤ (i : Int) by omega), hr, wn i (by omega)]
    exact ih (i + 1) (by omega)

theorem plain_end (s t : ByteArray) (p : ByteArray) (L : List Bool) : Evt (fun k => conchlaw6_PatPlain.f k s t p L) true := by
  have e1 : Evt (fun k => conchlaw6_PatPlain.j0 k s t true p L) true := by
    refine Evt.succ ?_
    simp only [conchlaw6_PatPlain.j0, if_true]
    exact Evt.bind (g := fun y _ => some y) awake_end (Evt.of _)
  unfold conchlaw6_PatPlain.f
  by_cases h1 : (s.size : Int) > 100
  · simp only [if_pos h1]; exact e1
  by_cases h2 : (t.size : Int) > 100
  · simp only [if_neg h1, if_pos h2]; exact e1
  simp only [if_neg h1, if_neg h2]
  by_cases h3 : (p.size : Int) > 100
  · simp only [decide_eq_true h3]; exact e1
  simp only [decide_eq_false h3]
  -- what is left: y
  have e2 : Evt (fun k => conchlaw6_PatPlain.j2 k s false) true := by
    refine Evt.succ ?_
    simp only [conchlaw6_PatPlain.j2, if_neg (show ¬ (false = true) by simp)]
    refine Evt.bind (raw_end s (by omega)) ?_
    simp only [List.length_replicate, if_true, beq_self_eq_true]
    refine Evt.succ ?_
    simp only [conchlaw6_PatPlain.j3]
    exact plain_l0 s s.size (by omega) s.size 0 (by omega)
  -- the pattern that came in
  have e3 : Evt (fun k => conchlaw6_PatPlain.j1 k s t false p L) true := by
    obtain ⟨l, hok, hlen, hlit, hi⟩ := items_end p L (by omega)
    have ha := active_end p L l (by omega) hi
    refine Evt.succ ?_
    simp only [conchlaw6_PatPlain.j1, if_neg (show ¬ (false = true) by simp)]
    refine Evt.bind ha ?_
    cases hb : (l.any fun x => !x.f5) with
    | true =>
      simp only [if_true]
      exact e2
    | false =>
      have hl : l = (ints p).map lit := hlit (by
        intro x hx
        have := List.any_eq_false.1 hb x hx
        simpa using this)
      subst hl
      have m1 := match_of p L t _ _ hi (match_lits p t (by omega) (by omega))
      have m2 := match_of p L p _ _ hi (match_lits p p (by omega) (by omega))
      simp only [if_neg (show ¬ (false = true) by simp)]
      refine Evt.bind m1 ?_
      have hne : ((decide (p = t)) != (p.toList == t.toList)) = false := by
        by_cases h : p = t
        · subst h; simp
        · have : ¬ p.toList = t.toList := fun q => h (toList_inj.1 q)
          simp [h, this]
      simp only [hne, if_neg (show ¬ (false = true) by simp)]
      refine Evt.bind m2 ?_
      simp only [decide_true, Bool.not_true]
      exact e2
  refine Evt.succ ?_
  simp only [conchlaw6_PatPlain.j0, if_neg (show ¬ (false = true) by simp), pat_Plain.f, Option.bind_some, if_true]
  have hi := items_all_dead s [] (by omega) (fun j _ => by simp [Lv])
  have ha := active_end s [] _ (by rw [List.length_map, ints_len]; omega) hi
  have hb : (((ints s).map lit).any fun x => !x.f5) = false := by simp [lit]
  rw [hb] at ha
  refine Evt.bind ha ?_
  simp only [if_neg (show ¬ (false = true) by simp)]
  refine Evt.bind (match_of s [] t _ _ hi (match_lits s t (by omega) (by omega))) ?_
  have hne : ((decide (s = t)) != (s.toList == t.toList)) = false := by
    by_cases h : s = t
    · subst h; simp
    · have : ¬ s.toList = t.toList := fun q => h (toList_inj.1 q)
      simp [h, this]
  simp only [hne, if_neg (show ¬ (false = true) by simp)]
  refine Evt.bind (match_of s [] s _ _ hi (match_lits s s (by omega) (by omega))) ?_
  simp only [decide_true, Bool.not_true]
  exact e3

/-- The law's call. -/
theorem plain_walk (s : ByteArray) (_ : s.size ≤ 9223372036854775807) (t : ByteArray) (_ : t.size ≤ 9223372036854775807) (p : ByteArray) (A : Option Addr) (l : List Bool) (c : Nat) (_ : p.size ≤ 9223372036854775807) (hc : l.length ≤ c) (w : World) (hC : Kd.C Kd.bool w A l.length l) :
    Calls Try.prog 7 #[.string s, .string t, .agg #[.string p, .slice A l.length c]] w fun e w' => e = .returned (.bool true) ∧ Below w.heap.size w w' := by
  obtain ⟨k, h⟩ := (plain_end s t p l).ex
  exact conchlaw6_PatPlain.calls k s t p A c l true w hC hc h
end Go.Proofs.Ytcfimlllgkknhaa.Mt
