/-
  What is made of shapes, as plain data: Ok stays; more makes more; what may be, may be of what is made.
-/
import Derived.Test.YtlbonbkaddeeeaaShLaw
set_option linter.unusedSimpArgs false
set_option linter.unusedVariables false
namespace Go.Conch
open Go.RowKit Go.Proofs.Ytlbonbkaddeeeaa

theorem lit0 : litS tz = ⟨false, true, S4.zero, true, tz⟩ := by decide +kernel
theorem ok_zero : Ok Sh.zero := ⟨by decide +kernel, fun h => (by cases h), fun _ => rfl⟩
theorem ok_set {x : Sh} (h : Ok x) : Ok (setS x) := by
  unfold setS
  split
  · exact h
  · split
    · exact ok_lit _
    · exact ⟨h.zero, fun h => (by cases h), fun _ => rfl⟩
theorem set_u (x : Sh) : (setS x).u = false := by
  unfold setS
  split
  · assumption
  · split
    · rw [lit0]
    · rfl
theorem append_tz {l r : ByteArray} : decide (l ++ r = tz) = (decide (l = tz) && decide (r = tz)) := by
  rw [Bool.eq_iff_iff, Bool.and_eq_true, decide_eq_true_iff, decide_eq_true_iff, decide_eq_true_iff, ← bs_nil, ← bs_nil, ← bs_nil, bs_append, List.append_eq_nil_iff]
theorem ok_lits_zero {x : Sh} (h : Ok x) (hk : x.k = true) : (ofBytes (bs x.lit)).mem 0 = false := by rw [← (h.lit hk).1]; exact h.zero
/-- What is joined behind each other: its bytes, and whether it may be empty. -/
theorem cat_form {x y : Sh} (hx : Ok x) (hy : Ok y) (h1 : x.none = false) (h2 : y.none = false) :
    (catS x y).u = false ∧ (catS x y).has = x.has.or y.has ∧ (catS x y).e = (x.e && y.e) ∧ Ok (catS x y) ∧ ((catS x y).k = true → x.k = true ∧ y.k = true ∧ (catS x y).lit = x.lit ++ y.lit) := by
  have hz : (x.has.or y.has).mem 0 = false := by rw [S4.mem_or, hx.zero, hy.zero]; rfl
  unfold catS
  rw [h1, h2]
  simp only [Bool.or_self, Bool.false_eq_true, if_false]
  split
  · rename_i hc
    simp only [Bool.and_eq_true, decide_eq_true_iff] at hc
    obtain ⟨k1, k2, k3⟩ := hc
    obtain ⟨a1, a2, a3⟩ := hx.lit k1
    obtain ⟨b1, b2, b3⟩ := hy.lit k2
    have e1 : ofBytes (bs (x.lit ++ y.lit)) = x.has.or y.has := by rw [bs_append, ofBytes_append, a1, b1]
    rw [litS_k (by rw [ByteArray.size_append]; omega) (by rw [e1]; exact hz)]
    refine ⟨rfl, e1, by simp only [append_tz, a2, b2], ?_, fun _ => ⟨k1, k2, rfl⟩⟩
    exact ⟨by simp only [e1]; exact hz, fun _ => ⟨rfl, rfl, by simp only [ByteArray.size_append]; omega⟩, fun h => by cases h⟩
  · exact ⟨rfl, rfl, rfl, ⟨hz, fun h => (by cases h), fun _ => rfl⟩, fun h => by cases h⟩
theorem ok_cat {x y : Sh} (hx : Ok x) (hy : Ok y) : Ok (catS x y) := by
  cases h1 : x.none with
  | true => unfold catS; rw [h1]; exact ok_zero
  | false =>
    cases h2 : y.none with
    | true => unfold catS; rw [h1, h2]; exact ok_zero
    | false => exact (cat_form hx hy h1 h2).2.2.2.1
theorem ok_cut {x : Sh} (hx : Ok x) : Ok (cutS x) := by
  unfold cutS
  split
  · exact hx
  · exact ⟨hx.zero, fun h => (by cases h), fun _ => rfl⟩
theorem ok_given {x : Sh} (hx : Ok x) (c : Bool) : Ok (givenS x c) := by
  unfold givenS
  split
  · exact ok_setu hx false
  · split
    · exact ok_zero
    · rename_i hc
      refine ⟨hx.zero, fun hk => ?_, hx.non⟩
      obtain ⟨a1, a2, a3⟩ := hx.lit hk
      refine ⟨a1, ?_, a3⟩
      simp only at hk
      rw [hk] at hc
      simp only [Bool.true_and, decide_eq_true_eq] at hc
      exact (decide_eq_false hc).symm
theorem given_u (x : Sh) (c : Bool) : (givenS x c).u = false := by
  unfold givenS
  split
  · rfl
  · split <;> rfl
theorem none_there {x : Sh} (h : x.u = false) : x.none = !x.there := by unfold Sh.none; rw [h]; rfl
theorem ok_default {x w : Sh} (hx : Ok x) (hw : Ok w) (c : Bool) : Ok (defaultS x w c) := by
  unfold defaultS
  split
  · exact ok_join (ok_given hx c) hw
  · exact ok_given hx c
theorem ok_pick {x w : Sh} (hw : Ok w) (b : Bool) : Ok (if b then Sh.zero else w) := by
  cases b
  · exact hw
  · exact ok_zero
theorem ok_other {x w : Sh} (hx : Ok x) (hw : Ok w) (c : Bool) : Ok (otherS x w c) := by
  unfold otherS
  split
  · exact ok_join (ok_pick (x := x) hw _) (ok_lit _)
  · exact ok_pick (x := x) hw _

/-! The document's answers. -/
theorem cut_ref {x : Sh} (h : x.u = false) : cutS x = refCutS x := by unfold cutS refCutS; rw [h]
theorem default_ref {x w : Sh} (hx : Ok x) (hw : Ok w) (c : Bool) : defaultS x w c = refDefaultS x w c := by
  unfold defaultS refDefaultS
  rw [refJoin_eq (ok_given hx c) hw]
theorem other_ref {x w : Sh} (hx : Ok x) (hw : Ok w) (c : Bool) : otherS x w c = refOtherS x w c := by
  unfold otherS refOtherS
  rw [none_there (given_u x c)]
  cases (givenS x c).there with
  | false =>
    simp only [Bool.not_false, if_true, Bool.false_eq_true, if_false]
    rw [refJoin_eq ok_zero (ok_lit _)]
  | true =>
    simp only [Bool.not_true, if_true, Bool.false_eq_true, if_false]
    rw [refJoin_eq hw (ok_lit _)]
theorem split_ref {x f : Sh} (h : x.u = false) : splitS x f = refSplitS x f := by
  unfold splitS refSplitS
  rw [none_there h]
  cases x.there <;> rfl

/-! More makes more. -/
def Up (x j : Sh) : Prop := (x.u = true → j.u = true) ∧ (x.there = false ∨ (j.e = x.e ∧ j.has = x.has ∧ j.k = x.k ∧ j.lit = x.lit) ∨ (j.k = false ∧ subS x.has j.has = true ∧ (x.e = true → j.e = true)))
theorem up_join {x b : Sh} (hx : Ok x) (hb : Ok b) : Up x (x.join b) := by
  refine ⟨fun h => by rw [join_u, h]; rfl, ?_⟩
  rcases join_cases hx hb with ⟨h, e⟩ | ⟨h, e⟩ | ⟨h1, h2, h3, h4, h5, h6, e⟩ | ⟨h1, h2, h3, e⟩
  · exact .inl h
  · rw [e]; exact .inr (.inl ⟨rfl, rfl, rfl, rfl⟩)
  · rw [e]; exact .inr (.inl ⟨rfl, rfl, rfl, rfl⟩)
  · rw [e]; exact .inr (.inr ⟨rfl, subS_orl _ _, fun h => by simp only [h]; rfl⟩)
theorem there_up {x j : Sh} (hx : Ok x) (h : Up x j) (ht : x.there = true) : j.there = true := by
  obtain ⟨_, h | ⟨h1, h2, h3, h4⟩ | ⟨h1, h2, h3⟩⟩ := h
  · rw [ht] at h; cases h
  · unfold Sh.there at ht ⊢; rw [h1, h2, h3]; exact ht
  · rw [there_non h1]
    cases hj : j.e with
    | true => rfl
    | false =>
      have he : x.e = false := by
        cases hxe : x.e with
        | false => rfl
        | true => rw [h3 hxe] at hj; cases hj
      cases hz : decide (j.has = S4.zero) with
      | false => rfl
      | true =>
        rw [zero_dec.1 hz] at h2
        have h5 := subS_of_zero h2
        exfalso
        cases hk : x.k with
        | true =>
          obtain ⟨a1, a2, _⟩ := hx.lit hk
          rw [h5] at a1
          have h6 := bs_nil.1 (ofBytes_zero a1.symm)
          rw [a2, h6] at he
          simp at he
        | false => rw [there_non hk, he, h5] at ht; simp at ht
theorem up_below {x j : Sh} (hx : Ok x) (hj : Ok j) (h : Up x j) : Below x j := by
  refine ⟨h.1, ?_⟩
  obtain ⟨_, h | ⟨h1, h2, h3, h4⟩ | h⟩ := h
  · exact .inl h
  · right
    cases hk : j.k with
    | true => exact .inl ⟨rfl, by rw [← h3]; exact hk, h4.symm⟩
    | false => exact .inr (.inr ⟨rfl, by rw [h2]; exact subS_refl _, fun h => by rw [h1]; exact h⟩)
  · exact .inr (.inr (.inr h))
theorem up_set {x j : Sh} (hx : Ok x) (h : Up x j) : Up (setS x) (setS j) := by
  have ht := there_up hx h
  refine ⟨fun hu => (by rw [set_u] at hu; cases hu), ?_⟩
  obtain ⟨hu, hd⟩ := h
  have hsub : x.there = true → subS x.has j.has = true := fun hxt => by
    rcases hd with hd | ⟨_, h2, _⟩ | ⟨_, h2, _⟩
    · rw [hxt] at hd; cases hd
    · rw [h2]; exact subS_refl _
    · exact h2
  unfold setS
  cases hxu : x.u with
  | false =>
    simp only [if_true]
    cases hju : j.u with
    | false => simp only [if_true]; exact hd
    | true =>
      simp only [Bool.true_eq_false, if_false]
      cases hxt : x.there with
      | false => exact .inl rfl
      | true =>
        rw [ht hxt]
        simp only [Bool.true_eq_false, if_false]
        exact .inr (.inr ⟨trivial, hsub hxt, fun _ => trivial⟩)
  | true =>
    rw [hu hxu]
    simp only [Bool.true_eq_false, if_false]
    cases hxt : x.there with
    | false =>
      simp only [if_true]
      rw [lit0]
      cases hjt : j.there with
      | false => simp only [if_true]; exact .inr (.inl ⟨trivial, trivial, trivial, trivial⟩)
      | true => simp only [Bool.true_eq_false, if_false]; exact .inr (.inr ⟨trivial, subS_zero _, fun _ => trivial⟩)
    | true =>
      rw [ht hxt]
      simp only [Bool.true_eq_false, if_false]
      exact .inr (.inr ⟨trivial, hsub hxt, fun _ => trivial⟩)
theorem up_same {x j : Sh} (hu : x.u = j.u) (h1 : j.e = x.e) (h2 : j.has = x.has) (h3 : j.k = x.k) (h4 : j.lit = x.lit) : x = j := by
  obtain ⟨u, e, h, k, l⟩ := x
  obtain ⟨u2, e2, h9, k2, l2⟩ := j
  simp only at *
  rw [hu, h1, h2, h3, h4]
theorem up_refl (x : Sh) : Up x x := ⟨id, .inr (.inl ⟨rfl, rfl, rfl, rfl⟩)⟩
theorem up_cat {p q w : Sh} (hp : Ok p) (hq : Ok q) (hw : Ok w) (pu : p.u = false) (qu : q.u = false) (h : Up p q) : Up (catS p w) (catS q w) := by
  have ht := there_up hp h
  cases n1 : p.none with
  | true => refine ⟨?_, .inl ?_⟩ <;> (unfold catS; rw [n1]; simp [Sh.zero, Sh.there])
  | false =>
    cases n2 : w.none with
    | true => unfold catS; rw [n2]; simp only [Bool.or_true, if_true]; exact up_refl _
    | false =>
      have pt : p.there = true := by rw [none_there pu] at n1; simpa using n1
      have n3 : q.none = false := by rw [none_there qu, ht pt]; rfl
      obtain ⟨_, hd | ⟨h1, h2, h3, h4⟩ | ⟨h1, h2, h3⟩⟩ := h
      · rw [pt] at hd; cases hd
      · rw [up_same (pu.trans qu.symm) h1 h2 h3 h4]; exact up_refl _
      · obtain ⟨a1, a2, a3, a4, a5⟩ := cat_form hp hw n1 n2
        obtain ⟨b1, b2, b3, b4, b5⟩ := cat_form hq hw n3 n2
        refine ⟨fun hu => (by rw [a1] at hu; cases hu), .inr (.inr ⟨?_, ?_, fun he => ?_⟩)⟩
        · cases hk : (catS q w).k with
          | false => rfl
          | true => have := (b5 hk).1; rw [h1] at this; cases this
        · rw [a2, b2]; exact subS_mono h2 (subS_refl _)
        · rw [a3, Bool.and_eq_true] at he
          rw [b3, h3 he.1, he.2]; rfl
theorem up_cut {p q : Sh} (hp : Ok p) (hq : Ok q) (pu : p.u = false) (qu : q.u = false) (h : Up p q) : Up (cutS p) (cutS q) := by
  have ht := there_up hp h
  have cu : ∀ x : Sh, x.u = false → (cutS x).u = false := fun x hx => by unfold cutS; split <;> exact hx
  refine ⟨fun hu => (by rw [cu p pu] at hu; cases hu), ?_⟩
  cases n1 : p.none with
  | true =>
    left
    unfold cutS; rw [n1]; simp only [Bool.true_or, if_true]
    rw [none_there pu] at n1; simpa using n1
  | false =>
    have pt : p.there = true := by rw [none_there pu] at n1; simpa using n1
    have n3 : q.none = false := by rw [none_there qu, ht pt]; rfl
    obtain ⟨_, hd | ⟨h1, h2, h3, h4⟩ | ⟨h1, h2, h3⟩⟩ := h
    · rw [pt] at hd; cases hd
    · rw [up_same (pu.trans qu.symm) h1 h2 h3 h4]; exact (up_refl _).2
    · right; right
      have e2 : cutS q = ⟨q.u, true, q.has, false, tz⟩ := by unfold cutS; rw [n3, h1]; rfl
      rw [e2]
      refine ⟨rfl, ?_, fun _ => rfl⟩
      unfold cutS
      split
      · exact h2
      · exact h2
theorem up_given {x j : Sh} (hx : Ok x) (hj : Ok j) (c : Bool) (h : Up x j) : Up (givenS x c) (givenS j c) := by
  refine ⟨fun hu => (by rw [given_u] at hu; cases hu), ?_⟩
  obtain ⟨_, hd⟩ := h
  cases c with
  | false =>
    unfold givenS
    simp only [if_true]
    rcases hd with hd | hd | hd
    · exact .inl hd
    · exact .inr (.inl hd)
    · exact .inr (.inr hd)
  | true =>
    rcases hd with hd | ⟨h1, h2, h3, h4⟩ | ⟨h1, h2, h3⟩
    · left
      rw [not_there hx hd]
      unfold givenS
      simp [Sh.there]
    · right; left
      unfold givenS
      rw [h2, h3, h4]
      simp only [Bool.true_eq_false, if_false, and_self]
    · unfold givenS
      simp only [Bool.true_eq_false, if_false]
      rw [h1]
      simp only [Bool.false_and, Bool.false_eq_true, if_false]
      split
      · exact .inl (by simp [Sh.there, Sh.zero])
      · exact .inr (.inr ⟨trivial, h2, fun h => (by cases h)⟩)
theorem else_up {x j : Sh} (hx : Ok x) (c : Bool) (h : Up x j) (he : elseS x c = true) : elseS j c = true := by
  unfold elseS at he ⊢
  rw [Bool.or_eq_true] at he ⊢
  rcases he with he | he
  · exact .inl (h.1 he)
  · right
    rw [Bool.and_eq_true] at he ⊢
    refine ⟨he.1, ?_⟩
    obtain ⟨_, hd | ⟨h1, _⟩ | ⟨_, _, h3⟩⟩ := h
    · rw [not_there hx hd] at he; cases he.2
    · rw [h1]; exact he.2
    · exact h3 he.2
theorem default_rises {x j w : Sh} (hx : Ok x) (hj : Ok j) (hw : Ok w) (c : Bool) (h : Up x j) : Below (defaultS x w c) (defaultS j w c) := by
  have hg := up_below (ok_given hx c) (ok_given hj c) (up_given hx hj c h)
  have ogx := ok_given hx c
  have ogj := ok_given hj c
  have oj := ok_join ogj hw
  have gj : Below (givenS j c) ((givenS j c).join w) := (leq_iff ogj oj).1 (leq_joinl ogj hw)
  have wj : Below w ((givenS j c).join w) := (leq_iff hw oj).1 (leq_joinr ogj hw)
  unfold defaultS
  cases hex : elseS x c with
  | true =>
    rw [else_up hx c h hex]
    simp only [if_true]
    exact join_least ogx hw oj (below_trans ogx ogj oj hg gj) wj
  | false =>
    simp only [Bool.false_eq_true, if_false]
    split
    · exact below_trans ogx ogj oj hg gj
    · exact hg
theorem other_rises {x j w : Sh} (hx : Ok x) (hj : Ok j) (hw : Ok w) (c : Bool) (h : Up x j) : Below (otherS x w c) (otherS j w c) := by
  have ogx := ok_given hx c
  have ogj := ok_given hj c
  have l0 : Ok (litS tz) := ok_lit _
  have hg := there_up ogx (up_given hx hj c h)
  have op : Below (if (givenS x c).none then Sh.zero else w) (if (givenS j c).none then Sh.zero else w) := by
    rw [none_there (given_u x c), none_there (given_u j c)]
    cases ht : (givenS x c).there with
    | false => exact ⟨fun h => (by cases h), .inl (by simp [Sh.there, Sh.zero])⟩
    | true => rw [hg ht]; exact below_refl w hw
  have o1 : Ok (if (givenS x c).none then Sh.zero else w) := ok_pick (x := x) hw _
  have o2 : Ok (if (givenS j c).none then Sh.zero else w) := ok_pick (x := x) hw _
  have oj := ok_join o2 l0
  have gj := (leq_iff o2 oj).1 (leq_joinl o2 l0)
  have wj := (leq_iff l0 oj).1 (leq_joinr o2 l0)
  unfold otherS
  cases hex : elseS x c with
  | true =>
    rw [else_up hx c h hex]
    simp only [if_true]
    exact join_least o1 l0 oj (below_trans o1 o2 oj op gj) wj
  | false =>
    simp only [Bool.false_eq_true, if_false]
    cases hej : elseS j c with
    | true => exact below_trans o1 o2 oj op gj
    | false => exact op
theorem and_zero_sub {s t r : S4} (h : subS s t = true) (hz : decide (t.and r = S4.zero) = true) : decide (s.and r = S4.zero) = true := by
  rw [zero_dec, S4.eq_zero_iff] at hz ⊢
  intro j hj
  have h1 := hz j hj
  rw [S4.mem_and] at h1 ⊢
  cases hs : s.mem j with
  | false => rfl
  | true => rw [subS_iff.1 h j hj hs] at h1; exact h1
theorem and_zero_l (r : S4) : decide (S4.zero.and r = S4.zero) = true := by
  rw [zero_dec, S4.eq_zero_iff]
  intro j hj
  rw [S4.mem_and, S4.mem_zero]; rfl
theorem split_up {p q f : Sh} (hp : Ok p) (pu : p.u = false) (qu : q.u = false) (h : Up p q) (hs : splitS p f = true) : splitS q f = true := by
  have ht := there_up hp h
  unfold splitS at hs ⊢
  rw [none_there pu] at hs
  rw [none_there qu]
  cases pt : p.there with
  | false => rw [pt] at hs; simp at hs
  | true =>
    rw [ht pt]
    rw [pt] at hs
    simp only [Bool.not_true, Bool.false_eq_true, if_false, Bool.or_eq_true] at hs ⊢
    obtain ⟨_, hd | ⟨h1, h2, h3, h4⟩ | ⟨h1, h2, h3⟩⟩ := h
    · rw [pt] at hd; cases hd
    · rw [h1, h2]; exact hs
    · rcases hs with hs | hs
      · exact .inl (h3 hs)
      · right
        cases hz : decide (q.has.and (byS f) = S4.zero) with
        | false => rfl
        | true => rw [and_zero_sub h2 hz] at hs; cases hs
theorem glob_up {p q : Sh} (hp : Ok p) (h : Up p q) (hs : globS p = true) : globS q = true := by
  unfold globS at hs ⊢
  obtain ⟨_, hd | ⟨h1, h2, h3, h4⟩ | ⟨h1, h2, h3⟩⟩ := h
  · rw [not_there hp hd] at hs
    simp only [and_zero_l] at hs; cases hs
  · rw [h2]; exact hs
  · cases hz : decide (q.has.and globsS = S4.zero) with
    | false => rfl
    | true => rw [and_zero_sub h2 hz] at hs; cases hs

/-! What two values may be, what is made of them may be. -/
theorem may_there {x : Sh} (hx : Ok x) {v : ByteArray} (h : x.may true v = true) : x.there = true := by
  cases ht : x.there with
  | true => rfl
  | false => rw [may_none hx ht] at h; cases h
theorem may_parts {x : Sh} (hx : Ok x) {v : ByteArray} (h : x.may true v = true) : subS (ofBytes (bs v)) x.has = true ∧ (v = tz → x.e = true) := by
  cases hk : x.k with
  | true =>
    obtain ⟨a1, a2, a3⟩ := hx.lit hk
    rw [may_lit hk, decide_eq_true_iff] at h
    subst h
    exact ⟨by rw [a1]; exact subS_refl _, fun hv => by rw [a2, hv]; rfl⟩
  | false =>
    by_cases hv : v = tz
    · subst hv; rw [may_nil hk] at h; exact ⟨subS_zero _, fun _ => h⟩
    · rw [may_some hk hv] at h; exact ⟨h, fun h => absurd h hv⟩
theorem may_mk {u e : Bool} {h : S4} {v : ByteArray} (h1 : subS (ofBytes (bs v)) h = true) (h2 : v = tz → e = true) : (⟨u, e, h, false, tz⟩ : Sh).may true v = true := by
  by_cases hv : v = tz
  · subst hv; rw [may_nil rfl]; exact h2 rfl
  · rw [may_some rfl hv]; exact h1
theorem sound_set {x : Sh} (hx : Ok x) {is : Bool} {v : ByteArray} (h : x.may is v = true) : (setS x).may true (if is then v else tz) = true := by
  unfold setS
  cases is with
  | false =>
    rw [may_not] at h
    rw [h]
    simp only [Bool.true_eq_false, if_false, Bool.false_eq_true]
    split
    · rw [lit0]; rfl
    · exact may_mk (subS_zero _) fun _ => rfl
  | true =>
    simp only [if_true]
    split
    · exact h
    · split
      · rename_i ht
        rw [may_none hx ht] at h; cases h
      · exact may_mk (may_parts hx h).1 fun _ => rfl
theorem sound_cat {x y : Sh} (hx : Ok x) (hy : Ok y) {v w : ByteArray} (h : x.may true v = true) (k : y.may true w = true) : (catS x y).may true (v ++ w) = true := by
  have n1 : x.none = false := by unfold Sh.none; rw [may_there hx h]; simp
  have n2 : y.none = false := by unfold Sh.none; rw [may_there hy k]; simp
  obtain ⟨a1, a2, a3, a4, a5⟩ := cat_form hx hy n1 n2
  obtain ⟨x1, x2⟩ := may_parts hx h
  obtain ⟨y1, y2⟩ := may_parts hy k
  cases hk : (catS x y).k with
  | true =>
    obtain ⟨b1, b2, b3⟩ := a5 hk
    rw [may_lit b1, decide_eq_true_iff] at h
    rw [may_lit b2, decide_eq_true_iff] at k
    rw [may_lit hk, b3, h, k]; simp
  | false =>
    have hs : subS (ofBytes (bs (v ++ w))) (catS x y).has = true := by rw [a2, bs_append, ofBytes_append]; exact subS_mono x1 y1
    by_cases hv : v ++ w = tz
    · rw [hv, may_nil hk, a3]
      have h9 := append_tz (l := v) (r := w)
      rw [decide_eq_true hv] at h9
      have h8 := h9.symm
      rw [Bool.and_eq_true, decide_eq_true_iff, decide_eq_true_iff] at h8
      rw [x2 h8.1, y2 h8.2]; rfl
    · rw [may_some hk hv]; exact hs
theorem sound_cut {x : Sh} (hx : Ok x) {v p : ByteArray} (h : x.may true v = true) (hp : ∀ b ∈ bs p, b ∈ bs v) : (cutS x).may true p = true := by
  have n1 : x.none = false := by unfold Sh.none; rw [may_there hx h]; simp
  obtain ⟨x1, x2⟩ := may_parts hx h
  unfold cutS
  rw [n1]
  simp only [Bool.false_or, Bool.and_eq_true, decide_eq_true_eq]
  split
  · rename_i hc
    obtain ⟨k1, k2⟩ := hc
    rw [may_lit k1, decide_eq_true_iff] at h
    have hv : v = tz := by rw [← h, k2]
    have hpz : p = tz := by
      refine bs_nil.1 (List.eq_nil_iff_forall_not_mem.2 fun b hb => ?_)
      have := hp b hb
      rw [hv] at this
      simp at this
    rw [may_lit k1, k2, hpz]; simp
  · refine may_mk (ofBytes_sub.2 fun b hb => ofBytes_sub.1 x1 b (hp b hb)) fun _ => rfl
theorem sound_given {x : Sh} (hx : Ok x) {v : ByteArray} (c : Bool) (h : x.may true v = true) (hu : (c && decide (v = tz)) = false) : (givenS x c).may true v = true := by
  unfold givenS
  cases c with
  | false => exact h
  | true =>
    have hv : v ≠ tz := by simpa using hu
    simp only [Bool.true_eq_false, if_false]
    split
    · rename_i hc
      rw [Bool.and_eq_true, decide_eq_true_iff] at hc
      rw [may_lit hc.1, decide_eq_true_iff, hc.2] at h
      exact absurd h.symm hv
    · cases hk : x.k with
      | true => rw [may_lit hk] at h; rw [may_lit rfl]; exact h
      | false => rw [may_some hk hv] at h; rw [may_some rfl hv]; exact h
theorem sound_default {x w : Sh} (hx : Ok x) (hw : Ok w) {v : ByteArray} (c : Bool) (h : x.may true v = true) (hu : (c && decide (v = tz)) = false) : (defaultS x w c).may true v = true := by
  have hg := sound_given hx c h hu
  unfold defaultS
  split
  · exact join_upl (ok_given hx c) hw hg
  · exact hg
theorem sound_other {x w : Sh} (hx : Ok x) (hw : Ok w) {v t : ByteArray} (c : Bool) (h : x.may true v = true) (hu : (c && decide (v = tz)) = false) (k : w.may true t = true) : (otherS x w c).may true t = true := by
  have hg := may_there (ok_given hx c) (sound_given hx c h hu)
  unfold otherS
  rw [none_there (given_u x c), hg]
  simp only [Bool.not_true, Bool.false_eq_true, if_false]
  split
  · exact join_upl hw (ok_lit _) k
  · exact k
/-- Where a value is not used: it is not there, or it is empty where that is asked. -/
theorem else_true {x : Sh} (hx : Ok x) {is : Bool} {v : ByteArray} (c : Bool) (h : x.may is v = true) (hu : (is && !(c && decide (v = tz))) = false) : elseS x c = true := by
  unfold elseS
  cases is with
  | false => rw [may_not] at h; rw [h]; rfl
  | true =>
    have : (c && decide (v = tz)) = true := by simpa using hu
    rw [Bool.and_eq_true, decide_eq_true_iff] at this
    rw [this.1, (may_parts hx h).2 this.2]; simp
theorem sound_default' {x w : Sh} (hx : Ok x) (hw : Ok w) {is : Bool} {v t : ByteArray} (c : Bool) (h : x.may is v = true) (hu : (is && !(c && decide (v = tz))) = false) (k : w.may true t = true) : (defaultS x w c).may true t = true := by
  unfold defaultS
  rw [else_true hx c h hu]
  simp only [if_true]
  exact join_upr (ok_given hx c) hw k
theorem sound_other' {x w : Sh} (hx : Ok x) (hw : Ok w) {is : Bool} {v : ByteArray} (c : Bool) (h : x.may is v = true) (hu : (is && !(c && decide (v = tz))) = false) : (otherS x w c).may true tz = true := by
  unfold otherS
  rw [else_true hx c h hu]
  simp only [if_true]
  exact join_upr (ok_pick (x := x) hw _) (ok_lit _) (by rw [lit0]; rfl)

/-- Some byte of a text is one of a set. -/
theorem meets {v : ByteArray} {s : S4} {b : UInt8} (hb : b ∈ bs v) {h : S4} (hs : subS (ofBytes (bs v)) h = true) (hm : s.mem b.toNat = true) : decide (h.and s = S4.zero) = false := by
  apply decide_eq_false
  intro hz
  have h1 := (S4.eq_zero_iff _).1 hz b.toNat b.toNat_lt
  rw [S4.mem_and, ofBytes_sub.1 hs b hb, hm] at h1
  cases h1
theorem sound_glob {x : Sh} (hx : Ok x) {v : ByteArray} (h : x.may true v = true) {b : UInt8} (hb : b ∈ bs v) (hg : globsS.mem b.toNat = true) : globS x = true := by
  unfold globS
  rw [meets hb (may_parts hx h).1 hg]; rfl
theorem by_has {y : Sh} (hy : Ok y) {is : Bool} {t : ByteArray} (h : y.may is t = true) {b : UInt8} (hb : b ∈ (if is then bs t else [32, 9, 10])) : (byS y).mem b.toNat = true := by
  unfold byS
  cases is with
  | false =>
    rw [may_not] at h
    rw [h]
    simp only [if_true, S4.mem_or, Bool.or_eq_true]
    exact .inr (ofBytes_sub.1 (subS_refl blanksS) b (by simpa using hb))
  | true =>
    simp only [if_true] at hb
    have h1 : (if y.k then ofBytes (bs y.lit) else y.has).mem b.toNat = true := by
      cases hk : y.k with
      | true =>
        rw [may_lit hk, decide_eq_true_iff] at h
        subst h
        exact ofBytes_sub.1 (subS_refl _) b hb
      | false => exact ofBytes_sub.1 (may_parts hy h).1 b hb
    split
    · rw [S4.mem_or]
      have h2 : (if y.k = true then ofBytes y.lit.data.toList else y.has).mem b.toNat = true := h1
      rw [h2]; rfl
    · exact h1
theorem sound_split {x y : Sh} (hx : Ok x) (hy : Ok y) {v t : ByteArray} {is : Bool} (h : x.may true v = true) (k : y.may is t = true) (hs : v = tz ∨ ∃ b ∈ bs v, b ∈ (if is then bs t else [32, 9, 10])) : splitS x y = true := by
  have n1 : x.none = false := by unfold Sh.none; rw [may_there hx h]; simp
  obtain ⟨x1, x2⟩ := may_parts hx h
  unfold splitS
  rw [n1]
  simp only [Bool.false_eq_true, if_false]
  rcases hs with hs | ⟨b, hb, hb2⟩
  · rw [x2 hs]; rfl
  · rw [meets hb x1 (by_has hy k hb2)]; simp
end Go.Conch
