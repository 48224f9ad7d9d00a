/-
  Shapes as plain data: what is Ok, what is less, what is joined.
-/
import Derived.Test.YtlbonbkaddeeeaaSI
set_option linter.unusedSimpArgs false
set_option linter.unusedVariables false
namespace Go.Conch
open Go.RowKit Go.Proofs.Ytlbonbkaddeeeaa

theorem subS_iff {s t : S4} : subS s t = true ↔ ∀ j, j < 256 → s.mem j = true → t.mem j = true := by
  unfold subS
  rw [decide_eq_true_iff, S4.eq_zero_iff]
  constructor
  · intro h j hj hs
    have := h j hj
    rw [S4.mem_less, hs] at this
    simpa using this
  · intro h j hj
    rw [S4.mem_less]
    cases hs : s.mem j with
    | false => rfl
    | true => rw [h j hj hs]; rfl
theorem subS_refl (s : S4) : subS s s = true := subS_iff.2 fun _ _ h => h
theorem subS_trans {s t r : S4} (h : subS s t = true) (k : subS t r = true) : subS s r = true := subS_iff.2 fun j hj hs => subS_iff.1 k j hj (subS_iff.1 h j hj hs)
theorem subS_orl (s t : S4) : subS s (s.or t) = true := subS_iff.2 fun j hj hs => by rw [S4.mem_or, hs]; rfl
theorem subS_orr (s t : S4) : subS t (s.or t) = true := subS_iff.2 fun j hj hs => by rw [S4.mem_or, hs, Bool.or_true]
theorem subS_or {s t r : S4} (h : subS s r = true) (k : subS t r = true) : subS (s.or t) r = true := subS_iff.2 fun j hj hs => by
  rw [S4.mem_or, Bool.or_eq_true] at hs
  rcases hs with hs | hs
  · exact subS_iff.1 h j hj hs
  · exact subS_iff.1 k j hj hs
theorem subS_mono {s t r q : S4} (h : subS s t = true) (k : subS r q = true) : subS (s.or r) (t.or q) = true :=
  subS_or (subS_trans h (subS_orl t q)) (subS_trans k (subS_orr t q))
theorem subS_zero (t : S4) : subS S4.zero t = true := subS_iff.2 fun j _ hs => by rw [S4.mem_zero] at hs; cases hs
theorem subS_of_zero {s : S4} (h : subS s S4.zero = true) : s = S4.zero := (S4.eq_zero_iff s).2 fun j hj => by
  cases hs : s.mem j with
  | false => rfl
  | true => have := subS_iff.1 h j hj hs; rw [S4.mem_zero] at this; cases this
theorem or_zero (s : S4) : s.or S4.zero = s := S4.ext_mem fun j _ => by rw [S4.mem_or, S4.mem_zero, Bool.or_false]
theorem zero_or (s : S4) : S4.zero.or s = s := S4.ext_mem fun j _ => by rw [S4.mem_or, S4.mem_zero, Bool.false_or]
theorem or_assoc (s t r : S4) : (s.or t).or r = s.or (t.or r) := S4.ext_mem fun j _ => by simp only [S4.mem_or, Bool.or_assoc]
theorem or_sub {s t : S4} (h : subS s t = true) : t.or s = t := S4.ext_mem fun j hj => by
  rw [S4.mem_or]
  cases hs : s.mem j with
  | false => simp
  | true => rw [subS_iff.1 h j hj hs]; rfl
theorem or_sub' {s t : S4} (h : subS s t = true) : s.or t = t := (or_comm t s).trans (or_sub h)
theorem zero_dec {s : S4} : decide (s = S4.zero) = true ↔ s = S4.zero := decide_eq_true_iff
theorem some_mem {s : S4} (h : s ≠ S4.zero) : ∃ j, j < 256 ∧ s.mem j = true := by
  apply Classical.byContradiction
  intro hn
  apply h
  refine (S4.eq_zero_iff s).2 fun j hj => ?_
  cases hs : s.mem j with
  | false => rfl
  | true => exact absurd ⟨j, hj, hs⟩ hn

/-! Texts. -/
abbrev tz : ByteArray := ⟨#[]⟩
abbrev bs (v : ByteArray) : List UInt8 := v.data.toList
theorem bs_nil {v : ByteArray} : bs v = [] ↔ v = tz := by
  constructor
  · intro h
    apply ByteArray.ext
    apply Array.toList_inj.1
    exact h
  · intro h; rw [h]
theorem bs_inj {v w : ByteArray} (h : bs v = bs w) : v = w := ByteArray.ext (Array.toList_inj.1 h)
theorem bs_append (v w : ByteArray) : bs (v ++ w) = bs v ++ bs w := by simp [bs]
theorem bs_size (v : ByteArray) : (bs v).length = v.size := by simp [bs]
theorem ofBytes_nil : ofBytes [] = S4.zero := rfl
theorem ofBytes_append (l r : List UInt8) : ofBytes (l ++ r) = (ofBytes l).or (ofBytes r) := S4.ext_mem fun j hj => by
  rw [S4.mem_or, mem_ofBytes _ _ hj, mem_ofBytes _ _ hj, mem_ofBytes _ _ hj, Bool.eq_iff_iff]
  simp only [Bool.or_eq_true, decide_eq_true_iff, List.mem_append]
  constructor
  · rintro ⟨b, h | h, e⟩
    · exact .inl ⟨b, h, e⟩
    · exact .inr ⟨b, h, e⟩
  · rintro (⟨b, h, e⟩ | ⟨b, h, e⟩)
    · exact ⟨b, .inl h, e⟩
    · exact ⟨b, .inr h, e⟩
theorem ofBytes_sub {l : List UInt8} {s : S4} : subS (ofBytes l) s = true ↔ ∀ b ∈ l, s.mem b.toNat = true := by
  rw [subS_iff]
  constructor
  · intro h b hb
    have hj : b.toNat < 256 := b.toNat_lt
    exact h _ hj (by rw [mem_ofBytes _ _ hj, decide_eq_true_iff]; exact ⟨b, hb, rfl⟩)
  · intro h j hj hs
    rw [mem_ofBytes _ _ hj, decide_eq_true_iff] at hs
    obtain ⟨b, hb, rfl⟩ := hs
    exact h b hb
theorem ofBytes_zero {l : List UInt8} (h : ofBytes l = S4.zero) : l = [] := by
  cases l with
  | nil => rfl
  | cons b l =>
    have h1 : (ofBytes (b :: l)).mem b.toNat = true := by
      rw [mem_ofBytes _ _ b.toNat_lt, decide_eq_true_iff]; exact ⟨b, List.mem_cons_self .., rfl⟩
    rw [h, S4.mem_zero] at h1; cases h1
theorem mem_allS (j : Nat) (hj : j < 256) : allS.mem j = decide (1 ≤ j) := by
  rw [allS, mem_rangeS' _ _ (by omega) (by omega) (by omega) (by omega) _ hj, Bool.eq_iff_iff]
  simp only [Bool.and_eq_true, decide_eq_true_iff]
  omega
theorem and_all {s : S4} (h : s.mem 0 = false) : s.and allS = s := S4.ext_mem fun j hj => by
  rw [S4.mem_and, mem_allS j hj]
  by_cases h0 : j = 0
  · subst h0; rw [h]; rfl
  · rw [decide_eq_true (by omega), Bool.and_true]
theorem and_all_zero (s : S4) : (s.and allS).mem 0 = false := by
  rw [S4.mem_and, mem_allS 0 (by omega)]; simp
theorem sub_all {s : S4} (h : s.mem 0 = false) : subS s allS = true := subS_iff.2 fun j hj hs => by
  rw [mem_allS j hj, decide_eq_true_iff]
  rcases Nat.eq_zero_or_pos j with h0 | h0
  · subst h0; rw [h] at hs; cases hs
  · exact h0
theorem contains_zero {l : List UInt8} : l.contains 0 = (ofBytes l).mem 0 := by
  rw [mem_ofBytes _ _ (by omega), Bool.eq_iff_iff, decide_eq_true_iff, List.contains_iff_exists_mem_beq]
  constructor
  · rintro ⟨b, hb, h⟩
    exact ⟨b, hb, by have : b = 0 := (by simpa using h : (0 : UInt8) = b).symm; rw [this]; rfl⟩
  · rintro ⟨b, hb, h⟩
    exact ⟨b, hb, by have : b = 0 := UInt8.toNat_inj.1 h; rw [this]; rfl⟩

/-! Shapes that are Ok. -/
structure Ok (x : Sh) : Prop where
  zero : x.has.mem 0 = false
  lit : x.k = true → x.has = ofBytes (bs x.lit) ∧ x.e = decide (x.lit = tz) ∧ x.lit.size ≤ 64
  non : x.k = false → x.lit = tz
theorem ok_iff {x : Sh} : okS x = true ↔ Ok x := by
  unfold okS
  cases hz : x.has.mem 0 with
  | true =>
    simp only [if_true, Bool.false_eq_true, false_iff]
    intro h; rw [h.zero] at hz; cases hz
  | false =>
    simp only [Bool.false_eq_true, if_false]
    cases hk : x.k with
    | false =>
      simp only [if_true, decide_eq_true_iff]
      exact ⟨fun h => ⟨hz, fun h2 => (by rw [hk] at h2; cases h2), fun _ => h⟩, fun h => h.non hk⟩
    | true =>
      simp only [Bool.true_eq_false, if_false, Bool.and_eq_true, decide_eq_true_iff, Bool.not_eq_true', beq_iff_eq]
      constructor
      · rintro ⟨h1, h2, h3, h4⟩
        exact ⟨hz, fun _ => ⟨h3, h4, h1⟩, fun h => (by rw [hk] at h; cases h)⟩
      · intro h
        obtain ⟨h1, h2, h3⟩ := h.lit hk
        exact ⟨h3, by rw [contains_zero, ← h1]; exact hz, h1, h2⟩

theorem litS_k {s : ByteArray} (h : s.size ≤ 64) (h0 : (ofBytes (bs s)).mem 0 = false) : litS s = ⟨false, decide (s = tz), ofBytes (bs s), true, s⟩ := by
  have hk : okLit s = true := by
    unfold okLit
    rw [contains_zero, h0]
    simp [h]
  unfold litS ofS
  rw [hk, and_all h0]
  rfl
theorem litS_n {s : ByteArray} (h : ¬ (s.size ≤ 64 ∧ (ofBytes (bs s)).mem 0 = false)) : litS s = ⟨false, decide (s = tz), (ofBytes (bs s)).and allS, false, tz⟩ := by
  have hk : okLit s = false := by
    unfold okLit
    rw [contains_zero]
    cases h0 : (ofBytes (bs s)).mem 0 with
    | true => simp
    | false =>
      have : ¬ s.size ≤ 64 := fun h1 => h ⟨h1, h0⟩
      simp [this]
  unfold litS ofS
  rw [hk]
  rfl
theorem ok_lit (s : ByteArray) : Ok (litS s) := by
  by_cases h : s.size ≤ 64 ∧ (ofBytes (bs s)).mem 0 = false
  · rw [litS_k h.1 h.2]
    exact ⟨h.2, fun _ => ⟨rfl, rfl, h.1⟩, fun h => by cases h⟩
  · rw [litS_n h]
    exact ⟨and_all_zero _, fun h => (by cases h), fun _ => rfl⟩
theorem ok_setu {x : Sh} (h : Ok x) (u : Bool) : Ok { x with u := u } := ⟨h.zero, h.lit, h.non⟩
theorem ok_tame (x : Sh) : Ok (tameS x) := by
  unfold tameS
  split
  · rename_i hk
    exact ⟨and_all_zero _, fun h => (by simp only at h; rw [hk] at h; cases h), fun _ => rfl⟩
  · exact ok_setu (ok_lit _) x.u
theorem tame_lit (x : Sh) : (tameS x).lit.size ≤ 64 := by
  cases h : (tameS x).k with
  | true => exact ((ok_tame x).lit h).2.2
  | false => rw [(ok_tame x).non h]; decide
theorem ok_size {x : Sh} (h : Ok x) : x.lit.size ≤ 64 := by
  cases hk : x.k with
  | true => exact (h.lit hk).2.2
  | false => rw [h.non hk]; decide
theorem ok_setU (x : Sh) : Ok (setU x) := ok_setu (ok_tame x) false
theorem setU_u (x : Sh) : (setU x).u = false := rfl

/-- What an Ok shape is: nothing that is set; just a text; any of a set. -/
theorem there_lit {x : Sh} (h : x.k = true) : x.there = true := by unfold Sh.there; rw [h]; rfl
theorem there_non {x : Sh} (h : x.k = false) : x.there = (x.e || !decide (x.has = S4.zero)) := by unfold Sh.there; rw [h]; rfl
theorem not_there {x : Sh} (ho : Ok x) (h : x.there = false) : x = ⟨x.u, false, S4.zero, false, tz⟩ := by
  obtain ⟨u, e, hs, k, l⟩ := x
  cases k with
  | true => rw [there_lit rfl] at h; cases h
  | false =>
    rw [there_non rfl] at h
    simp only [Bool.or_eq_false_iff, Bool.not_eq_false', decide_eq_true_iff] at h
    obtain ⟨h1, h2⟩ := h
    have h3 := ho.non rfl
    simp only at h1 h2 h3
    rw [h1, h2, h3]

theorem may_lit {x : Sh} (hk : x.k = true) (v : ByteArray) : x.may true v = decide (x.lit = v) := by unfold Sh.may; simp [hk]
theorem may_nil {x : Sh} (hk : x.k = false) : x.may true tz = x.e := by unfold Sh.may; simp [hk]
theorem may_some {x : Sh} (hk : x.k = false) {v : ByteArray} (hv : v ≠ tz) : x.may true v = subS (ofBytes (bs v)) x.has := by unfold Sh.may; simp [hk, hv]
theorem may_not (x : Sh) (v : ByteArray) : x.may false v = x.u := by unfold Sh.may; simp
theorem one_byte (c : UInt8) : (⟨#[c]⟩ : ByteArray) ≠ tz := fun h => by
  have := congrArg ByteArray.size h
  simp [ByteArray.size] at this
theorem sub_one {c : Nat} (hc : c < 256) {s : S4} : subS (ofBytes (bs ⟨#[UInt8.ofNat c]⟩)) s = s.mem c := by
  rw [Bool.eq_iff_iff, ofBytes_sub]
  have e : (UInt8.ofNat c).toNat = c := by simp; omega
  constructor
  · intro h; have := h (UInt8.ofNat c) (by simp); rwa [e] at this
  · intro h b hb
    have : b = UInt8.ofNat c := by simpa using hb
    rw [this, e]; exact h

/-- Less: whatever the one may be, the other may be. -/
def Below (a b : Sh) : Prop := (a.u = true → b.u = true) ∧ (a.there = false ∨
  (b.k = true ∧ a.k = true ∧ a.lit = b.lit) ∨ (b.k = true ∧ a.k = false ∧ a.e = true ∧ a.has = S4.zero ∧ b.lit = tz) ∨ (b.k = false ∧ subS a.has b.has = true ∧ (a.e = true → b.e = true)))
theorem refLeq_iff {a b : Sh} : a.refLeq b = true ↔ Below a b := by
  unfold Sh.refLeq Below
  cases a.u <;> cases b.u <;> cases a.there <;> cases hk : b.k <;> cases a.k <;> cases a.e <;> cases b.e <;> simp
theorem leq_ref {a b : Sh} (ha : Ok a) (hb : Ok b) : a.leq b = a.refLeq b := by
  obtain ⟨u, e, h, k, l⟩ := a
  obtain ⟨u2, e2, h2, k2, l2⟩ := b
  cases k with
  | false =>
    obtain rfl := ha.non rfl
    cases k2 with
    | false => 
      obtain rfl := hb.non rfl
      have ez : decide (h = S4.zero) = true → subS h h2 = true := fun hz => by rw [zero_dec.1 hz]; exact subS_zero h2
      simp only [Sh.leq, Sh.refLeq, Sh.there]
      cases hz : decide (h = S4.zero)
      · cases u <;> cases u2 <;> cases e <;> cases e2 <;> simp
      · have := ez hz
        cases u <;> cases u2 <;> cases e <;> cases e2 <;> simp [this]
    | true =>
      simp only [Sh.leq, Sh.refLeq, Sh.within, Sh.there]
      cases hz : decide (h = S4.zero) <;> cases hl : decide (l2 = tz) <;> cases u <;> cases u2 <;> cases e <;> simp_all
  | true =>
    obtain ⟨a1, a2, a3⟩ := ha.lit rfl
    simp only at a1 a2 a3
    cases k2 with
    | true => simp [Sh.leq, Sh.refLeq, Sh.there]
    | false =>
      obtain rfl := hb.non rfl
      simp only [Sh.leq, Sh.refLeq, Sh.there, Sh.may]
      by_cases hl : l = tz
      · subst hl
        have : h = S4.zero := a1
        subst this
        have e1 : e = true := by rw [a2]; rfl
        subst e1
        simp [subS_zero]
      · have e1 : e = false := by rw [a2]; exact decide_eq_false hl
        subst e1
        simp [hl, ← a1]
theorem leq_iff {a b : Sh} (ha : Ok a) (hb : Ok b) : a.leq b = true ↔ Below a b := by rw [leq_ref ha hb, refLeq_iff]

theorem below_may {a b : Sh} (ha : Ok a) (hb : Ok b) (h : Below a b) {is : Bool} {v : ByteArray} (hm : a.may is v = true) : b.may is v = true := by
  obtain ⟨h1, h2⟩ := h
  cases is with
  | false => rw [may_not] at hm ⊢; exact h1 hm
  | true =>
    rcases h2 with h2 | ⟨k1, k2, k3⟩ | ⟨k1, k2, k3, k4, k5⟩ | ⟨k1, k2, k3⟩
    · exfalso
      have e := not_there ha h2
      rw [e] at hm
      by_cases hv : v = tz
      · subst hv; rw [may_nil rfl] at hm; cases hm
      · rw [may_some rfl hv] at hm
        have := subS_of_zero hm
        exact hv (bs_nil.1 (ofBytes_zero this))
    · rw [may_lit k2, k3] at hm
      rw [may_lit k1]; exact hm
    · by_cases hv : v = tz
      · subst hv; rw [may_lit k1, k5]; simp
      · rw [may_some k2 hv, k4] at hm
        exact absurd (bs_nil.1 (ofBytes_zero (subS_of_zero hm))) hv
    · cases hk : a.k with
      | true =>
        obtain ⟨a1, a2, a3⟩ := ha.lit hk
        rw [may_lit hk, decide_eq_true_iff] at hm
        subst hm
        by_cases hv : a.lit = tz
        · rw [hv, may_nil k1]; exact k3 (by rw [a2, hv]; rfl)
        · rw [may_some k1 hv, ← a1]; exact k2
      | false =>
        by_cases hv : v = tz
        · subst hv; rw [may_nil hk] at hm; rw [may_nil k1]; exact k3 hm
        · rw [may_some hk hv] at hm; rw [may_some k1 hv]; exact subS_trans hm k2
theorem may_below {a b : Sh} (ha : Ok a) (hb : Ok b) (h : ∀ is v, a.may is v = true → b.may is v = true) : Below a b := by
  refine ⟨fun hu => by have := h false tz (by rw [may_not]; exact hu); rwa [may_not] at this, ?_⟩
  cases ht : a.there with
  | false => exact .inl rfl
  | true =>
    right
    cases hk : a.k with
    | true =>
      obtain ⟨a1, a2, a3⟩ := ha.lit hk
      have h1 := h true a.lit (by rw [may_lit hk]; simp)
      cases hb2 : b.k with
      | true =>
        rw [may_lit hb2, decide_eq_true_iff] at h1
        exact .inl ⟨rfl, rfl, h1.symm⟩
      | false =>
        refine .inr (.inr ⟨rfl, ?_, fun he => ?_⟩)
        · by_cases hv : a.lit = tz
          · rw [a1, hv]; exact subS_zero _
          · rw [may_some hb2 hv] at h1; rw [a1]; exact h1
        · rw [a2, decide_eq_true_iff] at he
          rw [he, may_nil hb2] at h1; exact h1
    | false =>
      rw [there_non hk] at ht
      have h0 : a.e = true → b.may true tz = true := fun he => h true tz (by rw [may_nil hk]; exact he)
      have h2 : ∀ v, v ≠ tz → subS (ofBytes (bs v)) a.has = true → b.may true v = true := fun v hv hs => h true v (by rw [may_some hk hv]; exact hs)
      cases hb2 : b.k with
      | true =>
        refine .inr (.inl ⟨rfl, rfl, ?_⟩)
        have hz : a.has = S4.zero := by
          apply Classical.byContradiction
          intro hne
          obtain ⟨j, hj, hm⟩ := some_mem hne
          have e := UInt8.ofNat j
          have g1 := h2 ⟨#[UInt8.ofNat j]⟩ (one_byte _) (by rw [sub_one hj]; exact hm)
          have g2 := h2 ⟨#[UInt8.ofNat j, UInt8.ofNat j]⟩ (fun h => by have := congrArg ByteArray.size h; simp [ByteArray.size] at this) (by
            rw [ofBytes_sub]
            intro b hb
            have e : (UInt8.ofNat j).toNat = j := by simp; omega
            have : b = UInt8.ofNat j := by simpa using hb
            rw [this, e]; exact hm)
          rw [may_lit hb2, decide_eq_true_iff] at g1 g2
          rw [g1] at g2
          have := congrArg ByteArray.size g2
          simp [ByteArray.size] at this
        rw [hz] at ht
        have he : a.e = true := by simpa using ht
        have g := h0 he
        rw [may_lit hb2, decide_eq_true_iff] at g
        exact ⟨he, hz, g⟩
      | false =>
        refine .inr (.inr ⟨rfl, subS_iff.2 fun j hj hm => ?_, fun he => by have := h0 he; rwa [may_nil hb2] at this⟩)
        have g1 := h2 ⟨#[UInt8.ofNat j]⟩ (one_byte _) (by rw [sub_one hj]; exact hm)
        rwa [may_some hb2 (one_byte _), sub_one hj] at g1
theorem leq_sem {a b : Sh} (ha : Ok a) (hb : Ok b) : a.leq b = true ↔ ∀ is v, a.may is v = true → b.may is v = true :=
  ⟨fun h is v hm => below_may ha hb ((leq_iff ha hb).1 h) hm, fun h => (leq_iff ha hb).2 (may_below ha hb h)⟩
theorem below_refl (a : Sh) (ha : Ok a) : Below a a := may_below ha ha fun _ _ h => h
theorem below_trans {a b c : Sh} (ha : Ok a) (hb : Ok b) (hc : Ok c) (h : Below a b) (k : Below b c) : Below a c :=
  may_below ha hc fun _ _ hm => below_may hb hc k (below_may ha hb h hm)

/-! What is joined. -/
def joinB (ta tb eq : Bool) (a b : Sh) : Sh := { (if !ta then b else if tb && !eq then ⟨false, a.e || b.e, a.has.or b.has, false, tz⟩ else a) with u := a.u || b.u }
def sameLit (a b : Sh) : Bool := a.k && (b.k && decide (a.lit = b.lit))
theorem join_def (a b : Sh) : a.join b = joinB a.there b.there (sameLit a b) a b := rfl
/-- The three cases. -/
theorem join_cases {a b : Sh} (ha : Ok a) (hb : Ok b) : (a.there = false ∧ a.join b = { b with u := a.u || b.u }) ∨ (b.there = false ∧ a.join b = { a with u := a.u || b.u }) ∨
    (a.there = true ∧ b.there = true ∧ a.k = true ∧ b.k = true ∧ a.lit = b.lit ∧ { b with u := a.u || b.u } = { a with u := a.u || b.u } ∧ a.join b = { a with u := a.u || b.u }) ∨
    (a.there = true ∧ b.there = true ∧ sameLit a b = false ∧ a.join b = ⟨a.u || b.u, a.e || b.e, a.has.or b.has, false, tz⟩) := by
  rw [join_def]
  cases hta : a.there with
  | false => exact .inl ⟨rfl, rfl⟩
  | true =>
    cases htb : b.there with
    | false => exact .inr (.inl ⟨rfl, rfl⟩)
    | true =>
      cases hs : sameLit a b with
      | false => exact .inr (.inr (.inr ⟨rfl, rfl, rfl, rfl⟩))
      | true =>
        refine .inr (.inr (.inl ?_))
        unfold sameLit at hs
        simp only [Bool.and_eq_true, decide_eq_true_iff] at hs
        obtain ⟨h1, h2, h3⟩ := hs
        refine ⟨rfl, rfl, h1, h2, h3, ?_, rfl⟩
        obtain ⟨a1, a2, a3⟩ := ha.lit h1
        obtain ⟨b1, b2, b3⟩ := hb.lit h2
        rw [h1, h2, a1, a2, b1, b2, h3]
theorem ok_join {a b : Sh} (ha : Ok a) (hb : Ok b) : Ok (a.join b) := by
  rcases join_cases ha hb with ⟨_, e⟩ | ⟨_, e⟩ | ⟨_, _, _, _, _, _, e⟩ | ⟨_, _, _, e⟩
  · rw [e]; exact ok_setu hb _
  · rw [e]; exact ok_setu ha _
  · rw [e]; exact ok_setu ha _
  · rw [e]
    exact ⟨by simp only [S4.mem_or, ha.zero, hb.zero]; rfl, fun h => (by cases h), fun _ => rfl⟩
theorem join_u (a b : Sh) : (a.join b).u = (a.u || b.u) := rfl
theorem may_setu (x : Sh) (u : Bool) (v : ByteArray) : ({ x with u := u } : Sh).may true v = x.may true v := rfl
theorem may_none {a : Sh} (ha : Ok a) (h : a.there = false) (v : ByteArray) : a.may true v = false := by
  rw [not_there ha h]
  by_cases hv : v = tz
  · subst hv; rfl
  · rw [may_some rfl hv]
    cases hs : subS (ofBytes (bs v)) S4.zero with
    | false => rfl
    | true => exact absurd (bs_nil.1 (ofBytes_zero (subS_of_zero hs))) hv
theorem may_or {x y : Sh} (hx : Ok x) (v : ByteArray) (u : Bool) (e2 : Bool) (h2 : S4) (hm : x.may true v = true) (he : x.e = true → e2 = true) (hs : subS x.has h2 = true) : (⟨u, e2, h2, false, tz⟩ : Sh).may true v = true := by
  by_cases hv : v = tz
  · subst hv
    rw [may_nil rfl]
    cases hk : x.k with
    | true =>
      rw [may_lit hk, decide_eq_true_iff] at hm
      exact he (by rw [(hx.lit hk).2.1, hm]; rfl)
    | false => rw [may_nil hk] at hm; exact he hm
  · rw [may_some rfl hv]
    cases hk : x.k with
    | true =>
      rw [may_lit hk, decide_eq_true_iff] at hm
      subst hm
      rw [← (hx.lit hk).1]; exact hs
    | false => rw [may_some hk hv] at hm; exact subS_trans hm hs
theorem join_upl {a b : Sh} (ha : Ok a) (hb : Ok b) {is : Bool} {v : ByteArray} (h : a.may is v = true) : (a.join b).may is v = true := by
  cases is with
  | false => rw [may_not] at h ⊢; rw [join_u, h]; rfl
  | true =>
    rcases join_cases ha hb with ⟨h1, e⟩ | ⟨_, e⟩ | ⟨_, _, _, _, _, _, e⟩ | ⟨_, _, _, e⟩
    · rw [may_none ha h1] at h; cases h
    · rw [e, may_setu]; exact h
    · rw [e, may_setu]; exact h
    · rw [e]; exact may_or (y := a) ha v _ _ _ h (fun h => by rw [h]; rfl) (subS_orl _ _)
theorem join_upr {a b : Sh} (ha : Ok a) (hb : Ok b) {is : Bool} {v : ByteArray} (h : b.may is v = true) : (a.join b).may is v = true := by
  cases is with
  | false => rw [may_not] at h ⊢; rw [join_u, h, Bool.or_true]
  | true =>
    rcases join_cases ha hb with ⟨h1, e⟩ | ⟨h1, e⟩ | ⟨_, _, _, _, _, e2, e⟩ | ⟨_, _, _, e⟩
    · rw [e, may_setu]; exact h
    · rw [may_none hb h1] at h; cases h
    · rw [e, ← e2, may_setu]; exact h
    · rw [e]; exact may_or (y := b) hb v _ _ _ h (fun h => by rw [h, Bool.or_true]) (subS_orr _ _)
theorem leq_joinl {a b : Sh} (ha : Ok a) (hb : Ok b) : a.leq (a.join b) = true := (leq_sem ha (ok_join ha hb)).2 fun _ _ h => join_upl ha hb h
theorem leq_joinr {a b : Sh} (ha : Ok a) (hb : Ok b) : b.leq (a.join b) = true := (leq_sem hb (ok_join ha hb)).2 fun _ _ h => join_upr ha hb h
theorem below_sub {a c : Sh} (ha : Ok a) (hc : c.k = false) (h : Below a c) (hat : a.there = true) : subS a.has c.has = true ∧ (a.e = true → c.e = true) := by
  obtain ⟨_, h2 | ⟨k1, _⟩ | ⟨k1, _⟩ | ⟨_, k2, k3⟩⟩ := h
  · rw [hat] at h2; cases h2
  · rw [hc] at k1; cases k1
  · rw [hc] at k1; cases k1
  · exact ⟨k2, k3⟩
theorem join_least {a b c : Sh} (ha : Ok a) (hb : Ok b) (hc : Ok c) (h : Below a c) (k : Below b c) : Below (a.join b) c := by
  have hu : (a.u || b.u) = true → c.u = true := fun hu => by
    rcases Bool.or_eq_true .. ▸ hu with h9 | h9
    · exact h.1 h9
    · exact k.1 h9
  refine ⟨hu, ?_⟩
  rcases join_cases ha hb with ⟨_, e⟩ | ⟨_, e⟩ | ⟨_, _, _, _, _, _, e⟩ | ⟨h1, h2, h3, e⟩
  · rw [e]; exact k.2
  · rw [e]; exact h.2
  · rw [e]; exact h.2
  · rw [e]
    right
    cases hk : c.k with
    | false =>
      obtain ⟨s1, s2⟩ := below_sub ha hk h h1
      obtain ⟨s3, s4⟩ := below_sub hb hk k h2
      refine .inr (.inr ⟨rfl, subS_or s1 s3, fun he => ?_⟩)
      rcases Bool.or_eq_true .. ▸ he with he | he
      · exact s2 he
      · exact s4 he
    | true =>
      -- both are just the text of c, or nothing but the empty text
      have g : ∀ x : Sh, Ok x → Below x c → x.there = true → (x.k = true ∧ x.lit = c.lit) ∨ (x.k = false ∧ x.e = true ∧ x.has = S4.zero ∧ c.lit = tz) := by
        intro x hx hb ht
        obtain ⟨_, h2 | ⟨_, k2, k3⟩ | ⟨_, k2, k3, k4, k5⟩ | ⟨k1, _⟩⟩ := hb
        · rw [ht] at h2; cases h2
        · exact .inl ⟨k2, k3⟩
        · exact .inr ⟨k2, k3, k4, k5⟩
        · rw [hk] at k1; cases k1
      have em : ∀ x : Sh, Ok x → ((x.k = true ∧ x.lit = c.lit) ∨ (x.k = false ∧ x.e = true ∧ x.has = S4.zero ∧ c.lit = tz)) → c.lit = tz → x.e = true ∧ x.has = S4.zero := by
        intro x hx hxx hl
        rcases hxx with ⟨k1, k2⟩ | ⟨_, k2, k3, _⟩
        · obtain ⟨a1, a2, _⟩ := hx.lit k1
          rw [k2, hl] at a1 a2
          exact ⟨by rw [a2]; rfl, a1⟩
        · exact ⟨k2, k3⟩
      have ga := g a ha h h1
      have gb := g b hb k h2
      have hl : c.lit = tz := by
        rcases ga with ⟨a1, a2⟩ | ⟨_, _, _, a4⟩
        · rcases gb with ⟨b1, b2⟩ | ⟨_, _, _, b4⟩
          · exfalso
            unfold sameLit at h3
            rw [a1, b1, a2, b2] at h3
            simp at h3
          · exact b4
        · exact a4
      obtain ⟨a1, a2⟩ := em a ha ga hl
      obtain ⟨b1, b2⟩ := em b hb gb hl
      refine .inr (.inl ⟨rfl, rfl, by simp [a1], by simp only [a2, b2]; exact or_zero _, hl⟩)
theorem refJoin_eq {a b : Sh} (ha : Ok a) (hb : Ok b) : a.refJoin b = a.join b := by
  have n1 : a.none = (!a.u && !a.there) := rfl
  have n2 : b.none = (!b.u && !b.there) := rfl
  unfold Sh.refJoin
  rw [n1, n2]
  have hs : (a.k && (b.k && decide (a.lit = b.lit))) = sameLit a b := rfl
  rw [hs]
  have fa : ∀ u, ({ a with u := u } : Sh) = ⟨u, a.e, a.has, a.k, a.lit⟩ := fun _ => rfl
  rcases join_cases ha hb with ⟨h1, e⟩ | ⟨h1, e⟩ | ⟨h1, h2, h3, h4, h5, _, e⟩ | ⟨h1, h2, h3, e⟩
  · have ea := not_there ha h1
    rw [e, h1]
    clear n1 n2 hs fa e
    cases hu : a.u with
    | false => simp
    | true =>
      cases hb2 : b.there with
      | true => simp
      | false =>
        have eb := not_there hb hb2
        rw [hu] at ea
        cases hv : b.u with
        | true => simp
        | false =>
          rw [hv] at eb
          rw [ea, eb]; rfl
  · have eb := not_there hb h1
    rw [e, h1]
    clear n1 n2 hs fa e
    cases ht : a.there with
    | false =>
      have ea := not_there ha ht
      rw [ea, eb]
      cases a.u <;> cases b.u <;> rfl
    | true =>
      rw [eb]
      cases hv : b.u with
      | false => simp
      | true => simp
  · have h6 : sameLit a b = true := by unfold sameLit; rw [h3, h4, h5]; simp
    rw [e, h1, h2, h6]
    simp
  · rw [e, h1, h2, h3]
    simp
end Go.Conch
