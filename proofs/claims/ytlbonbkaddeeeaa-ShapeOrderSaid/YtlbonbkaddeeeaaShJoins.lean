/-
  The law ShapeJoins walked: what may be of one of two may be of both joined; joining twice says nothing more; the order says nothing.
-/
import Derived.Test.YtlbonbkaddeeeaaShNone
set_option linter.unusedSimpArgs false
set_option linter.unusedVariables false
namespace Go.Conch
open Go.RowKit Go.Proofs.Ytlbonbkaddeeeaa
/-- A shape that another one adds nothing to. -/
def Abs (x t : Sh) : Prop := (t.u = true → x.u = true) ∧ (t.there = false ∨ (x.k = true ∧ t.k = true ∧ x.lit = t.lit) ∨ (x.k = false ∧ subS t.has x.has = true ∧ (t.e = true → x.e = true)))
theorem abs_there {x t : Sh} (hx : Ok x) (ht : Ok t) (h : Abs x t) (hh : t.there = true) : x.there = true := by
  obtain ⟨_, h | ⟨h1, _⟩ | ⟨h1, h2, h3⟩⟩ := h
  · rw [hh] at h; cases h
  · exact there_lit h1
  · cases hxt : x.there with
    | true => rfl
    | false =>
      exfalso
      have e := not_there hx hxt
      rw [e] at h2 h3
      have h4 := subS_of_zero h2
      have h5 : t.e = false := by
        cases he : t.e with
        | false => rfl
        | true => exact absurd (h3 he) (by simp)
      cases hk : t.k with
      | true =>
        obtain ⟨a1, a2, _⟩ := ht.lit hk
        rw [h4] at a1
        rw [bs_nil.1 (ofBytes_zero a1.symm)] at a2
        rw [a2] at h5; simp at h5
      | false => rw [there_non hk, h5, h4] at hh; simp at hh
theorem u_or {x t : Sh} (h : Abs x t) : (x.u || t.u) = x.u := by
  cases hu : t.u with
  | false => simp
  | true => rw [h.1 hu]; rfl
theorem abs_join {x t : Sh} (hx : Ok x) (ht : Ok t) (h : Abs x t) : x.join t = x := by
  have hu := u_or h
  rcases join_cases hx ht with ⟨h1, e⟩ | ⟨h1, e⟩ | ⟨_, _, _, _, _, _, e⟩ | ⟨h1, h2, h3, e⟩
  · have h9 : t.there = false := by
      cases htt : t.there with
      | false => rfl
      | true => rw [abs_there hx ht h htt] at h1; cases h1
    rw [e, hu]
    rw [not_there hx h1, not_there ht h9]
  · rw [e, hu]
  · rw [e, hu]
  · rw [e, hu]
    obtain ⟨_, h | ⟨k1, k2, k3⟩ | ⟨k1, k2, k3⟩⟩ := h
    · rw [h2] at h; cases h
    · unfold sameLit at h3; rw [k1, k2, k3] at h3; simp at h3
    · rw [or_sub k2]
      have : (x.e || t.e) = x.e := by
        cases he : t.e with
        | false => simp
        | true => rw [k3 he]; rfl
      rw [this]
      obtain ⟨u, e, hs, k, l⟩ := x
      have := hx.non k1
      simp only at k1 this
      rw [k1, this]
theorem abs_self {x : Sh} (hx : Ok x) : Abs x x := by
  refine ⟨id, ?_⟩
  cases hk : x.k with
  | true => exact .inr (.inl ⟨rfl, rfl, rfl⟩)
  | false => exact .inr (.inr ⟨rfl, subS_refl _, id⟩)
theorem abs_l {a b : Sh} (ha : Ok a) (hb : Ok b) : Abs (a.join b) a := by
  refine ⟨fun h => by rw [join_u, h]; rfl, ?_⟩
  rcases join_cases ha hb with ⟨h, _⟩ | ⟨_, e⟩ | ⟨_, _, _, _, _, _, e⟩ | ⟨_, _, _, e⟩
  · exact .inl h
  · rw [e]; exact (abs_self ha).2
  · rw [e]; exact (abs_self ha).2
  · rw [e]; exact .inr (.inr ⟨rfl, subS_orl _ _, fun h => by simp only [h]; rfl⟩)
theorem abs_r {a b : Sh} (ha : Ok a) (hb : Ok b) : Abs (a.join b) b := by
  refine ⟨fun h => by rw [join_u, h]; simp, ?_⟩
  rcases join_cases ha hb with ⟨_, e⟩ | ⟨h, _⟩ | ⟨_, _, _, _, _, e2, e⟩ | ⟨_, _, _, e⟩
  · rw [e]; exact (abs_self hb).2
  · exact .inl h
  · rw [e, ← e2]; exact (abs_self hb).2
  · rw [e]; exact .inr (.inr ⟨rfl, subS_orr _ _, fun h => by simp only [h]; simp⟩)
theorem abs_keep {x t s : Sh} (hx : Ok x) (ht : Ok t) (hs : Ok s) (h : Abs x t) : Abs (x.join s) t := by
  refine ⟨fun hu => by rw [join_u, h.1 hu]; rfl, ?_⟩
  cases htt : t.there with
  | false => exact .inl rfl
  | true =>
    have hxt := abs_there hx ht h htt
    right
    have h2 : (x.k = true ∧ t.k = true ∧ x.lit = t.lit) ∨ (x.k = false ∧ subS t.has x.has = true ∧ (t.e = true → x.e = true)) := by
      rcases h.2 with h2 | h2
      · rw [htt] at h2; cases h2
      · exact h2
    rcases join_cases hx hs with ⟨h1, _⟩ | ⟨_, e⟩ | ⟨_, _, _, _, _, _, e⟩ | ⟨_, _, _, e⟩
    · rw [hxt] at h1; cases h1
    · rw [e]; exact h2
    · rw [e]; exact h2
    · rw [e]
      right
      rcases h2 with ⟨k1, k2, k3⟩ | ⟨k1, k2, k3⟩
      · obtain ⟨a1, a2, _⟩ := hx.lit k1
        obtain ⟨b1, b2, _⟩ := ht.lit k2
        have e1 : t.has = x.has := by rw [a1, b1, k3]
        have e2 : t.e = x.e := by rw [a2, b2, k3]
        exact ⟨rfl, by rw [e1]; exact subS_orl _ _, fun he => by rw [e2] at he; simp only [he]; rfl⟩
      · exact ⟨rfl, subS_trans k2 (subS_orl _ _), fun he => by simp only [k3 he]; rfl⟩
theorem join_back {a b : Sh} (ha : Ok a) (hb : Ok b) : (a.join b).join a = a.join b := abs_join (ok_join ha hb) ha (abs_l ha hb)
theorem join_self {a : Sh} (ha : Ok a) : a.join a = a := abs_join ha ha (abs_self ha)
theorem join_swap {a b : Sh} (ha : Ok a) (hb : Ok b) : b.join a = a.join b := by
  have hc : (b.u || a.u) = (a.u || b.u) := Bool.or_comm _ _
  rcases join_cases ha hb with ⟨h1, e⟩ | ⟨h1, e⟩ | ⟨h1, h2, h3, h4, h5, h6, e⟩ | ⟨h1, h2, h3, e⟩ <;>
    rcases join_cases hb ha with ⟨g1, f⟩ | ⟨g1, f⟩ | ⟨g1, g2, g3, g4, g5, g6, f⟩ | ⟨g1, g2, g3, f⟩
  all_goals rw [e, f, hc]
  all_goals try (rw [h1] at g1; cases g1)
  all_goals try (rw [h1] at g2; cases g2)
  all_goals try (rw [h2] at g1; cases g1)
  · rw [not_there ha h1, not_there hb g1]
  · rw [not_there hb h1, not_there ha g1]
  · exact h6
  · exfalso; unfold sameLit at g3; rw [h3, h4, h5] at g3; simp at g3
  · exfalso; unfold sameLit at h3; rw [g3, g4, g5] at h3; simp at h3
  · rw [Bool.or_comm b.e a.e, or_comm a.has b.has]
end Go.Conch
namespace Go.Proofs.Ytlbonbkaddeeeaa
open Go.RowKit Go.Eng Go.Conch Go.Ev

/-- The state and the code in front of the loop inside this piece of code. -/
noncomputable def stopIn {w : World} (c : Code) (tm : Tm) (items : Items Try.prog w) : Option (Code × Tm) :=
  match runC Try.prog 0 c ⟨tm, items, []⟩ with
  | some (.stop b, st) => some (b, st.toTm)
  | _ => none
def wt (v : ByteArray) (a b : Sh) : Nat → ByteArray
  | 0 => v
  | 1 => tz
  | 2 => a.lit
  | 3 => b.lit
  | _ => ⟨(bytesTo a.has 256).toArray⟩

section
variable {w : World} (a0 b0 a b j : Sh) (v : ByteArray) (i : Bool) (pa : Pure Try.prog 35 #[a0.val] a.val) (pb : Pure Try.prog 35 #[b0.val] b.val) (pj : Pure Try.prog 39 #[a.val, b.val] j.val)
  (h1 : decide ((100 : Int) < (v.size : Int)) = false)
def slotsO : List Nat := [11, 12, 13, 25, 26, 27, 28, 29, 30, 31, 32, 33, 34, 35, 36, 37, 38, 39, 40, 41, 42, 43, 44, 45, 46, 47, 48, 49, 50, 51, 52, 53, 54, 55, 56, 57, 58, 59, 60, 61, 62, 63, 64, 65]
def slotsI : List Nat := [13, 41, 42, 43, 44, 45, 46, 47, 48, 49, 50, 51, 52, 53, 54, 55, 56, 57, 58, 59, 60, 61, 62, 63, 64, 65]
noncomputable def atO : Option (Code × Tm) := stopAt Try.prog 13 [a0.val, b0.val, .string v, .bool i] ([(16, GT .i64 3 v.size 100 h1), (19, C pa), (21, C pb), (24, C pj)] : Items Try.prog w)
def rowJ : Blk := ⟨[.string v, .string tz, .string a.lit, .string b.lit, .string ⟨(bytesTo a.has 256).toArray⟩], 9, true⟩
noncomputable def stateO (k : Nat) : Tm :=
  let t := setsTm (forget slotsO (tmOf (atO (w := w) a0 b0 a b j v i pa pb pj h1))) [(10, .v (.int .i64 (k : Int)))]
  { t with heap := t.heap ++ List.replicate k (rowJ a b v) }
noncomputable def atI (k : Nat) : Option (Code × Tm) := stopIn (w := w) (loopOf (atO (w := w) a0 b0 a b j v i pa pb pj h1)) (stateO (w := w) a0 b0 a b j v i pa pb pj h1 k) [(36, C (bytes_pure a.has))]
noncomputable def stateI (k q : Nat) : Tm := setsTm (forget slotsI (tmOf (atI (w := w) a0 b0 a b j v i pa pb pj h1 k))) [(12, .v (.int .i64 (q : Int)))]
noncomputable def itemsI (k q : Nat) (m1 m2 m3 : Bool) (p1 : Pure Try.prog 37 #[a.val, .bool (i != (q == 1)), .string (wt v a b k)] (.bool m1)) (p2 : Pure Try.prog 37 #[b.val, .bool (i != (q == 1)), .string (wt v a b k)] (.bool m2))
    (p3 : Pure Try.prog 37 #[j.val, .bool (i != (q == 1)), .string (wt v a b k)] (.bool ((m1 || m2) || m3))) : Items Try.prog w := [(52, C p1), (57, C p2), (63, C p3)]
def GoesI (k q : Nat) : Prop := ∀ (m1 m2 m3 : Bool) (p1 : Pure Try.prog 37 #[a.val, .bool (i != (q == 1)), .string (wt v a b k)] (.bool m1)) (p2 : Pure Try.prog 37 #[b.val, .bool (i != (q == 1)), .string (wt v a b k)] (.bool m2))
    (p3 : Pure Try.prog 37 #[j.val, .bool (i != (q == 1)), .string (wt v a b k)] (.bool ((m1 || m2) || m3))),
    Go.Ev.ask (runC Try.prog 100 (loopOf (atI (w := w) a0 b0 a b j v i pa pb pj h1 k)) ⟨stateI (w := w) a0 b0 a b j v i pa pb pj h1 k q, itemsI (w := w) a b j v i k q m1 m2 m3 p1 p2 p3, []⟩) slotsI =
      Go.Ev.told (runC Try.prog 100 (loopOf (atI (w := w) a0 b0 a b j v i pa pb pj h1 k)) ⟨stateI (w := w) a0 b0 a b j v i pa pb pj h1 k q, itemsI (w := w) a b j v i k q m1 m2 m3 p1 p2 p3, []⟩) .normal (stateI (w := w) a0 b0 a b j v i pa pb pj h1 k (q + 1))
theorem goes00 : GoesI (w := w) a0 b0 a b j v i pa pb pj h1 0 0 := by
  intro m1 m2 m3 p1 p2 p3
  cases i <;> cases m1 <;> cases m2 <;> as_aux_lemma => kernel_rfl
theorem goes01 : GoesI (w := w) a0 b0 a b j v i pa pb pj h1 0 1 := by
  intro m1 m2 m3 p1 p2 p3
  cases i <;> cases m1 <;> cases m2 <;> as_aux_lemma => kernel_rfl
theorem goes10 : GoesI (w := w) a0 b0 a b j v i pa pb pj h1 1 0 := by
  intro m1 m2 m3 p1 p2 p3
  cases i <;> cases m1 <;> cases m2 <;> as_aux_lemma => kernel_rfl
theorem goes11 : GoesI (w := w) a0 b0 a b j v i pa pb pj h1 1 1 := by
  intro m1 m2 m3 p1 p2 p3
  cases i <;> cases m1 <;> cases m2 <;> as_aux_lemma => kernel_rfl
theorem goes20 : GoesI (w := w) a0 b0 a b j v i pa pb pj h1 2 0 := by
  intro m1 m2 m3 p1 p2 p3
  cases i <;> cases m1 <;> cases m2 <;> as_aux_lemma => kernel_rfl
theorem goes21 : GoesI (w := w) a0 b0 a b j v i pa pb pj h1 2 1 := by
  intro m1 m2 m3 p1 p2 p3
  cases i <;> cases m1 <;> cases m2 <;> as_aux_lemma => kernel_rfl
theorem goes30 : GoesI (w := w) a0 b0 a b j v i pa pb pj h1 3 0 := by
  intro m1 m2 m3 p1 p2 p3
  cases i <;> cases m1 <;> cases m2 <;> as_aux_lemma => kernel_rfl
theorem goes31 : GoesI (w := w) a0 b0 a b j v i pa pb pj h1 3 1 := by
  intro m1 m2 m3 p1 p2 p3
  cases i <;> cases m1 <;> cases m2 <;> as_aux_lemma => kernel_rfl
theorem goes40 : GoesI (w := w) a0 b0 a b j v i pa pb pj h1 4 0 := by
  intro m1 m2 m3 p1 p2 p3
  cases i <;> cases m1 <;> cases m2 <;> as_aux_lemma => kernel_rfl
theorem goes41 : GoesI (w := w) a0 b0 a b j v i pa pb pj h1 4 1 := by
  intro m1 m2 m3 p1 p2 p3
  cases i <;> cases m1 <;> cases m2 <;> as_aux_lemma => kernel_rfl
theorem goesAll : ∀ k q, k < 5 → q < 2 → GoesI (w := w) a0 b0 a b j v i pa pb pj h1 k q
  | 0, 0, _, _ => goes00 a0 b0 a b j v i pa pb pj h1
  | 0, 1, _, _ => goes01 a0 b0 a b j v i pa pb pj h1
  | 0, q + 2, _, h => absurd h (by omega)
  | 1, 0, _, _ => goes10 a0 b0 a b j v i pa pb pj h1
  | 1, 1, _, _ => goes11 a0 b0 a b j v i pa pb pj h1
  | 1, q + 2, _, h => absurd h (by omega)
  | 2, 0, _, _ => goes20 a0 b0 a b j v i pa pb pj h1
  | 2, 1, _, _ => goes21 a0 b0 a b j v i pa pb pj h1
  | 2, q + 2, _, h => absurd h (by omega)
  | 3, 0, _, _ => goes30 a0 b0 a b j v i pa pb pj h1
  | 3, 1, _, _ => goes31 a0 b0 a b j v i pa pb pj h1
  | 3, q + 2, _, h => absurd h (by omega)
  | 4, 0, _, _ => goes40 a0 b0 a b j v i pa pb pj h1
  | 4, 1, _, _ => goes41 a0 b0 a b j v i pa pb pj h1
  | 4, q + 2, _, h => absurd h (by omega)
  | k + 5, _, h, _ => absurd h (by omega)

structure FactsJ : Prop where
  sa : a.lit.size ≤ 64
  sb : b.lit.size ≤ 64
  sj : j.lit.size ≤ 64
  sv : v.size ≤ 9223372036854775807
  imp : ∀ (is : Bool) (t : ByteArray), j.may is t = ((a.may is t || b.may is t) || j.may is t)
theorem wt_size (F : FactsJ a b j v) (k : Nat) : (wt v a b k).size ≤ 9223372036854775807 := by
  have h1 := F.sa
  have h2 := F.sb
  have h3 := F.sv
  have h4 : (⟨(bytesTo a.has 256).toArray⟩ : ByteArray).size ≤ 256 := textOf_le a.has
  match k with
  | 0 => exact h3
  | 1 => exact Nat.zero_le _
  | 2 => exact Nat.le_trans h1 (by omega)
  | 3 => exact Nat.le_trans h2 (by omega)
  | k + 4 => exact Nat.le_trans h4 (by omega)
theorem mayJ (F : FactsJ a b j v) (k q : Nat) : Pure Try.prog 37 #[j.val, .bool (i != (q == 1)), .string (wt v a b k)] (.bool ((a.may (i != (q == 1)) (wt v a b k) || b.may (i != (q == 1)) (wt v a b k)) || j.may (i != (q == 1)) (wt v a b k))) := by
  rw [← F.imp]
  exact may_pure j _ _ (wt_size a b j v F k)
def LastI (k : Nat) : Prop :=
    forget slotsI (tmOf (atI (w := w) a0 b0 a b j v i pa pb pj h1 k)) = stateI (w := w) a0 b0 a b j v i pa pb pj h1 k 0 ∧
    (exitOf (runC Try.prog 100 (loopOf (atI (w := w) a0 b0 a b j v i pa pb pj h1 k)) ⟨stateI (w := w) a0 b0 a b j v i pa pb pj h1 k 2, ([] : Items Try.prog w), []⟩)).leaves = true ∧
    Go.Ev.ask (runC Try.prog 100 (loopOf (atI (w := w) a0 b0 a b j v i pa pb pj h1 k)) ⟨stateI (w := w) a0 b0 a b j v i pa pb pj h1 k 2, ([] : Items Try.prog w), []⟩) [] =
      Go.Ev.told (runC Try.prog 100 (loopOf (atI (w := w) a0 b0 a b j v i pa pb pj h1 k)) ⟨stateI (w := w) a0 b0 a b j v i pa pb pj h1 k 2, ([] : Items Try.prog w), []⟩) (exitOf (runC Try.prog 100 (loopOf (atI (w := w) a0 b0 a b j v i pa pb pj h1 k)) ⟨stateI (w := w) a0 b0 a b j v i pa pb pj h1 k 2, ([] : Items Try.prog w), []⟩))
        (forget [] (endOf (runC Try.prog 100 (loopOf (atI (w := w) a0 b0 a b j v i pa pb pj h1 k)) ⟨stateI (w := w) a0 b0 a b j v i pa pb pj h1 k 2, ([] : Items Try.prog w), []⟩)))
theorem last0 : LastI (w := w) a0 b0 a b j v i pa pb pj h1 0 := ⟨by kernel_rfl, by kernel_rfl, by kernel_rfl⟩
theorem last1 : LastI (w := w) a0 b0 a b j v i pa pb pj h1 1 := ⟨by kernel_rfl, by kernel_rfl, by kernel_rfl⟩
theorem last2 : LastI (w := w) a0 b0 a b j v i pa pb pj h1 2 := ⟨by kernel_rfl, by kernel_rfl, by kernel_rfl⟩
theorem last3 : LastI (w := w) a0 b0 a b j v i pa pb pj h1 3 := ⟨by kernel_rfl, by kernel_rfl, by kernel_rfl⟩
theorem last4 : LastI (w := w) a0 b0 a b j v i pa pb pj h1 4 := ⟨by kernel_rfl, by kernel_rfl, by kernel_rfl⟩
theorem lastAll : ∀ k, k < 5 → LastI (w := w) a0 b0 a b j v i pa pb pj h1 k
  | 0, _ => last0 a0 b0 a b j v i pa pb pj h1
  | 1, _ => last1 a0 b0 a b j v i pa pb pj h1
  | 2, _ => last2 a0 b0 a b j v i pa pb pj h1
  | 3, _ => last3 a0 b0 a b j v i pa pb pj h1
  | 4, _ => last4 a0 b0 a b j v i pa pb pj h1
  | k + 5, h => absurd h (by omega)
noncomputable def innerJ (F : FactsJ a b j v) (k : Nat) (hk : k < 5) : Rounds Try.prog w 100 (loopOf (atI (w := w) a0 b0 a b j v i pa pb pj h1 k)) (tmOf (atI (w := w) a0 b0 a b j v i pa pb pj h1 k)) where
  N := 2
  S := stateI (w := w) a0 b0 a b j v i pa pb pj h1 k
  F := stateI (w := w) a0 b0 a b j v i pa pb pj h1 k 2
  fin := rfl
  its := fun q _ => itemsI (w := w) a b j v i k q _ _ _ (may_pure a _ _ (wt_size a b j v F k)) (may_pure b _ _ (wt_size a b j v F k)) (mayJ a b j v i F k q)
  itl := []
  h0 := slotsI
  hs := slotsI
  he := []
  start := (lastAll a0 b0 a b j v i pa pb pj h1 k hk).1
  round := fun q hq => goesAll a0 b0 a b j v i pa pb pj h1 k q hk hq _ _ _ _ _ _
  leaves := (lastAll a0 b0 a b j v i pa pb pj h1 k hk).2.1
  last := (lastAll a0 b0 a b j v i pa pb pj h1 k hk).2.2
noncomputable def itsO (F : FactsJ a b j v) (k : Nat) (hk : k < 5) : Items Try.prog w := [(36, C (bytes_pure a.has)), (1000000, (innerJ (w := w) a0 b0 a b j v i pa pb pj h1 F k hk).item mixed)]
def GoesO (F : FactsJ a b j v) (k : Nat) (hk : k < 5) : Prop :=
  Go.Ev.ask (runC Try.prog 100 (loopOf (atO (w := w) a0 b0 a b j v i pa pb pj h1)) ⟨stateO (w := w) a0 b0 a b j v i pa pb pj h1 k, itsO (w := w) a0 b0 a b j v i pa pb pj h1 F k hk, []⟩) slotsO =
    Go.Ev.told (runC Try.prog 100 (loopOf (atO (w := w) a0 b0 a b j v i pa pb pj h1)) ⟨stateO (w := w) a0 b0 a b j v i pa pb pj h1 k, itsO (w := w) a0 b0 a b j v i pa pb pj h1 F k hk, []⟩) .normal (stateO (w := w) a0 b0 a b j v i pa pb pj h1 (k + 1))
theorem outer0 (F : FactsJ a b j v) : GoesO (w := w) a0 b0 a b j v i pa pb pj h1 F 0 (by omega) := by show Go.Ev.ask _ _ = Go.Ev.told _ _ _; kernel_rfl
theorem outer1 (F : FactsJ a b j v) : GoesO (w := w) a0 b0 a b j v i pa pb pj h1 F 1 (by omega) := by show Go.Ev.ask _ _ = Go.Ev.told _ _ _; kernel_rfl
theorem outer2 (F : FactsJ a b j v) : GoesO (w := w) a0 b0 a b j v i pa pb pj h1 F 2 (by omega) := by show Go.Ev.ask _ _ = Go.Ev.told _ _ _; kernel_rfl
theorem outer3 (F : FactsJ a b j v) : GoesO (w := w) a0 b0 a b j v i pa pb pj h1 F 3 (by omega) := by show Go.Ev.ask _ _ = Go.Ev.told _ _ _; kernel_rfl
theorem outer4 (F : FactsJ a b j v) : GoesO (w := w) a0 b0 a b j v i pa pb pj h1 F 4 (by omega) := by show Go.Ev.ask _ _ = Go.Ev.told _ _ _; kernel_rfl
theorem outerAll (F : FactsJ a b j v) : ∀ k (hk : k < 5), GoesO (w := w) a0 b0 a b j v i pa pb pj h1 F k hk
  | 0, _ => outer0 a0 b0 a b j v i pa pb pj h1 F
  | 1, _ => outer1 a0 b0 a b j v i pa pb pj h1 F
  | 2, _ => outer2 a0 b0 a b j v i pa pb pj h1 F
  | 3, _ => outer3 a0 b0 a b j v i pa pb pj h1 F
  | 4, _ => outer4 a0 b0 a b j v i pa pb pj h1 F
  | k + 5, h => absurd h (by omega)
noncomputable def outerJ (F : FactsJ a b j v) : Rounds Try.prog w 100 (loopOf (atO (w := w) a0 b0 a b j v i pa pb pj h1)) (tmOf (atO (w := w) a0 b0 a b j v i pa pb pj h1)) where
  N := 5
  S := stateO (w := w) a0 b0 a b j v i pa pb pj h1
  F := stateO (w := w) a0 b0 a b j v i pa pb pj h1 5
  fin := rfl
  its := fun k hk => itsO (w := w) a0 b0 a b j v i pa pb pj h1 F k hk
  itl := []
  h0 := slotsO
  hs := slotsO
  he := []
  start := by kernel_rfl
  round := fun k hk => outerAll a0 b0 a b j v i pa pb pj h1 F k hk
  leaves := by kernel_rfl
  last := by kernel_rfl
end

set_option maxRecDepth 100000 in
theorem shapejoins_pure (a0 : Sh) (ha : a0.lit.size ≤ 9223372036854775807) (b0 : Sh) (hb : b0.lit.size ≤ 9223372036854775807) (v : ByteArray) (hv : v.size ≤ 9223372036854775807) (i : Bool) :
    Pure Try.prog 13 #[a0.val, b0.val, .string v, .bool i] (.bool true) := by
  have pa := tame_pure a0 ha
  have pb := tame_pure b0 hb
  have oa := ok_tame a0
  have ob := ok_tame b0
  generalize tameS a0 = a at *
  generalize tameS b0 = b at *
  have pj := join_pure a b
  have oj := ok_join oa ob
  have pj2 := join_pure (a.join b) a
  have pj3 := join_pure b a
  have q73 : decide ((a.join b).join a = a.join b) = true := decide_eq_true (join_back oa ob)
  have q80 : decide (b.join a = a.join b) = true := decide_eq_true (join_swap oa ob)
  have q87 : decide (a.join a = a) = true := decide_eq_true (join_self oa)
  have e67 : okS (a.join b) = true := ok_iff.2 oj
  have e92 : a.leq (a.join b) = true := leq_joinl oa ob
  have e97 : b.leq (a.join b) = true := leq_joinr oa ob
  have imp : ∀ (is : Bool) (t : ByteArray), (a.join b).may is t = ((a.may is t || b.may is t) || (a.join b).may is t) := fun is t => by
    cases h1 : a.may is t with
    | true => rw [join_upl oa ob h1]; rfl
    | false =>
      cases h2 : b.may is t with
      | true => rw [join_upr oa ob h2]; rfl
      | false => rfl
  have z1 := ok_size oa
  have z2 := ok_size ob
  have z3 := ok_size oj
  have pr : ∀ (y : Sh) (is : Bool), y.lit.size ≤ 64 → True := fun _ _ _ => trivial
  generalize hj : a.join b = j at *
  have F : FactsJ a b j v := ⟨z1, z2, z3, hv, imp⟩
  cases h1 : decide ((100 : Int) < (v.size : Int)) with
  | true => exact pure_of_run mixed 100 (fun _ => [(16, GT .i64 3 v.size 100 h1), (17, C awake4_pure)]) (fun _ => by kernel_rfl)
  | false =>
    refine pure_of_run mixed 100 (fun w => [(16, GT .i64 3 v.size 100 h1), (19, C pa), (21, C pb), (24, C pj), (1000000, (outerJ a0 b0 a b j v i pa pb pj h1 F).item mixed),
      (67, CB (ok_pure j (by omega)) e67),
      (71, C (join_pure j a)),
      (73, EX (j.join a) j q73),
      (78, C (join_pure b a)),
      (80, EX (b.join a) j q80),
      (85, C (join_pure a a)),
      (87, EX (a.join a) a q87),
      (92, CB (leq_pure a j (by omega)) e92),
      (97, CB (leq_pure b j (by omega)) e97),
      (100, C awake4_pure)]) fun w => ?_
    kernel_rfl
end Go.Proofs.Ytlbonbkaddeeeaa
