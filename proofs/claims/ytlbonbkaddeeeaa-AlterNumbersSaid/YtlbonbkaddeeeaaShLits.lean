/-
  The law ShapeLits walked: a literal may be just itself; a longer one than the bound any of its bytes; loosed, it may be what it was, and more.
-/
import Derived.Test.YtlbonbkaddeeeaaShNone
set_option linter.unusedSimpArgs false
set_option linter.unusedVariables false
namespace Go.Conch
open Go.RowKit Go.Proofs.Ytlbonbkaddeeeaa
/-- Whether there is a byte 0 among the first n. -/
def zeros (s : ByteArray) : Nat → Bool
  | 0 => false
  | n + 1 => zeros s n || (s[n]?).getD 1 == 0
theorem zeros_iff (s : ByteArray) : ∀ n, n ≤ s.size → (zeros s n = true ↔ ∃ k, ∃ h : k < s.size, k < n ∧ s[k] = 0)
  | 0, _ => by simp [zeros]
  | n + 1, hn => by
    have hlt : n < s.size := hn
    have e : s[n]? = some s[n] := by simp [hlt]
    have ih := zeros_iff s n (Nat.le_of_lt hlt)
    simp only [zeros, Bool.or_eq_true, ih, e, Option.getD_some, beq_iff_eq]
    constructor
    · rintro (⟨k, h, h1, h2⟩ | h)
      · exact ⟨k, h, Nat.lt_succ_of_lt h1, h2⟩
      · exact ⟨n, hlt, Nat.lt_succ_self n, h⟩
    · rintro ⟨k, h, h1, h2⟩
      rcases Nat.lt_succ_iff_lt_or_eq.1 h1 with h3 | rfl
      · exact .inl ⟨k, h, h3, h2⟩
      · exact .inr h2
theorem zeros_all (s : ByteArray) : zeros s s.size = (ofBytes (bs s)).mem 0 := by
  rw [Bool.eq_iff_iff, zeros_iff s _ (Nat.le_refl _), mem_ofBytes _ _ (by omega), decide_eq_true_iff]
  constructor
  · rintro ⟨k, h, _, h2⟩
    exact ⟨s[k], bs_get s k h, by rw [h2]; rfl⟩
  · rintro ⟨b, hb, h⟩
    obtain ⟨k, hk, e⟩ := get_bs s hb
    exact ⟨k, hk, hk, by rw [e]; exact UInt8.toNat_inj.1 h⟩
theorem lits_k (s : ByteArray) : (litS s).k = (decide (s.size ≤ 64) && !(ofBytes (bs s)).mem 0) := by
  by_cases h : s.size ≤ 64 ∧ (ofBytes (bs s)).mem 0 = false
  · rw [litS_k h.1 h.2, h.2, decide_eq_true h.1]; rfl
  · rw [litS_n h]
    cases h0 : (ofBytes (bs s)).mem 0 with
    | true => simp
    | false =>
      have : ¬ s.size ≤ 64 := fun h1 => h ⟨h1, h0⟩
      rw [decide_eq_false this]; rfl
theorem lits_has {s : ByteArray} (h0 : (ofBytes (bs s)).mem 0 = false) : (litS s).has = ofBytes (bs s) := by
  by_cases h : s.size ≤ 64
  · rw [litS_k h h0]
  · rw [litS_n (fun h1 => h h1.1)]; exact and_all h0
theorem lits_e (s : ByteArray) : (litS s).e = decide (s = tz) := by
  by_cases h : s.size ≤ 64 ∧ (ofBytes (bs s)).mem 0 = false
  · rw [litS_k h.1 h.2]
  · rw [litS_n h]
theorem lits_u (s : ByteArray) : (litS s).u = false := by
  by_cases h : s.size ≤ 64 ∧ (ofBytes (bs s)).mem 0 = false
  · rw [litS_k h.1 h.2]
  · rw [litS_n h]
theorem lits_lit {s : ByteArray} (h : (litS s).k = true) : (litS s).lit = s := by
  rw [lits_k] at h
  simp only [Bool.and_eq_true, decide_eq_true_iff, Bool.not_eq_true'] at h
  rw [litS_k h.1 h.2]
theorem lits_may {s : ByteArray} (h0 : (ofBytes (bs s)).mem 0 = false) : (litS s).may true s = true := by
  cases hk : (litS s).k with
  | true => rw [may_lit hk, lits_lit hk]; simp
  | false =>
    by_cases hs : s = tz
    · rw [hs, may_nil (by rw [← hs]; exact hk), lits_e]; rfl
    · rw [may_some hk hs, lits_has h0]; exact subS_refl _
theorem ok_loose {x : Sh} (h : Ok x) : Ok x.loose := ⟨h.zero, fun h => (by cases h), fun _ => rfl⟩
theorem leq_loose {x : Sh} (h : Ok x) : x.leq x.loose = true := by
  rw [leq_iff h (ok_loose h)]
  exact ⟨fun h => h, .inr (.inr (.inr ⟨rfl, subS_refl _, fun h => h⟩))⟩
theorem loose_may {x : Sh} (h : Ok x) {v : ByteArray} (hm : x.may true v = true) : x.loose.may true v = true :=
  below_may h (ok_loose h) ((leq_iff h (ok_loose h)).1 (leq_loose h)) hm
theorem lits_loose (s : ByteArray) : ofS (ofBytes (bs s)) (decide (s = tz)) = (litS s).loose := by
  by_cases h : s.size ≤ 64 ∧ (ofBytes (bs s)).mem 0 = false
  · rw [litS_k h.1 h.2]
    unfold ofS Sh.loose
    rw [and_all h.2]
  · rw [litS_n h]; rfl
end Go.Conch
namespace Go.Proofs.Ytlbonbkaddeeeaa
open Go.RowKit Go.Eng Go.Conch Go.Ev

section
variable {w : World} (s t : ByteArray) {y : Sh} (hl : Pure Try.prog 52 #[.string s] y.val) (h1 : decide ((150 : Int) < (s.size : Int)) = false) (h2 : decide ((150 : Int) < (t.size : Int)) = false)
def slots12 : List Nat := [20, 21, 22, 23, 24, 25, 26, 27, 28, 29, 30, 31, 32]
noncomputable def at12 : Option (Code × Tm) := stopAt Try.prog 12 [.string s, .string t] ([(11, GT .i64 3 s.size 150 h1), (15, GT .i64 3 t.size 150 h2), (19, C hl)] : Items Try.prog w)
noncomputable def state12 (n : Nat) (a : Bool) : Tm := setsTm (forget slots12 (tmOf (at12 (w := w) s t hl h1 h2))) [(7, .v (.int .i64 (n : Int))), (6, .v (.bool a))]
noncomputable def round12 (n : Nat) (hn : n < s.size) (hs : s.size ≤ 150) (b : Bool) (hz : decide ((s[n].toNat : Int) = 0) = b) : Items Try.prog w :=
  [(23, LT .i64 3 n s.size (in_size hn)), (30, IX s n hn), (31, EI .u8 5 (s[n].toNat : Int) 0 hz), (25, PI .i64 3 n 1 ((n + 1 : Nat) : Int) (wrap_up n (by omega)))]
theorem goes12 (n : Nat) (hn : n < s.size) (hs : s.size ≤ 150) (a b : Bool) (hz : decide ((s[n].toNat : Int) = 0) = b) :
    Go.Ev.ask (runC Try.prog 100 (loopOf (at12 (w := w) s t hl h1 h2)) ⟨state12 (w := w) s t hl h1 h2 n a, round12 (w := w) s n hn hs b hz, []⟩) slots12 =
      Go.Ev.told (runC Try.prog 100 (loopOf (at12 (w := w) s t hl h1 h2)) ⟨state12 (w := w) s t hl h1 h2 n a, round12 (w := w) s n hn hs b hz, []⟩) .normal (state12 (w := w) s t hl h1 h2 (n + 1) (a || b)) := by
  cases a <;> cases b <;> kernel_rfl
theorem byte12 (n : Nat) (hn : n < s.size) : decide ((s[n].toNat : Int) = 0) = ((s[n]?).getD 1 == 0) := by
  have e : s[n]? = some s[n] := by simp [hn]
  rw [is_zero n hn, e]; rfl
noncomputable def all12 (hs : s.size ≤ 150) (z : Bool) (hz : zeros s s.size = z) : Rounds Try.prog w 100 (loopOf (at12 (w := w) s t hl h1 h2)) (tmOf (at12 (w := w) s t hl h1 h2)) where
  N := s.size
  S := fun n => state12 (w := w) s t hl h1 h2 n (zeros s n)
  F := state12 (w := w) s t hl h1 h2 s.size z
  fin := by rw [hz]
  its := fun n hn => round12 s n hn hs _ (byte12 s n hn)
  itl := [(23, LT .i64 3 s.size s.size (c := false) (decide_eq_false (by omega)))]
  h0 := slots12
  hs := slots12
  he := []
  start := by kernel_rfl
  round := fun n hn => goes12 s t hl h1 h2 n hn hs (zeros s n) _ (byte12 s n hn)
  leaves := by kernel_rfl
  last := by kernel_rfl
end

theorem order12 : Region.lexB .any (drawOf Try.prog 12 0) = true := by kernel_rfl

set_option maxRecDepth 100000 in
theorem shapelits_pure (s : ByteArray) (hs : s.size ≤ 9223372036854775807) (t : ByteArray) (ht : t.size ≤ 9223372036854775807) :
    Pure Try.prog 12 #[.string s, .string t] (.bool true) := by
  have hl := lit_pure s hs
  have ol := ok_lit s
  have zl := ok_size ol
  have zo := ok_size (ok_loose ol)
  cases h1 : decide ((150 : Int) < (s.size : Int)) with
  | true => exact pure_of_run mixed 100 (fun _ => [(11, GT .i64 3 s.size 150 h1), (17, C awake4_pure)]) (fun _ => by kernel_rfl)
  | false =>
    cases h2 : decide ((150 : Int) < (t.size : Int)) with
    | true => exact pure_of_run mixed 100 (fun _ => [(11, GT .i64 3 s.size 150 h1), (15, GT .i64 3 t.size 150 h2), (17, C awake4_pure)]) (fun _ => by kernel_rfl)
    | false =>
      have hs9 : s.size ≤ 150 := by have := of_decide_eq_false h1; omega
      generalize hz : zeros s s.size = z
      have hz0 : (ofBytes (bs s)).mem 0 = z := by rw [← zeros_all]; exact hz
      generalize h64 : decide ((s.size : Int) ≤ 64) = g64
      have h64' : decide (s.size ≤ 64) = g64 := by rw [← h64, decide_eq_decide]; omega
      have hk : (litS s).k = (g64 && !z) := by rw [lits_k, h64', hz0]
      have q42 : decide ((litS s).k = (g64 && !z)) = true := decide_eq_true hk
      have e45 : okS (litS s) = true := ok_iff.2 ol
      have e54 : (litS s).may true s = (!z || (litS s).may true s) := by
        cases z with
        | true => rfl
        | false => rw [lits_may hz0]; rfl
      have e60 : (litS s).may false tz = false := by rw [may_not, lits_u]
      generalize q73 : decide (s = t) = q
      have q74 : decide ((litS s).may true t = q) = ((g64 && !z) || decide ((litS s).may true t = q)) := by
        cases hc : (g64 && !z) with
        | false => rfl
        | true =>
          rw [hc] at hk
          rw [may_lit hk, lits_lit hk, q73]; simp
      have e81 : (litS s).loose.may true s = (!z || (litS s).loose.may true s) := by
        cases z with
        | true => rfl
        | false => rw [loose_may ol (lits_may hz0)]; rfl
      have e87 : (litS s).leq (litS s).loose = true := leq_loose ol
      generalize q98 : decide (s = tz) = n
      have q101 : decide (ofS (ofBytes (bs s)) n = (litS s).loose) = true := by rw [← q98]; exact decide_eq_true (lits_loose s)
      clear e45
      have e45 : okS (litS s) = true := ok_iff.2 ol
      generalize litS s = y at *
      obtain ⟨u, e, hh, k, l⟩ := y
      simp only at hk
      subst hk
      have zl2 : l.size ≤ 64 := zl
      refine pure_of_run mixed 100 (fun w => [(11, GT .i64 3 s.size 150 h1), (15, GT .i64 3 t.size 150 h2), (19, C hl), (1000000, (all12 s t hl h1 h2 hs9 z hz).item mixed), (1000001, .order _ order12),
        (37, LE .i64 3 s.size 64 h64),
        (42, NB (g64 && !z) (g64 && !z) q42),
        (45, CB (ok_pure (Sh.mk u e hh (g64 && !z) l) (by omega)) e45),
        (54, CB (may_pure (Sh.mk u e hh (g64 && !z) l) true s (by omega)) e54),
        (60, CB (may_pure (Sh.mk u e hh (g64 && !z) l) false tz (by decide)) e60),
        (63, C (loose_pure (Sh.mk u e hh (g64 && !z) l))),
        (70, C (may_pure (Sh.mk u e hh (g64 && !z) l) true t (by omega))),
        (73, ES s t q73),
        (74, EB ((Sh.mk u e hh (g64 && !z) l).may true t) q q74),
        (81, CB (may_pure ((Sh.mk u e hh (g64 && !z) l).loose) true s (by omega)) e81),
        (87, CB (leq_pure (Sh.mk u e hh (g64 && !z) l) ((Sh.mk u e hh (g64 && !z) l).loose) (by omega)) e87),
        (96, C (of_pure s (by omega))),
        (98, ES s tz q98),
        (99, C (ofs_pure (ofBytes (bs s)) n)),
        (101, EX (ofS (ofBytes (bs s)) n) ((Sh.mk u e hh (g64 && !z) l).loose) q101),
        (104, C awake4_pure)]) fun w => ?_
      cases g64 <;> cases z <;> as_aux_lemma => kernel_rfl
end Go.Proofs.Ytlbonbkaddeeeaa
