/-
  The law ShapeNone walked: what may be nothing is less than all, and adds nothing; all that is Ok is less than any.
-/
import Derived.Test.YtlbonbkaddeeeaaEvB
import Derived.Test.YtlbonbkaddeeeaaAw
set_option linter.unusedSimpArgs false
set_option linter.unusedVariables false
namespace Go.Conch
open Go.RowKit Go.Proofs.Ytlbonbkaddeeeaa
/-- The first number below n of which p is true, or none. -/
theorem first_hit (p : Nat → Bool) : ∀ n : Nat, (∀ k, k < n → p k = false) ∨ ∃ m, m < n ∧ p m = true ∧ ∀ k, k < m → p k = false
  | 0 => .inl fun k hk => absurd hk (Nat.not_lt_zero k)
  | n + 1 => by
    rcases first_hit p n with h | ⟨m, h1, h2, h3⟩
    · cases hp : p n with
      | true => exact .inr ⟨n, Nat.lt_succ_self n, hp, h⟩
      | false =>
        refine .inl fun k hk => ?_
        rcases Nat.lt_succ_iff_lt_or_eq.1 hk with h4 | rfl
        · exact h k h4
        · exact hp
    · exact .inr ⟨m, Nat.lt_succ_of_lt h1, h2, h3⟩
theorem bs_get (v : ByteArray) (k : Nat) (h : k < v.size) : v[k] ∈ bs v := by
  have hl : k < (bs v).length := by rw [bs_size]; exact h
  have he : (bs v)[k] = v[k] := by simp [bs, ByteArray.getElem_eq_getElem_data]
  rw [← he]; exact List.getElem_mem hl
theorem get_bs (v : ByteArray) {b : UInt8} (h : b ∈ bs v) : ∃ k, ∃ hk : k < v.size, v[k] = b := by
  obtain ⟨k, hk, e⟩ := List.getElem_of_mem h
  have hl : k < v.size := by rw [bs_size] at hk; exact hk
  exact ⟨k, hl, by rw [← e]; simp [bs, ByteArray.getElem_eq_getElem_data]⟩

theorem zero_join {x : Sh} : Sh.zero.join x = x := by
  have h : Sh.zero.there = false := by decide +kernel
  rw [join_def, h]
  obtain ⟨u, e, hs, k, l⟩ := x
  simp [joinB, Sh.zero]
theorem join_zero {x : Sh} (hx : Ok x) : x.join Sh.zero = x := by
  have h : Sh.zero.there = false := by decide +kernel
  rw [join_def, h]
  cases ht : x.there with
  | true => obtain ⟨u, e, hs, k, l⟩ := x; simp [joinB, Sh.zero]
  | false =>
    rw [not_there hx ht]
    simp [joinB, Sh.zero]
theorem any_def : anyS = ⟨true, true, allS, false, tz⟩ := by decide +kernel
theorem ok_any : Ok anyS := by
  rw [any_def]
  exact ⟨by decide +kernel, fun h => (by cases h), fun _ => rfl⟩
theorem leq_any {x : Sh} (hx : Ok x) : x.leq anyS = true := by
  rw [leq_iff hx ok_any, any_def]
  exact ⟨fun _ => rfl, .inr (.inr (.inr ⟨rfl, sub_all hx.zero, fun _ => rfl⟩))⟩
theorem join_any {x : Sh} (hx : Ok x) : x.join anyS = anyS := by
  rcases join_cases hx ok_any with ⟨_, e⟩ | ⟨h, _⟩ | ⟨_, _, _, h, _⟩ | ⟨_, _, _, e⟩
  · rw [e, any_def]; simp
  · rw [any_def] at h; exact absurd h (by decide +kernel)
  · rw [any_def] at h; cases h
  · rw [e, any_def]
    simp only [Bool.or_true, or_sub' (sub_all hx.zero)]
theorem may_any {v : ByteArray} (h : ∀ b ∈ bs v, b ≠ 0) (i : Bool) : anyS.may i v = true := by
  cases i with
  | false => rw [may_not, any_def]
  | true =>
    rw [any_def]
    refine may_mk (ofBytes_sub.2 fun b hb => ?_) fun _ => rfl
    rw [mem_allS _ b.toNat_lt, decide_eq_true_iff]
    have h1 := h b hb
    have : b.toNat ≠ 0 := fun h2 => h1 (UInt8.toNat_inj.1 h2)
    omega
theorem may_zero (i : Bool) (v : ByteArray) : Sh.zero.may i v = false := by
  cases i with
  | false => rw [may_not]; rfl
  | true => exact may_none ok_zero (by decide +kernel) v
theorem zero_leq (x : Sh) (hx : Ok x) : Sh.zero.leq x = true := (leq_iff ok_zero hx).2 ⟨fun h => (by cases h), .inl (by decide +kernel)⟩
end Go.Conch
namespace Go.Proofs.Ytlbonbkaddeeeaa
open Go.RowKit Go.Eng Go.Conch Go.Ev

theorem wrap_up (k : Nat) (h : k < 9223372036854775807) : IntKind.i64.wrap ((k : Int) + 1) = ((k + 1 : Nat) : Int) := by
  rw [IntWalk.i64_in _ (by omega)]; omega

theorem is_zero {v : ByteArray} (n : Nat) (hn : n < v.size) : decide ((v[n].toNat : Int) = 0) = (v[n] == 0) := by
  rw [Bool.eq_iff_iff, decide_eq_true_iff, beq_iff_eq]
  constructor
  · intro h; exact UInt8.toNat_inj.1 (by have e0 : (0 : UInt8).toNat = 0 := rfl; omega)
  · intro h; rw [h]; rfl
theorem in_size {v : ByteArray} {n : Nat} (hn : n < v.size) : decide ((n : Int) < (v.size : Int)) = true := decide_eq_true (by omega)

section
variable {w : World} (x : Sh) (y : Sh) (v : ByteArray) (i : Bool) (pt : Pure Try.prog 35 #[x.val] y.val) (h1 : decide ((100 : Int) < (v.size : Int)) = false)
def slots7 : List Nat := [16, 17, 18, 19, 20, 21, 22, 23, 24, 25]
noncomputable def pre7 : Items Try.prog w := [(11, GT .i64 3 v.size 100 h1), (14, C pt)]
noncomputable def at7 : Option (Code × Tm) := stopAt Try.prog 7 [x.val, .string v, .bool i] (pre7 (w := w) x y v pt h1)
noncomputable def round7 (n : Nat) (hn : n < v.size) (hs : v.size ≤ 100) (hz : decide ((v[n].toNat : Int) = 0) = false) : Items Try.prog w :=
  [(19, LT .i64 3 n v.size (in_size hn)), (24, IX v n hn), (25, EI .u8 5 (v[n].toNat : Int) 0 hz), (21, PI .i64 3 n 1 ((n + 1 : Nat) : Int) (wrap_up n (by omega)))]
noncomputable def state7 (n : Nat) : Tm := setsTm (forget slots7 (tmOf (at7 (w := w) x y v i pt h1))) [(8, .v (.int .i64 (n : Int)))]
noncomputable def all7 (hs : v.size ≤ 100) (nz : ∀ (n : Nat) (hn : n < v.size), decide ((v[n].toNat : Int) = 0) = false) :
    Rounds Try.prog w 100 (loopOf (at7 (w := w) x y v i pt h1)) (tmOf (at7 (w := w) x y v i pt h1)) where
  N := v.size
  S := state7 (w := w) x y v i pt h1
  F := state7 (w := w) x y v i pt h1 v.size
  fin := rfl
  its := fun n hn => round7 v n hn hs (nz n hn)
  itl := [(19, LT .i64 3 v.size v.size (c := false) (decide_eq_false (by omega)))]
  h0 := slots7
  hs := slots7
  he := []
  start := by kernel_rfl
  round := by intro n hn; kernel_rfl
  leaves := by kernel_rfl
  last := by kernel_rfl
noncomputable def hit7 (hs : v.size ≤ 100) (m : Nat) (hm : m < v.size) (nz : ∀ (n : Nat) (hn : n < m), decide (((v[n]'(by omega)).toNat : Int) = 0) = false) (hz : decide ((v[m].toNat : Int) = 0) = true) :
    Rounds Try.prog w 100 (loopOf (at7 (w := w) x y v i pt h1)) (tmOf (at7 (w := w) x y v i pt h1)) where
  N := m
  S := state7 (w := w) x y v i pt h1
  F := state7 (w := w) x y v i pt h1 m
  fin := rfl
  its := fun n hn => round7 v n (by omega) hs (nz n hn)
  itl := [(19, LT .i64 3 m v.size (in_size hm)), (24, IX v m hm), (25, EI .u8 5 (v[m].toNat : Int) 0 hz), (26, C awake4_pure)]
  h0 := slots7
  hs := slots7
  he := []
  start := by kernel_rfl
  round := by intro n hn; kernel_rfl
  leaves := by kernel_rfl
  last := by kernel_rfl
end

theorem order7 : Region.lexB .any (drawOf Try.prog 7 0) = true := by kernel_rfl

set_option maxRecDepth 100000 in
theorem shapenone_pure (x : Sh) (hx : x.lit.size ≤ 9223372036854775807) (v : ByteArray) (hv : v.size ≤ 9223372036854775807) (i : Bool) :
    Pure Try.prog 7 #[x.val, .string v, .bool i] (.bool true) := by
  have pt := tame_pure x hx
  have oy := ok_tame x
  generalize tameS x = y at *
  obtain ⟨u, e, h, k, l⟩ := y
  cases h1 : decide ((100 : Int) < (v.size : Int)) with
  | true =>
    exact pure_of_run mixed 100 (fun _ => [(11, GT .i64 3 v.size 100 h1), (12, C awake4_pure)]) (fun _ => by kernel_rfl)
  | false =>
    have hs : v.size ≤ 100 := by have := of_decide_eq_false h1; omega
    rcases first_hit (fun n => (v[n]?).getD 1 == 0) v.size with hno | ⟨m, hm, hp, hmin⟩
    · have nz : ∀ (n : Nat) (hn : n < v.size), decide ((v[n].toNat : Int) = 0) = false := fun n hn => by
        rw [is_zero n hn]
        have := hno n hn
        simpa [hn] using this
      have all : ∀ b ∈ bs v, b ≠ 0 := fun b hb h0 => by
        obtain ⟨n, hn, rfl⟩ := get_bs v hb
        have := nz n hn
        rw [is_zero n hn, h0] at this
        cases this
      have e28 : Sh.zero.none = true := by decide +kernel
      have e33 : Sh.zero.may i v = false := may_zero i v
      have e39 : Sh.zero.leq ⟨u, e, h, k, l⟩ = true := zero_leq _ oy
      have q46 : decide (Sh.zero.join ⟨u, e, h, k, l⟩ = ⟨u, e, h, k, l⟩) = true := decide_eq_true zero_join
      have q53 : decide ((Sh.mk u e h k l).join Sh.zero = ⟨u, e, h, k, l⟩) = true := decide_eq_true (join_zero oy)
      have e58 : (Sh.mk u e h k l).leq anyS = true := leq_any oy
      have e64 : anyS.may i v = true := may_any all i
      have q71 : decide ((Sh.mk u e h k l).join anyS = anyS) = true := decide_eq_true (join_any oy)
      have zl := ok_size oy
      have zy : (anyS : Sh).lit.size = 0 := by decide +kernel
      have z0 : (Sh.zero : Sh).lit.size = 0 := rfl
      simp only at zl
      generalize q93 : decide (h = S4.zero) = z
      have q95 : decide ((Sh.mk u e h k l).none = (!u && (!k && (!e && z)))) = true := by
        rw [← q93]
        unfold Sh.none Sh.there
        cases u <;> cases k <;> cases e <;> simp
      refine pure_of_run mixed 100 (fun w => [(11, GT .i64 3 v.size 100 h1), (14, C pt), (1000000, (all7 x _ v i pt h1 hs nz).item mixed), (1000001, .order _ order7),
        (28, CB (shnone_pure Sh.zero) e28),
        (33, CB (may_pure Sh.zero i v (by omega)) e33),
        (39, CB (leq_pure Sh.zero (Sh.mk u e h k l) (by omega)) e39),
        (44, C (join_pure Sh.zero (Sh.mk u e h k l))),
        (46, EX (Sh.zero.join (Sh.mk u e h k l)) (Sh.mk u e h k l) q46),
        (51, C (join_pure (Sh.mk u e h k l) Sh.zero)),
        (53, EX ((Sh.mk u e h k l).join Sh.zero) (Sh.mk u e h k l) q53),
        (57, C any_pure),
        (58, CB (leq_pure (Sh.mk u e h k l) anyS (by simp only; omega)) e58),
        (61, C any_pure),
        (64, CB (may_pure anyS i v (by omega)) e64),
        (68, C any_pure),
        (69, C (join_pure (Sh.mk u e h k l) anyS)),
        (70, C any_pure),
        (71, EX ((Sh.mk u e h k l).join anyS) anyS q71),
        (75, C (shnone_pure (Sh.mk u e h k l))),
        (93, EH h S4.zero q93),
        (95, EB ((Sh.mk u e h k l).none) (!u && (!k && (!e && z))) q95),
        (98, C awake4_pure)]) fun w => ?_
      cases u <;> cases k <;> cases e <;> cases z <;> as_aux_lemma => kernel_rfl
    · have nz : ∀ (n : Nat) (hn : n < m), decide (((v[n]'(by omega)).toNat : Int) = 0) = false := fun n hn => by
        rw [is_zero n (by omega)]
        have := hmin n hn
        have h9 : n < v.size := by omega
        simpa [h9] using this
      have hz : decide ((v[m].toNat : Int) = 0) = true := by
        rw [is_zero m hm]
        simpa [hm] using hp
      exact pure_of_run mixed 100 (fun w => [(11, GT .i64 3 v.size 100 h1), (14, C pt), (1000000, (hit7 x _ v i pt h1 hs m hm nz hz).item mixed)]) fun w => by kernel_rfl
end Go.Proofs.Ytlbonbkaddeeeaa
