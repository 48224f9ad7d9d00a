/-
  A value that splits, by an IFS that may be, is of a shape that may split; one that has a byte of a pattern of one that may be one: the law AlterSplits answers true at any two shapes, any two texts and either bool, and leaves them as they were. Conditions: none.
-/
import Derived.Test.YtlbonbkaddeeeaaRows
import Derived.Test.YtlbonbkaddeeeaaSets
import Derived.ProofKit
import Derived.OpenShut
import Derived.Test.YtlbonbkaddeeeaaShapes
import Derived.Test.YtlbonbkaddeeeaaEvB
import Derived.Test.YtlbonbkaddeeeaaAw
import Derived.Test.YtlbonbkaddeeeaaPAlterSplitsx1
namespace Go.Proofs.Ytlbonbkaddeeeaa
open Go.ChangeShapes Go.WideShapes Go.ChangeAt Go.RowKit Go.Conch
set_option linter.unusedSimpArgs false
set_option linter.unusedVariables false

theorem Try.own : ownKnob Try.prog.godebug = none := by kernel_rfl
theorem Try.laidOut : laidOutB Try.prog = true := by kernel_rfl

section
variable {H : Type} {enc : TypeId × Value → H} {P : Program}

theorem trodAll_stays (hl : laidOutB P = true) {W W' : World} (hb : Below W.heap.size W W') {sp : Nat → Bool} :
    ∀ {ts : List TypeId} {vs : List Value} {ds : List (DataW H)} {ps : List MemPlace}, (ts.all fun t => P.readableRec t && decide (t < P.types.size)) = true →
      DataW.TrodAll enc P W 0 (fun _ => true) true ts vs ds ps → (∀ p ∈ ps, p.block < W.heap.size) → (∀ p ∈ ps, sp p.block = true) → DataW.TrodAll enc P W' 0 sp true ts vs ds ps
  | [], [], [], ps, _, h, _, _ => h
  | t :: ts, v :: vs, d :: ds, ps, hr, h, hlt, hs => by
    obtain ⟨p, q, h1, h2, rfl⟩ := h
    simp only [List.all_cons, Bool.and_eq_true, decide_eq_true_eq] at hr
    refine ⟨p, q, ?_, ?_, rfl⟩
    · exact WideElems.Trod_stays hl hr.1.1 hr.1.2 h1 (fun x hx => hb.same (hlt x (List.mem_append.2 (.inl hx)))) (fun x hx => hs x (List.mem_append.2 (.inl hx)))
    · refine trodAll_stays hl hb ?_ h2 (fun x hx => hlt x (List.mem_append.2 (.inr hx))) (fun x hx => hs x (List.mem_append.2 (.inr hx)))
      exact hr.2
  | [], _ :: _, _, _, _, h, _, _ => h.elim
  | [], [], _ :: _, _, _, h, _, _ => h.elim
  | _ :: _, [], _, _, _, h, _, _ => h.elim
  | _ :: _, _ :: _, [], _, _, h, _, _ => h.elim

/-- A LAW's POST: it answered true and turned nothing that existed. -/
theorem law_post {f : Func} {s : ChangeSpec} {again : Bool} {W W' : World} {args : Array Value} {ds gs : List (DataW H)} {before : List MemPlace} {tb : TypeId}
    (hl : laidOutB P = true) (hr : (f.params.toList.all fun t => P.readableRec t && decide (t < P.types.size)) = true) (hv : s.vars = []) (hrt : f.resultTypes = #[tb]) (htb : P.underlying tb = some .bool)
    (hW : DataW.Whole enc P f.params.toList s.vars false W args.toList ds gs before) (hfn : s.fn H (ds ++ gs) = { results := [.lit (.bool true)], args := ds }) (hb : Below W.heap.size W W') :
    s.post enc P f false true false again W args (.bool true) W' := by
  have hlt : ∀ p ∈ before, p.block < W.heap.size := fun p hp => hW.lt p hp
  have hW0 := hW
  obtain ⟨p, q, hA, hV, hps, hz, hn⟩ := hW
  rw [hv] at hV
  obtain ⟨hgs, hq⟩ := trodVars_none hV
  subst hq
  have hpb : p = before := by rw [hps, List.append_nil]
  subst hpb
  have hargs : ∀ sp : Nat → Bool, (∀ x ∈ p, sp x.block = true) → DataW.TrodAll enc P W' 0 sp true f.params.toList args.toList (s.fn H (ds ++ gs)).args p := fun sp hs => by
    rw [hfn]; exact trodAll_stays hl hb hr hA hlt hs
  have hvars : ∀ sp : Nat → Bool, DataW.TrodVars enc P W' sp s.vars (s.fn H (ds ++ gs)).vars [] := fun sp => by rw [hfn, hv]; rfl
  have hres : ∀ (b : Nat) (sp : Nat → Bool) (hd : Bool), DataW.TrodAll enc P W' b sp hd f.resultTypes.toList ((Value.bool true).resultList f.resultTypes.size) (s.fn H (ds ++ gs)).results [] := fun b sp hd => by
    rw [hfn, hrt]; exact trodAll_mk1 (shut_bool htb true)
  have hold : ∀ x ∈ p, (fun b => decide (b < W.heap.size)) x.block = true := fun x hx => by simpa using hlt x hx
  refine ⟨ds, gs, p, [], p, [], hW0, hres _ _ _, hargs _ hold, hvars _, World.keptBut_mono (fun x hx => ⟨hx, ?_⟩) (hb.frame (· ∈ p)), fun _ => ?_⟩
  · exact .inr (.inl hx)
  · refine ⟨?_, _, _, ([] ++ p) ++ [], ⟨[] ++ p, [], trodAll_append (hargs _ fun _ _ => rfl) (hres _ _ _), hvars _, rfl, ?_, fun h => by cases h⟩, ?_⟩
    · exact ok_one hrt rfl (okWide_bool_mk htb true)
    · intro b off hx
      have hin : MemPlace.cell b off ∈ p := by simpa using hx
      rw [hb.frozen (hlt _ hin)]
      exact hz b off (by simpa using hin)
    · intro x hx _
      simpa using hx
end

theorem u64_of {n : Int} (h : (Lit.int .u64 n).wf = true) : ∃ x : UInt64, n = x.toNat := by
  have hn : 0 ≤ n ∧ n ≤ 18446744073709551615 := by simpa [Lit.wf, IntKind.min, IntKind.max, IntKind.signed, IntKind.bits] using h
  refine ⟨UInt64.ofNat n.toNat, ?_⟩
  rw [UInt64.toNat_ofNat', Nat.mod_eq_of_lt (by omega)]
  omega
theorem Try.cells23 : Try.prog.cellsOf 23 = 1 := by kernel_rfl
theorem Try.cells25 : Try.prog.cellsOf 25 = 4 := by kernel_rfl

section
variable {H : Type} {enc : TypeId × Value → H} {w : World} {base : Nat} {spare : Nat → Bool} {held : Bool}
theorem set_cells {fuel : Nat} {cs : List Value} {x : DataW H × List MemPlace} (h : DataW.trod enc Try.prog w base spare held fuel 25 cs = some x) :
    ∃ s : S4, cs = [.int .u64 s.a.toNat, .int .u64 s.b.toNat, .int .u64 s.c.toNat, .int .u64 s.d.toNat] := by
  obtain ⟨xs, m, -, -, hlen, hx, hi⟩ := DataW.trod_array Try.underlying25 h
  rw [Try.cells25] at hlen
  match cs, hlen with
  | [c0, c1, c2, c3], _ =>
    have g : ∀ (i : Nat) (_ : i < 4) (c : Value) (_ : ([c0, c1, c2, c3].drop (i * Try.prog.cellsOf 23)).take (Try.prog.cellsOf 23) = [c]), ∃ u : UInt64, c = .int .u64 u.toNat := by
      intro i h c hc
      have h1 := hi i h
      rw [hc] at h1
      have h2 : xs[i]? = some (xs[i]'(by omega)) := List.getElem?_eq_getElem (by omega)
      rw [h2] at h1
      obtain ⟨n, e, -, hw⟩ := DataW.trod_int Try.underlying23 h1
      obtain ⟨u, rfl⟩ := u64_of hw
      exact ⟨u, by simpa using e⟩
    obtain ⟨a, rfl⟩ := g 0 (by omega) c0 (by rw [Try.cells23]; rfl)
    obtain ⟨b, rfl⟩ := g 1 (by omega) c1 (by rw [Try.cells23]; rfl)
    obtain ⟨c, rfl⟩ := g 2 (by omega) c2 (by rw [Try.cells23]; rfl)
    obtain ⟨d, rfl⟩ := g 3 (by omega) c3 (by rw [Try.cells23]; rfl)
    exact ⟨⟨a, b, c, d⟩, rfl⟩
/-- A set that came in. -/
theorem open_set {r : Reach} {b0 : Nat} {v : Value} {d : DataW H} {p : List MemPlace} (hv : Value.okWide Try.prog w r b0 25 v) (h : DataW.Trod enc Try.prog w base spare held 25 v d p) : ∃ s : S4, v = s.val := by
  simp only [Value.okWide, Try.underlying25] at hv
  obtain ⟨cs, rfl, hsz, -⟩ := hv
  obtain ⟨fuel, hf⟩ := h
  obtain ⟨s, hs⟩ := set_cells hf
  refine ⟨s, ?_⟩
  congr 1
  apply Array.ext'
  exact hs
end
end Go.Proofs.Ytlbonbkaddeeeaa

namespace Go.Proofs.Ytlbonbkaddeeeaa
open Go.ChangeShapes Go.WideShapes Go.ChangeAt Go.RowKit Go.Conch
set_option linter.unusedSimpArgs false
set_option linter.unusedVariables false

theorem Try.cells39 : Try.prog.cellsOf 39 = 8 := by kernel_rfl
theorem Try.cells4 : Try.prog.cellsOf 4 = 1 := by kernel_rfl
theorem Try.cells9 : Try.prog.cellsOf 9 = 1 := by kernel_rfl

section
variable {H : Type} {enc : TypeId × Value → H} {w : World} {base : Nat} {spare : Nat → Bool} {held : Bool}
theorem shape_cells {fuel : Nat} {cs : List Value} {x : DataW H × List MemPlace} (h : DataW.trod enc Try.prog w base spare held fuel 39 cs = some x) :
    ∃ s : Sh, cs = [.bool s.u, .bool s.e, .int .u64 s.has.a.toNat, .int .u64 s.has.b.toNat, .int .u64 s.has.c.toNat, .int .u64 s.has.d.toNat, .bool s.k, .string s.lit] ∧ s.lit.size ≤ maxLen := by
  obtain ⟨xs, n, -, -, hlen, hx, hi⟩ := DataW.trod_struct Try.underlying39 h
  rw [Try.cells39] at hlen
  match cs, hlen with
  | [c0, c1, c2, c3, c4, c5, c6, c7], _ =>
    have hs : xs.length = 5 := hx
    have g : ∀ (i : Nat) (_ : i < 5), xs[i]? = some (xs[i]'(by omega)) := fun i hi => List.getElem?_eq_getElem (by omega)
    have h0 := hi 0 _ rfl
    have h1 := hi 1 _ rfl
    have h2 := hi 2 _ rfl
    have h3 := hi 3 _ rfl
    have h4 := hi 4 _ rfl
    rw [g _ (by omega)] at h0 h1 h2 h3 h4
    obtain ⟨b0, e0, -⟩ := DataW.trod_bool Try.underlying4 h0
    obtain ⟨b1, e1, -⟩ := DataW.trod_bool Try.underlying4 h1
    obtain ⟨s2, e2⟩ := set_cells h2
    obtain ⟨b3, e3, -⟩ := DataW.trod_bool Try.underlying4 h3
    obtain ⟨l4, e4, -, z4⟩ := DataW.trod_string Try.underlying9 h4
    simp [Try.cells4] at e0
    simp [Try.cells4] at e1
    simp [Try.cells25] at e2
    simp [Try.cells4] at e3
    simp [Try.cells9] at e4
    obtain ⟨e20, e21, e22, e23⟩ := e2
    subst e0 e1 e20 e21 e22 e23 e3 e4
    exact ⟨⟨b0, b1, s2, b3, l4⟩, rfl, z4⟩
/-- A shape that came in. -/
theorem open_shape {r : Reach} {b0 : Nat} {v : Value} {d : DataW H} {p : List MemPlace} (hv : Value.okWide Try.prog w r b0 39 v) (h : DataW.Trod enc Try.prog w base spare held 39 v d p) :
    ∃ s : Sh, v = s.val ∧ s.lit.size ≤ maxLen := by
  simp only [Value.okWide, Try.underlying39] at hv
  obtain ⟨cs, rfl, hsz, -⟩ := hv
  obtain ⟨fuel, hf⟩ := h
  obtain ⟨s, hs, hz⟩ := shape_cells hf
  refine ⟨s, ?_, hz⟩
  congr 1
  apply Array.ext'
  exact hs
end
end Go.Proofs.Ytlbonbkaddeeeaa

set_option linter.unusedSimpArgs false
set_option linter.unusedVariables false
namespace Go.Conch
open Go.RowKit Go.Proofs.Ytlbonbkaddeeeaa
/-- The first number below n of which p is true, or none. -/
theorem first_hit (p : Nat → Bool) : ∀ n : Nat, (∀ k, k < n → p k = false) ∨ ∃ m, m < n ∧ p m = true ∧ ∀ k, k < m → p k = false
  | 0 => .inl fun k hk => absurd hk (Nat.not_lt_zero k)
  | n + 1 => by
    rcases first_hit p n with h | ⟨m, h1, h2, h3⟩
    · cases hp : p n with
      | true => exact .inr ⟨n, Nat.lt_succ_self n, hp, h⟩
      | false =>
        refine .inl fun k hk => ?_
        rcases Nat.lt_succ_iff_lt_or_eq.1 hk with h4 | rfl
        · exact h k h4
        · exact hp
    · exact .inr ⟨m, Nat.lt_succ_of_lt h1, h2, h3⟩
theorem bs_get (v : ByteArray) (k : Nat) (h : k < v.size) : v[k] ∈ bs v := by
  have hl : k < (bs v).length := by rw [bs_size]; exact h
  have he : (bs v)[k] = v[k] := by simp [bs, ByteArray.getElem_eq_getElem_data]
  rw [← he]; exact List.getElem_mem hl
theorem get_bs (v : ByteArray) {b : UInt8} (h : b ∈ bs v) : ∃ k, ∃ hk : k < v.size, v[k] = b := by
  obtain ⟨k, hk, e⟩ := List.getElem_of_mem h
  have hl : k < v.size := by rw [bs_size] at hk; exact hk
  exact ⟨k, hl, by rw [← e]; simp [bs, ByteArray.getElem_eq_getElem_data]⟩

theorem zero_join {x : Sh} : Sh.zero.join x = x := by
  have h : Sh.zero.there = false := by decide +kernel
  rw [join_def, h]
  obtain ⟨u, e, hs, k, l⟩ := x
  simp [joinB, Sh.zero]
theorem join_zero {x : Sh} (hx : Ok x) : x.join Sh.zero = x := by
  have h : Sh.zero.there = false := by decide +kernel
  rw [join_def, h]
  cases ht : x.there with
  | true => obtain ⟨u, e, hs, k, l⟩ := x; simp [joinB, Sh.zero]
  | false =>
    rw [not_there hx ht]
    simp [joinB, Sh.zero]
theorem any_def : anyS = ⟨true, true, allS, false, tz⟩ := by decide +kernel
theorem ok_any : Ok anyS := by
  rw [any_def]
  exact ⟨by decide +kernel, fun h => (by cases h), fun _ => rfl⟩
theorem leq_any {x : Sh} (hx : Ok x) : x.leq anyS = true := by
  rw [leq_iff hx ok_any, any_def]
  exact ⟨fun _ => rfl, .inr (.inr (.inr ⟨rfl, sub_all hx.zero, fun _ => rfl⟩))⟩
theorem join_any {x : Sh} (hx : Ok x) : x.join anyS = anyS := by
  rcases join_cases hx ok_any with ⟨_, e⟩ | ⟨h, _⟩ | ⟨_, _, _, h, _⟩ | ⟨_, _, _, e⟩
  · rw [e, any_def]; simp
  · rw [any_def] at h; exact absurd h (by decide +kernel)
  · rw [any_def] at h; cases h
  · rw [e, any_def]
    simp only [Bool.or_true, or_sub' (sub_all hx.zero)]
theorem may_any {v : ByteArray} (h : ∀ b ∈ bs v, b ≠ 0) (i : Bool) : anyS.may i v = true := by
  cases i with
  | false => rw [may_not, any_def]
  | true =>
    rw [any_def]
    refine may_mk (ofBytes_sub.2 fun b hb => ?_) fun _ => rfl
    rw [mem_allS _ b.toNat_lt, decide_eq_true_iff]
    have h1 := h b hb
    have : b.toNat ≠ 0 := fun h2 => h1 (UInt8.toNat_inj.1 h2)
    omega
theorem may_zero (i : Bool) (v : ByteArray) : Sh.zero.may i v = false := by
  cases i with
  | false => rw [may_not]; rfl
  | true => exact may_none ok_zero (by decide +kernel) v
theorem zero_leq (x : Sh) (hx : Ok x) : Sh.zero.leq x = true := (leq_iff ok_zero hx).2 ⟨fun h => (by cases h), .inl (by decide +kernel)⟩
end Go.Conch
namespace Go.Proofs.Ytlbonbkaddeeeaa
open Go.RowKit Go.Eng Go.Conch Go.Ev

theorem wrap_up (k : Nat) (h : k < 9223372036854775807) : IntKind.i64.wrap ((k : Int) + 1) = ((k + 1 : Nat) : Int) := by
  rw [IntWalk.i64_in _ (by omega)]; omega

theorem is_zero {v : ByteArray} (n : Nat) (hn : n < v.size) : decide ((v[n].toNat : Int) = 0) = (v[n] == 0) := by
  rw [Bool.eq_iff_iff, decide_eq_true_iff, beq_iff_eq]
  constructor
  · intro h; exact UInt8.toNat_inj.1 (by have e0 : (0 : UInt8).toNat = 0 := rfl; omega)
  · intro h; rw [h]; rfl
theorem in_size {v : ByteArray} {n : Nat} (hn : n < v.size) : decide ((n : Int) < (v.size : Int)) = true := decide_eq_true (by omega)


end Go.Proofs.Ytlbonbkaddeeeaa

set_option linter.unusedSimpArgs false
set_option linter.unusedVariables false
namespace Go.Proofs.Ytlbonbkaddeeeaa
open Go.RowKit Go.Eng Go.Conch Go.Ev Go.Proofs.Ytlbonbkaddeeeaa.PAlterSplits Go.Proofs.YtlbonbkaddeeeaaW.PrintWords Go.Proofs.YtlbonbkaddeeeaaW.PrintLast

theorem wrap_1 (k : Nat) (h : k < 1000000) : wrap64 ((k : Int) + 1) = ((k + 1 : Nat) : Int) := by unfold wrap64; omega
theorem bt_nat (s : ByteArray) (i : Nat) (h : i < s.size) : bt s (i : Int) = (s[i].toNat : Int) := by
  rw [← bt_at s (i : Int) (by simpa using h)]
  simp
theorem drop_cons (s : ByteArray) (i : Nat) (h : i < s.size) : (bs s).drop i = s[i] :: (bs s).drop (i + 1) := by
  have hl : i < (bs s).length := by rw [bs_size]; exact h
  rw [List.drop_eq_getElem_cons hl]
  congr 1
theorem in_l0 (s : ByteArray) (hs : s.size ≤ 1000) (c : UInt8) : ∀ (d i : Nat), i + d = s.size → ∀ k, d < k → conchref1_in.l0 k s (c.toNat : Int) (i : Int) = some (((bs s).drop i).contains c) := by
  intro d
  induction d with
  | zero =>
    intro i hi k hk
    obtain ⟨k, rfl⟩ : ∃ m, k = m + 1 := ⟨k - 1, by omega⟩
    simp only [conchref1_in.l0]
    rw [if_neg (by omega), List.drop_of_length_le (by rw [bs_size]; omega)]
    rfl
  | succ d ih =>
    intro i hi k hk
    obtain ⟨k, rfl⟩ : ∃ m, k = m + 1 := ⟨k - 1, by omega⟩
    have hlt : i < s.size := by omega
    simp only [conchref1_in.l0]
    rw [if_pos (by omega), if_pos (by omega), bt_nat s i hlt, drop_cons s i hlt, wrap_1 i (by omega), ih (i + 1) (by omega) k (by omega), List.contains_cons]
    by_cases e : s[i] = c
    · rw [if_pos (by rw [e]), e]; simp
    · have e2 : ¬ (s[i].toNat : Int) = (c.toNat : Int) := fun h => e (UInt8.toNat_inj.1 (by omega))
      rw [if_neg e2]
      have e3 : (c == s[i]) = false := by simpa using fun h => e h.symm
      rw [e3, Bool.false_or]
theorem in_f (s : ByteArray) (hs : s.size ≤ 1000) (c : UInt8) (k : Nat) (hk : s.size < k) : conchref1_in.f k s (c.toNat : Int) = some ((bs s).contains c) := by
  have := in_l0 s hs c s.size 0 (by omega) k hk
  rw [List.drop_zero] at this
  exact this

def gF (v t : ByteArray) : Nat → List ByteArray → Nat → Nat → List ByteArray
  | 0, acc, _, _ => acc
  | d + 1, acc, fr, i =>
    if (decide (i < v.size) && !(bs t).contains ((v[i]?).getD 0)) = true then gF v t d acc fr (i + 1)
    else gF v t d (if fr < i then acc ++ [v.extract fr i] else acc) (i + 1) (i + 1)

theorem fields_l0 (v t : ByteArray) (hv : v.size ≤ 100) (ht : t.size ≤ 100) : ∀ (d i : Nat) (acc : List ByteArray) (fr : Nat), i + d = v.size + 1 → fr ≤ i → acc.length ≤ i →
    ∀ k, 2 * d + t.size + 5 < k → conchref1_Fields.l0 k v t acc (fr : Int) (i : Int) = some (gF v t d acc fr i) := by
  intro d
  induction d with
  | zero =>
    intro i acc fr hi hf ha k hk
    obtain ⟨k, rfl⟩ : ∃ m, k = m + 1 := ⟨k - 1, by omega⟩
    simp only [conchref1_Fields.l0, gF]
    rw [if_neg (by omega)]
  | succ d ih =>
    intro i acc fr hi hf ha k hk
    obtain ⟨k, rfl⟩ : ∃ m, k = m + 2 := ⟨k - 2, by omega⟩
    have hile : i ≤ v.size := by omega
    have brk : ∀ kk, 2 * d + t.size + 5 < kk → conchref1_Fields.j1 (kk + 1) v t acc (fr : Int) (i : Int) false = some (gF v t d (if fr < i then acc ++ [v.extract fr i] else acc) (i + 1) (i + 1)) := by
      intro kk hkk
      simp only [conchref1_Fields.j1, Bool.false_eq_true, if_false, wrap_1 i (by omega)]
      by_cases h : fr < i
      · rw [if_pos (by omega), if_pos (by omega), if_pos (by omega), if_pos (by omega), if_pos (by omega), if_pos h]
        have e := ih (i + 1) (acc ++ [v.extract fr i]) (i + 1) (by omega) (by omega) (by simp; omega) kk hkk
        simpa using e
      · rw [if_neg (by omega), if_neg h]
        exact ih (i + 1) acc (i + 1) (by omega) (by omega) (by omega) kk hkk
    have go : ∀ kk, 2 * d + t.size + 5 < kk → conchref1_Fields.j1 (kk + 1) v t acc (fr : Int) (i : Int) true = some (gF v t d acc fr (i + 1)) := by
      intro kk hkk
      simp only [conchref1_Fields.j1, if_true, wrap_1 i (by omega)]
      exact ih (i + 1) acc fr (by omega) (by omega) (by omega) kk hkk
    have e0 : k + 2 = (k + 1) + 1 := rfl
    rw [e0]
    simp only [conchref1_Fields.l0]
    rw [if_pos (by omega)]
    by_cases hlt : i < v.size
    · have hg : v[i]? = some v[i] := by simp [hlt]
      rw [if_pos (by omega), if_pos (by omega), bt_nat v i hlt, in_f t (by omega) v[i] (k + 1) (by omega)]
      simp only [Option.bind_some]
      unfold gF
      rw [decide_eq_true hlt, hg, Option.getD_some, Bool.true_and]
      cases hc : (bs t).contains v[i] with
      | true => simp only [Bool.not_true, Bool.false_eq_true, if_false]; exact brk k (by omega)
      | false => simp only [Bool.not_false, if_true]; exact go k (by omega)
    · rw [if_neg (by omega)]
      unfold gF
      rw [decide_eq_false hlt, Bool.false_and]
      simp only [Bool.false_eq_true, if_false]
      exact brk k (by omega)

theorem gF_none (v t : ByteArray) (hn : ∀ b ∈ bs v, (bs t).contains b = false) : ∀ (d i : Nat) (acc : List ByteArray) (fr : Nat), i + d = v.size + 1 → 0 < d → gF v t d acc fr i = if fr < v.size then acc ++ [v.extract fr v.size] else acc := by
  intro d
  induction d with
  | zero => intro i acc fr _ h; omega
  | succ d ih =>
    intro i acc fr hi _
    unfold gF
    by_cases hlt : i < v.size
    · have hg : v[i]? = some v[i] := by simp [hlt]
      rw [decide_eq_true hlt, hg, Option.getD_some, hn _ (bs_get v i hlt)]
      simp only [Bool.not_false, Bool.and_true, if_true]
      exact ih (i + 1) acc fr (by omega) (by omega)
    · rw [decide_eq_false hlt, Bool.false_and]
      simp only [Bool.false_eq_true, if_false]
      obtain rfl : i = v.size := by omega
      obtain rfl : d = 0 := by omega
      rfl

/-- What Whole tells. -/
theorem whole_tells (v t : ByteArray) (hv : v.size ≤ 100) (ht : t.size ≤ 100) : ∃ r : Bool, Pure Try.prog 49 #[.string v, .string t] (.bool r) ∧ (r = false → v = tz ∨ ∃ b ∈ bs v, b ∈ bs t) := by
  have hf : conchref1_Fields.f 1000 v t = some (gF v t (v.size + 1) [] 0 0) := fields_l0 v t hv ht (v.size + 1) 0 [] 0 (by omega) (by omega) (by simp) 1000 (by omega)
  have key : ∃ r : Bool, conchref1_Whole.f 1000 v t = some r ∧ (r = false → v = tz ∨ ∃ b ∈ bs v, b ∈ bs t) := by
    unfold conchref1_Whole.f
    rw [hf]
    simp only [Option.bind_some]
    by_cases hn : ∀ b ∈ bs v, (bs t).contains b = false
    · by_cases hz : v = tz
      · split
        · rw [if_pos (by omega)]
          exact ⟨_, rfl, fun _ => .inl hz⟩
        · exact ⟨_, rfl, fun _ => .inl hz⟩
      · have hs : 0 < v.size := by
          rcases Nat.eq_zero_or_pos v.size with h | h
          · exfalso
            apply hz
            apply bs_nil.1
            apply List.eq_nil_of_length_eq_zero
            rw [bs_size]; exact h
          · exact h
        have e := gF_none v t hn (v.size + 1) 0 [] 0 (by omega) (by omega)
        rw [if_pos hs] at e
        have e2 : v.extract 0 v.size = v := ByteArray.extract_zero_size
        rw [e2] at e
        refine ⟨true, ?_, fun h => by cases h⟩
        rw [e]
        simp [rdOf]
    · have : ∃ b ∈ bs v, b ∈ bs t := by
        apply Classical.byContradiction
        intro h
        apply hn
        intro b hb
        cases hc : (bs t).contains b with
        | false => rfl
        | true => exact absurd ⟨b, hb, by simpa using hc⟩ h
      split
      · rw [if_pos (by omega)]
        exact ⟨_, rfl, fun _ => .inr this⟩
      · exact ⟨_, rfl, fun _ => .inr this⟩
  obtain ⟨r, h1, h2⟩ := key
  exact ⟨r, fun w => conchref1_Whole.calls 1000 v t r w h1, h2⟩
end Go.Proofs.Ytlbonbkaddeeeaa

set_option linter.unusedSimpArgs false
set_option linter.unusedVariables false
namespace Go.Conch
open Go.RowKit Go.Proofs.Ytlbonbkaddeeeaa
/-- Whether a pattern's byte stands among the first n. -/
def globs (s : ByteArray) : Nat → Bool
  | 0 => false
  | n + 1 => globs s n || ((s[n]?).getD 0 == 42 || ((s[n]?).getD 0 == 63 || (s[n]?).getD 0 == 91))
theorem globs_has (s : ByteArray) : ∀ n, n ≤ s.size → globs s n = true → ∃ b ∈ bs s, globsS.mem b.toNat = true
  | 0, _, h => by cases h
  | n + 1, hn, h => by
    have hlt : n < s.size := hn
    have e : s[n]? = some s[n] := by simp [hlt]
    simp only [globs, Bool.or_eq_true, e, Option.getD_some, beq_iff_eq] at h
    rcases h with h | h | h | h
    · exact globs_has s n (Nat.le_of_lt hlt) h
    all_goals exact ⟨s[n], bs_get s n hlt, by rw [h]; decide +kernel⟩
end Go.Conch
namespace Go.Proofs.Ytlbonbkaddeeeaa
open Go.RowKit Go.Eng Go.Conch Go.Ev

theorem byte_is {v : ByteArray} (n : Nat) (hn : n < v.size) (c : UInt8) (m : Int) (hm : (c.toNat : Int) = m) : decide ((v[n].toNat : Int) = m) = ((v[n]?).getD 0 == c) := by
  have e : v[n]? = some v[n] := by simp [hn]
  rw [e, Option.getD_some, Bool.eq_iff_iff, decide_eq_true_iff, beq_iff_eq, ← hm]
  constructor
  · intro h; exact UInt8.toNat_inj.1 (by omega)
  · intro h; rw [h]

def blanksT : ByteArray := ⟨#[32, 9, 10]⟩
section
variable {w : World} (a f x y : Sh) (v t : ByteArray) (i : Bool) (pa : Pure Try.prog 48 #[a.val] x.val) (pf : Pure Try.prog 35 #[f.val] y.val)
  (h1 : decide ((100 : Int) < (v.size : Int)) = false) (h2 : decide ((100 : Int) < (t.size : Int)) = false)
  (m1 : Pure Try.prog 37 #[x.val, .bool true, .string v] (.bool true)) (m2 : Pure Try.prog 37 #[y.val, .bool i, .string t] (.bool true))
def slots10 : List Nat := [43, 44, 45, 46, 47, 48, 49, 50, 51, 52, 53, 54, 55, 56, 57, 58, 59, 60, 61, 62, 63, 64, 65, 66, 67]
noncomputable def at10 : Option (Code × Tm) := stopAt Try.prog 10 [a.val, f.val, .string v, .string t, .bool i]
  ([(16, C pa), (18, C pf), (21, GT .i64 3 v.size 100 h1), (25, GT .i64 3 t.size 100 h2), (30, C m1), (37, C m2)] : Items Try.prog w)
noncomputable def state10 (n : Nat) (g : Bool) : Tm := setsTm (forget slots10 (tmOf (at10 (w := w) a f x y v t i pa pf h1 h2 m1 m2))) [(14, .v (.int .i64 (n : Int))), (13, .v (.bool g))]
noncomputable def round10 (n : Nat) (hn : n < v.size) (hs : v.size ≤ 100) (b1 b2 b3 : Bool) (e1 : decide ((v[n].toNat : Int) = 42) = b1) (e2 : decide ((v[n].toNat : Int) = 63) = b2) (e3 : decide ((v[n].toNat : Int) = 91) = b3) : Items Try.prog w :=
  [(46, LT .i64 3 n v.size (in_size hn)), (53, IX v n hn), (54, EI .u8 5 (v[n].toNat : Int) 42 e1), (59, IX v n hn), (60, EI .u8 5 (v[n].toNat : Int) 63 e2), (65, IX v n hn), (66, EI .u8 5 (v[n].toNat : Int) 91 e3),
    (48, PI .i64 3 n 1 ((n + 1 : Nat) : Int) (wrap_up n (by omega)))]
theorem goes10 (n : Nat) (hn : n < v.size) (hs : v.size ≤ 100) (g b1 b2 b3 : Bool) (e1 : decide ((v[n].toNat : Int) = 42) = b1) (e2 : decide ((v[n].toNat : Int) = 63) = b2) (e3 : decide ((v[n].toNat : Int) = 91) = b3) :
    Go.Ev.ask (runC Try.prog 100 (loopOf (at10 (w := w) a f x y v t i pa pf h1 h2 m1 m2)) ⟨state10 (w := w) a f x y v t i pa pf h1 h2 m1 m2 n g, round10 (w := w) v n hn hs b1 b2 b3 e1 e2 e3, []⟩) slots10 =
      Go.Ev.told (runC Try.prog 100 (loopOf (at10 (w := w) a f x y v t i pa pf h1 h2 m1 m2)) ⟨state10 (w := w) a f x y v t i pa pf h1 h2 m1 m2 n g, round10 (w := w) v n hn hs b1 b2 b3 e1 e2 e3, []⟩) .normal
        (state10 (w := w) a f x y v t i pa pf h1 h2 m1 m2 (n + 1) (g || (b1 || (b2 || b3)))) := by
  cases i <;> cases g <;> cases b1 <;> cases b2 <;> cases b3 <;> as_aux_lemma => kernel_rfl
noncomputable def all10 (hs : v.size ≤ 100) (g : Bool) (hg : globs v v.size = g) : Rounds Try.prog w 100 (loopOf (at10 (w := w) a f x y v t i pa pf h1 h2 m1 m2)) (tmOf (at10 (w := w) a f x y v t i pa pf h1 h2 m1 m2)) where
  N := v.size
  S := fun n => state10 (w := w) a f x y v t i pa pf h1 h2 m1 m2 n (globs v n)
  F := state10 (w := w) a f x y v t i pa pf h1 h2 m1 m2 v.size g
  fin := by rw [hg]
  its := fun n hn => round10 v n hn hs _ _ _ (byte_is n hn 42 42 rfl) (byte_is n hn 63 63 rfl) (byte_is n hn 91 91 rfl)
  itl := [(46, LT .i64 3 v.size v.size (c := false) (decide_eq_false (by omega)))]
  h0 := slots10
  hs := slots10
  he := []
  start := by cases i <;> kernel_rfl
  round := fun n hn => goes10 a f x y v t i pa pf h1 h2 m1 m2 n hn hs (globs v n) _ _ _ (byte_is n hn 42 42 rfl) (byte_is n hn 63 63 rfl) (byte_is n hn 91 91 rfl)
  leaves := by cases i <;> kernel_rfl
  last := by cases i <;> kernel_rfl
end

set_option maxRecDepth 100000 in
theorem altersplits_pure (a : Sh) (ha : a.lit.size ≤ 9223372036854775807) (f : Sh) (hf : f.lit.size ≤ 9223372036854775807) (v : ByteArray) (hv : v.size ≤ 9223372036854775807) (t : ByteArray) (ht : t.size ≤ 9223372036854775807) (i : Bool) :
    Pure Try.prog 10 #[a.val, f.val, .string v, .string t, .bool i] (.bool true) := by
  have pa := lawset_pure a ha
  have pf := tame_pure f hf
  have ox := ok_setU a
  have oy := ok_tame f
  generalize setU a = x at *
  generalize tameS f = y at *
  have z2 := ok_size oy
  by_cases hmain : decide ((100 : Int) < (v.size : Int)) = false ∧ decide ((100 : Int) < (t.size : Int)) = false ∧ x.may true v = true ∧ y.may i t = true
  · obtain ⟨h1, h2, e30, e37⟩ := hmain
    have hs : v.size ≤ 100 := by have := of_decide_eq_false h1; omega
    have ht9 : t.size ≤ 100 := by have := of_decide_eq_false h2; omega
    have m1 := may_pure x true v hv
    have m2 := may_pure y i t ht
    rw [e30] at m1
    rw [e37] at m2
    have hby : (if i then t else blanksT).size ≤ 100 := by
      cases i
      · exact (by decide : blanksT.size ≤ 100)
      · exact ht9
    obtain ⟨r, pw, hr⟩ := whole_tells v (if i then t else blanksT) hs hby
    generalize hg : globs v v.size = g
    have e74 : splitS x y = (!r || splitS x y) := by
      cases r with
      | true => rfl
      | false =>
        have h9 : splitS x y = true := sound_split ox oy e30 e37 (by
          rcases hr rfl with h | ⟨b, hb, hb2⟩
          · exact .inl h
          · refine .inr ⟨b, hb, ?_⟩
            cases i
            · exact hb2
            · exact hb2)
        rw [h9]; rfl
    have e81 : globS x = (g || globS x) := by
      cases g with
      | false => rfl
      | true =>
        obtain ⟨b, hb, hb2⟩ := globs_has v _ (Nat.le_refl _) hg
        rw [sound_glob ox e30 hb hb2]; rfl
    have ps := maysplit_pure x y (by omega)
    have pg := mayglob_pure x
    refine pure_of_run mixed 100 (fun w => [(16, C pa), (18, C pf), (21, GT .i64 3 v.size 100 h1), (25, GT .i64 3 t.size 100 h2), (30, C m1), (37, C m2),
      (1000000, (all10 a f x y v t i pa pf h1 h2 m1 m2 hs g hg).item mixed), (70, C pw), (74, CB ps e74), (81, CB pg e81), (85, C awake5_pure)]) fun w => ?_
    cases i <;> cases r <;> cases g <;> as_aux_lemma => kernel_rfl
  · have m1 := may_pure x true v hv
    have m2 := may_pure y i t ht
    generalize h1 : decide ((100 : Int) < (v.size : Int)) = g1 at *
    generalize h2 : decide ((100 : Int) < (t.size : Int)) = g2 at *
    generalize x.may true v = g3 at *
    generalize y.may i t = g4 at *
    refine pure_of_run mixed 100 (fun w => [(16, C pa), (18, C pf), (21, GT .i64 3 v.size 100 h1), (25, GT .i64 3 t.size 100 h2), (30, C m1), (37, C m2), (40, C awake5_pure)]) fun w => ?_
    cases g1 <;> cases g2 <;> cases g3 <;> cases g4
    all_goals first
      | exact absurd ⟨rfl, rfl, rfl, rfl⟩ hmain
      | kernel_rfl
end Go.Proofs.Ytlbonbkaddeeeaa

namespace Go.Proofs.Ytlbonbkaddeeeaa
open Go.ChangeShapes Go.WideShapes Go.ChangeAt Go.RowKit Go.Conch Go.Eng
open Go.ChangeMaps (open_string)
set_option linter.unusedSimpArgs false
set_option linter.unusedVariables false

set_option maxRecDepth 100000 in
theorem alterSplits_lifted (os : Os) (started : os.Started) (H : Type) (enc : TypeId × Value → H) :
    ReturnsInHanded {} Try.checked os 10 .any (Rows.alterSplitsSpec.pre6 enc Try.prog Try.f10 Rows.alterSplitsRow.domain false) (Rows.alterSplitsSpec.post enc Try.prog Try.f10 false true false false) := by
  refine returnsInHanded_of_change (C := Try.checked) Try.own started (by kernel_rfl) Try.func10
    (ChangeSpec.witness6 (enc := enc) (C := Try.checked) false ⟨#[], #[.agg #[.bool false, .bool false, .int .u64 0, .int .u64 0, .int .u64 0, .int .u64 0, .bool false, .string .empty], .agg #[.bool false, .bool false, .int .u64 0, .int .u64 0, .int .u64 0, .int .u64 0, .bool false, .string .empty], .string .empty, .string .empty, .bool false], []⟩ 8 (by kernel_rfl) (by kernel_rfl) (by kernel_rfl) (by kernel_rfl)) ?_
  intro W base args ds gs before hval0 hW hcnd _
  have hval : ∀ (j : Nat) t v, Try.f10.params[j]? = some t → args[j]? = some v → Value.okWide Try.prog W .any base t v := hval0
  have hW' := hW
  obtain ⟨p, q, hA0, hV, rfl, hfz, hnd⟩ := hW
  have hA : DataW.TrodAll enc Try.prog W 0 (fun _ => true) true Try.f10.params.toList args.toList ds p := hA0
  rw [Try.params10] at hA hval
  obtain ⟨v0, vs0, d0, ds0, p0, q0, hargs, rfl, rfl, h0, r0⟩ := trodAll_cons hA
  obtain ⟨v1, vs1, d1, ds1, p1, q1, rfl, rfl, rfl, h1, r1⟩ := trodAll_cons r0
  obtain ⟨v2, vs2, d2, ds2, p2, q2, rfl, rfl, rfl, h2, r2⟩ := trodAll_cons r1
  obtain ⟨v3, vs3, d3, ds3, p3, q3, rfl, rfl, rfl, h3, r3⟩ := trodAll_cons r2
  obtain ⟨v4, vs4, d4, ds4, p4, q4, rfl, rfl, rfl, h4, r4⟩ := trodAll_cons r3
  obtain ⟨rfl, rfl, rfl⟩ := trodAll_nil r4
  obtain rfl : args = #[v0, v1, v2, v3, v4] := by cases args; simp_all
  obtain ⟨rfl, rfl⟩ := trodVars_none hV
  obtain ⟨a0, rfl, w0⟩ := open_shape (hval 0 39 v0 rfl rfl) h0
  unfold maxLen at w0
  obtain ⟨a1, rfl, w1⟩ := open_shape (hval 1 39 v1 rfl rfl) h1
  unfold maxLen at w1
  obtain ⟨a2, rfl, -, -, w2⟩ := open_string Try.underlying9 (hval 2 9 v2 rfl rfl) h2
  unfold maxLen at w2
  obtain ⟨a3, rfl, -, -, w3⟩ := open_string Try.underlying9 (hval 3 9 v3 rfl rfl) h3
  unfold maxLen at w3
  obtain ⟨a4, rfl, -, -⟩ := open_bool Try.underlying4 (hval 4 4 v4 rfl rfl) h4
  refine (altersplits_pure a0 (by omega) a1 (by omega) a2 (by omega) a3 (by omega) a4 W).mono fun e W' ⟨he, hb⟩ => ?_
  subst he
  exact ⟨_, rfl, law_post (tb := 4) Try.laidOut (by kernel_rfl) rfl (by kernel_rfl) Try.underlying4 hW' rfl hb⟩

theorem alterSplits_holds : Rows.AlterSplitsSaid :=
  OpenClaim.holds_of_wide 10 Try.f10 rfl rfl rfl rfl rfl rfl rfl ⟨rfl, rfl, rfl, rfl, rfl⟩ rfl rfl rfl rfl rfl (by kernel_rfl) Try.func10 (by kernel_rfl)
    (of_decide_eq_true (by kernel_rfl)) (by unfold Func.isWrapper; first | (rw [if_pos (by decide +kernel)]; kernel_rfl) | (rw [if_neg (by decide +kernel)]; exact ⟨rfl, rfl⟩))
    (fun os started H enc _ => alterSplits_lifted os started H enc)
#print axioms alterSplits_holds
end Go.Proofs.Ytlbonbkaddeeeaa
