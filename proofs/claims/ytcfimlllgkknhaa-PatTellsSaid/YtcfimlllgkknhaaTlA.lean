import Derived.Test.YtcfimlllgkknhaaEvAll
import Derived.Test.YtcfimlllgkknhaaPPatTellsx7
import Derived.Test.YtcfimlllgkknhaaPPatTellsx9
import Derived.Test.YtcfimlllgkknhaaPPatTellsx10
import Derived.Test.YtcfimlllgkknhaaPPatTellsx11
import Derived.Test.YtcfimlllgkknhaaPPatTellsx12
import Derived.BigRegion
import Derived.ChangeAlike
import Derived.Laws.NewBlocks
import Derived.LoopN
set_option linter.unusedSimpArgs false
set_option linter.unusedVariables false
namespace Go.Ev
/-- A state of which some slots alone are known. -/
def sparse (n : Nat) (known : List (Nat × SV)) (heap : List Blk) : Tm := ⟨(List.range n).map (fun t => ((known.find? (fun p => p.1 == t)).map (·.2)).getD .no), heap⟩
theorem Rep.sparse {w0 W : World} {ν : Nat → Nat} {n : Nat} {known : List (Nat × SV)} {heap : List Blk} {A : Act} (hz : A.tmps.size = n) (hd : A.defers = []) (hk : ∀ p ∈ known, A.tmps[p.1]? = some (p.2.to ν)) (wf : ∀ p ∈ known, p.2.lt heap.length)
    (hb : RowKit.Below w0.heap.size w0 W) (hh : HeapOk ν heap W) (new : ∀ (j : Nat) (b : Blk), heap[j]? = some b → b.own = true → w0.heap.size ≤ ν j) (inj : ∀ i j, i < heap.length → j < heap.length → ν i = ν j → i = j) : Rep w0 ν (sparse n known heap) A W := by
  refine ⟨by simp [Go.Ev.sparse, hz], fun t s hs => ?_, hd, hb, hh, new, inj, fun s hs => ?_⟩
  · unfold Go.Ev.sparse at hs
    simp only [List.getElem?_map] at hs
    obtain ⟨t', ht', rfl⟩ := Option.map_eq_some_iff.1 hs
    have htn : t < n := by
      have := (List.getElem?_eq_some_iff.1 ht').1
      simpa using this
    rw [List.getElem?_range htn] at ht'
    cases ht'
    cases hf : known.find? (fun p => p.1 == t) with
    | none =>
      refine ⟨A.tmps[t], Array.getElem?_eq_getElem (by omega), fun h => ?_⟩
      simp [SV.known] at h
    | some p =>
      have h1 := List.find?_some hf
      have h2 := List.mem_of_find?_eq_some hf
      have h3 : p.1 = t := by simpa using h1
      have h4 := hk p h2
      rw [h3] at h4
      exact ⟨_, h4, fun _ => rfl⟩
  · unfold Go.Ev.sparse at hs
    obtain ⟨t, -, rfl⟩ := List.mem_map.1 hs
    cases hf : known.find? (fun p => p.1 == t) with
    | none => trivial
    | some p => exact wf p (List.mem_of_find?_eq_some hf)
/-- A slot that is known. -/
theorem Rep.slot {w0 W : World} {ν : Nat → Nat} {st : Tm} {A : Act} (R : Rep w0 ν st A W) (t : Nat) (s : SV) (h : st.tmps[t]? = some s) (hk : s.known = true) : A.tmps[t]? = some (s.to ν) := by
  obtain ⟨u, hu, hs⟩ := R.tmps t s h
  rw [hu, hs hk]
/-- A piece of code, run. -/
theorem wp_piece {P : Program} {w0 : World} (hm : P.follows .mixedOrders = true) {fuel : Nat} {c : Code} {tm tm' : Tm} {its : Items P w0} {hs : List Nat} {e : XExit} (he : e.runs) (h : Ends P fuel c tm its hs e tm') {ν : Nat → Nat} {a : Act} {W : World} {Q : Exit → Act → World → Prop}
    (R : Rep w0 ν tm a W) (hK : ∀ ν' a' W', Ext tm.heap.length ν ν' → Rep w0 ν' tm' a' W' → Q e.to a' W') : c.wp P Q a W := (leads_of_ends hm he h).2 R hK
end Go.Ev
namespace Go.Proofs.Ytcfimlllgkknhaa
open Go.RowKit Go.Eng Go.Ev Go.Proofs.YtcfimlllgkknhaaW.PrintWords Go.Proofs.Ytcfimlllgkknhaa.PPatTells

section
variable {W : World} {s : ByteArray} {A : Option Addr} {c : Nat} {l : List Bool} (hC : Kd.C Kd.bool W A l.length l) (hc : l.length ≤ c)
theorem match_at {t : ByteArray} {r : Bool} (hC : Kd.C Kd.bool W A l.length l) (hc : l.length ≤ c) (h : ∃ k, pat_Match.f k s l t = some r) : PureAt Try.prog W 10 #[.agg #[.string s, .slice A l.length c], .string t] (.bool r) := fun x => by
  obtain ⟨k, hk⟩ := h
  exact pat_Match.calls k s A c l t r _ (Kd.C_below hC (later_below W x)) hc hk
theorem rmatch_at {t : ByteArray} {r : Bool} (hC : Kd.C Kd.bool W A l.length l) (hc : l.length ≤ c) (h : ∃ k, conchref1_Match.f k s l t = some r) : PureAt Try.prog W 12 #[.agg #[.string s, .slice A l.length c], .string t] (.bool r) := fun x => by
  obtain ⟨k, hk⟩ := h
  exact conchref1_Match.calls k s A c l t r _ (Kd.C_below hC (later_below W x)) hc hk
theorem active_at {r : Bool} (hC : Kd.C Kd.bool W A l.length l) (hc : l.length ≤ c) (h : ∃ k, pat_Active.f k s l = some r) : PureAt Try.prog W 11 #[.agg #[.string s, .slice A l.length c]] (.bool r) := fun x => by
  obtain ⟨k, hk⟩ := h
  exact pat_Active.calls k s A c l r _ (Kd.C_below hC (later_below W x)) hc hk
theorem ractive_at {r : Bool} (hC : Kd.C Kd.bool W A l.length l) (hc : l.length ≤ c) (h : ∃ k, conchref1_Active.f k s l = some r) : PureAt Try.prog W 13 #[.agg #[.string s, .slice A l.length c]] (.bool r) := fun x => by
  obtain ⟨k, hk⟩ := h
  exact conchref1_Active.calls k s A c l r _ (Kd.C_below hC (later_below W x)) hc hk
theorem cut_at {t : ByteArray} {front long : Bool} {r : ByteArray} (hC : Kd.C Kd.bool W A l.length l) (hc : l.length ≤ c) (h : ∃ k, pat_Cut.f k s l t front long = some r) : PureAt Try.prog W 14 #[.agg #[.string s, .slice A l.length c], .string t, .bool front, .bool long] (.string r) := fun x => by
  obtain ⟨k, hk⟩ := h
  exact pat_Cut.calls k s A c l t front long r _ (Kd.C_below hC (later_below W x)) hc hk
theorem rcut_at {t : ByteArray} {front long : Bool} {r : ByteArray} (hC : Kd.C Kd.bool W A l.length l) (hc : l.length ≤ c) (h : ∃ k, conchref1_Cut.f k s l t front long = some r) : PureAt Try.prog W 15 #[.agg #[.string s, .slice A l.length c], .string t, .bool front, .bool long] (.string r) := fun x => by
  obtain ⟨k, hk⟩ := h
  exact conchref1_Cut.calls k s A c l t front long r _ (Kd.C_below hC (later_below W x)) hc hk
theorem awake_at (h : ∃ k, conchlaw6_awake.f k = some true) : PureAt Try.prog W 9 #[] (.bool true) := fun x => by
  obtain ⟨k, hk⟩ := h
  exact conchlaw6_awake.calls k true _ hk
theorem tame_at {r : ByteArray} (h : ∃ k, conchlaw6_Tame.f k s = some r) : PureAt Try.prog W 16 #[.string s] (.string r) := fun x => by
  obtain ⟨k, hk⟩ := h
  exact (conchlaw6_Tame.calls k s r _ hk).mono fun e w' ⟨h1, h2⟩ => ⟨h1, h2.below⟩
theorem letters_at {r : ByteArray} (h : ∃ k, conchlaw6_letters.f k s = some r) : PureAt Try.prog W 17 #[.string s] (.string r) := fun x => by
  obtain ⟨k, hk⟩ := h
  exact (conchlaw6_letters.calls k s r _ hk).mono fun e w' ⟨h1, h2⟩ => ⟨h1, h2.below⟩
end

noncomputable def body4 (n : Nat) : Code := Ev.spine n (bodyOf Try.prog 4)
noncomputable def loop4 : Code := match body4 2 with
  | .seq (.seq _ (.block _ (.loop b))) _ => b
  | _ => .skip
noncomputable def r3 : Code := match body4 2 with
  | .seq (.seq a _) _ => a
  | _ => .skip
noncomputable def end4 : Code := match body4 2 with
  | .seq _ b => b
  | _ => .skip
noncomputable def cA : Code := match loop4 with
  | .seq a _ => a
  | _ => .skip
noncomputable def p0 : Code := match loop4 with
  | .seq _ (.seq (.block _ (.seq a _)) _) => a
  | _ => .skip
noncomputable def r8 : Code := match loop4 with
  | .seq _ (.seq (.block _ (.seq _ (.seq a _))) _) => a
  | _ => .skip
noncomputable def r9 : Code := match loop4 with
  | .seq _ (.seq (.block _ (.seq _ (.seq _ (.seq a _)))) _) => a
  | _ => .skip
noncomputable def r10 : Code := match loop4 with
  | .seq _ (.seq (.block _ (.seq _ (.seq _ (.seq _ (.cond _ a _))))) _) => a
  | _ => .skip
noncomputable def r5 : Code := match loop4 with
  | .seq _ (.seq _ a) => a
  | _ => .skip
theorem loop4_is : loop4 = .seq cA (.seq (.block 1 (.seq p0 (.seq r8 (.seq r9 (.cond (.tmp 64) r10 .skip))))) r5) := by kernel_rfl
theorem body4_is : body4 2 = .seq (.seq r3 (.block 0 (.loop loop4))) end4 := by kernel_rfl

def no (n : Nat) : List SV := List.replicate n .no
def tmT (own : Bool) (s t : ByteArray) (A : Option Addr) (n c : Nat) (fr lg : Bool) (i : SV) : Tm :=
  ⟨[.no, .v (.string t), .v (.bool fr), .v (.bool lg), .p 0 0, .no, .no, .no, .no, i] ++ no 59, [⟨[.string s, .slice A n c], 25, own⟩]⟩
def iN (n : Nat) : SV := .v (.int .i64 (n : Int))
def ran (a n : Nat) : List Nat := (List.range n).map (· + a)

section
variable {w : World} (own : Bool) (s t : ByteArray) (A : Option Addr) (n c : Nat) (fr lg : Bool)
theorem run3 : Go.Ev.Ends Try.prog 10 r3 (tmT own s t A n c fr lg .no) ([] : Items Try.prog w) [] .normal (tmT own s t A n c fr lg (iN 0)) := by unfold Go.Ev.Ends; kernel_rfl
theorem runA (i : Nat) (hi : i < 3) : Go.Ev.Ends Try.prog 10 cA (tmT own s t A n c fr lg (iN i)) ([(27, LT .i64 3 (i : Int) 3 (c := true) (decide_eq_true (by omega)))] : Items Try.prog w) (ran 26 2) .normal (tmT own s t A n c fr lg (iN i)) := by unfold Go.Ev.Ends; kernel_rfl
theorem runX : Go.Ev.Ends Try.prog 10 cA (tmT own s t A n c fr lg (iN 3)) ([(27, LT .i64 3 ((3 : Nat) : Int) 3 (c := false) (decide_eq_false (by omega)))] : Items Try.prog w) (ran 26 2) (.exit 0) (tmT own s t A n c fr lg (iN 3)) := by unfold Go.Ev.Ends; kernel_rfl
theorem run8 (s' t' : ByteArray) (h1 : ∃ k, conchlaw6_Tame.f k s = some s') (h2 : ∃ k, conchlaw6_letters.f k t = some t') (i : SV) :
    Go.Ev.Ends Try.prog 10 r8 (tmT true s t A n c fr lg i) ([(59, C (tame_at h1)), (61, C (letters_at h2))] : Items Try.prog w) (ran 57 6) .normal (tmT true s' t' A n c fr lg i) := by unfold Go.Ev.Ends; kernel_rfl
theorem run9 (i : Nat) (hi : i ≠ 1) : Go.Ev.Ends Try.prog 10 (.seq r9 (.cond (.tmp 64) r10 .skip)) (tmT own s t A n c fr lg (iN i)) ([(64, EI .i64 3 (i : Int) 1 (c := false) (decide_eq_false (by omega)))] : Items Try.prog w) (ran 63 2) .normal (tmT own s t A n c fr lg (iN i)) := by unfold Go.Ev.Ends; kernel_rfl
def tm9 (s t : ByteArray) (A : Option Addr) (n c : Nat) (fr lg : Bool) : Tm :=
  ⟨[.no, .v (.string t), .v (.bool fr), .v (.bool lg), .p 0 0, .no, .no, .no, .no, iN 1] ++ no 54 ++ [.v (.bool true)] ++ no 4, [⟨[.string s, .slice A n c], 25, true⟩]⟩
theorem run9' : Go.Ev.Ends Try.prog 10 r9 (tmT true s t A n c fr lg (iN 1)) ([(64, EI .i64 3 ((1 : Nat) : Int) 1 (c := true) (decide_eq_true (by omega)))] : Items Try.prog w) (ran 63 1) .normal (tm9 s t A n c fr lg) := by unfold Go.Ev.Ends; kernel_rfl
theorem run5 (i : Nat) (hi : i < 3) : Go.Ev.Ends Try.prog 10 r5 (tmT own s t A n c fr lg (iN i)) ([(29, PI .i64 3 (i : Int) 1 ((i + 1 : Nat) : Int) (by rw [IntKind.wrap_i64]; omega))] : Items Try.prog w) (ran 28 2) .normal (tmT own s t A n c fr lg (iN (i + 1))) := by unfold Go.Ev.Ends; kernel_rfl
end
theorem run6 {W : World} {s t : ByteArray} {A : Option Addr} {L : List Bool} {c : Nat} {fr lg : Bool} {m a : Bool} {r : ByteArray} (hC : Kd.C Kd.bool W A L.length L) (hc : L.length ≤ c) (i : SV)
    (m1 : ∃ k, pat_Match.f k s L t = some m) (m2 : ∃ k, conchref1_Match.f k s L t = some m) (a1 : ∃ k, pat_Active.f k s L = some a) (a2 : ∃ k, conchref1_Active.f k s L = some a) (c1 : ∃ k, pat_Cut.f k s L t fr lg = some r) (c2 : ∃ k, conchref1_Cut.f k s L t fr lg = some r) :
    Go.Ev.Ends Try.prog 10 p0 (tmT false s t A L.length c fr lg i) ([(32, C (match_at hC hc m1)), (35, C (rmatch_at hC hc m2)), (36, NB m m (same _)), (39, C (active_at hC hc a1)), (41, C (ractive_at hC hc a2)), (42, NB a a (same _)),
      (49, C (cut_at hC hc c1)), (54, C (rcut_at hC hc c2)), (55, NS r r (same _))] : Items Try.prog W) (ran 30 27) .normal (tmT false s t A L.length c fr lg i) := by unfold Go.Ev.Ends; kernel_rfl
end Go.Proofs.Ytcfimlllgkknhaa

