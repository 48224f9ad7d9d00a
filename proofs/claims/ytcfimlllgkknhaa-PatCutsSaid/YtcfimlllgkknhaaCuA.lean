/-
  PatCuts, walked up to where the pattern and the text stand.
-/
import Derived.Test.YtcfimlllgkknhaaSp
import Derived.Test.YtcfimlllgkknhaaPPatCutsx8
import Derived.Test.YtcfimlllgkknhaaPPatCutsx7
import Derived.BigRegion
import Derived.ChangeAlike
import Derived.Laws.NewBlocks
set_option linter.unusedSimpArgs false
set_option linter.unusedVariables false
namespace Go.Ev
/-- The first n parts of a body, with other code behind them. -/
def front : Nat → Code → Code → Code
  | 0, _, r => r
  | n + 1, .seq a b, r => .seq a (front n b r)
  | _ + 1, c, _ => c
/-- A state of which some slots alone are known. -/
def sparse (n : Nat) (known : List (Nat × SV)) (heap : List Blk) : Tm := ⟨(List.range n).map (fun t => ((known.find? (fun p => p.1 == t)).map (·.2)).getD .no), heap⟩
theorem Rep.sparse {w0 : World} {ν : Nat → Nat} {n : Nat} {known : List (Nat × SV)} {heap : List Blk} {A : Act} (hz : A.tmps.size = n) (hd : A.defers = []) (hk : ∀ p ∈ known, A.tmps[p.1]? = some (p.2.to ν)) (wf : ∀ p ∈ known, p.2.lt heap.length)
    (hh : HeapOk ν heap w0) (new : heap.all (fun b => !b.own) = true) (inj : ∀ i j, i < heap.length → j < heap.length → ν i = ν j → i = j) : Rep w0 ν (sparse n known heap) A w0 := by
  refine ⟨by simp [Go.Ev.sparse, hz], fun t s hs => ?_, hd, RowKit.Below.refl _ _, hh, fun j b hj ho => ?_, inj, fun s hs => ?_⟩
  · unfold Go.Ev.sparse at hs
    simp only [List.getElem?_map] at hs
    obtain ⟨t', ht', rfl⟩ := Option.map_eq_some_iff.1 hs
    have htn : t < n := by
      have := (List.getElem?_eq_some_iff.1 ht').1
      simpa using this
    rw [List.getElem?_range htn] at ht'
    cases ht'
    cases hf : known.find? (fun p => p.1 == t) with
    | none =>
      refine ⟨A.tmps[t], Array.getElem?_eq_getElem (by omega), fun h => ?_⟩
      simp [SV.known] at h
    | some p =>
      have h1 := List.find?_some hf
      have h2 := List.mem_of_find?_eq_some hf
      have h3 : p.1 = t := by simpa using h1
      have h4 := hk p h2
      rw [h3] at h4
      exact ⟨_, h4, fun _ => rfl⟩
  · have := List.all_eq_true.1 new b (List.mem_of_getElem? hj)
    simp [ho] at this
  · unfold Go.Ev.sparse at hs
    obtain ⟨t, -, rfl⟩ := List.mem_map.1 hs
    cases hf : known.find? (fun p => p.1 == t) with
    | none => trivial
    | some p => exact wf p (List.mem_of_find?_eq_some hf)
end Go.Ev
namespace Go.Proofs.Ytcfimlllgkknhaa
open Go.RowKit Go.Eng Go.Ev Go.Proofs.YtcfimlllgkknhaaW.PrintWords Go.Proofs.Ytcfimlllgkknhaa.PPatCuts

/-- The pattern's cells, and its row of what is live. -/
structure Mem (w W : World) (gp : Nat) (Ao : Option Addr) (co : Nat) (sp : ByteArray) (L : List Bool) : Prop where
  hp : W.heap[gp]? = some (.cells #[.string sp, .slice Ao L.length co] 25 (0, 0))
  hC : Kd.C Kd.bool W Ao L.length L
  cap : L.length ≤ co
  below : Below w.heap.size w W
/-- What is left behind region 3. -/
def Rest3 (w : World) (raw t sp st : ByteArray) (L : List Bool) : Prop :=
  ∀ (gp : Nat) (Ao : Option Addr) (co : Nat) (W : World) (A : Act), Mem w W gp Ao co sp L → A.tmps.size = 242 → A.defers = [] → A.tmps[5]? = some (.pointer (some ⟨gp, 0, none⟩)) → A.tmps[6]? = some (.string st) →
    (Ev.spine 3 (bodyOf Try.prog 6)).wp Try.prog (bodyPost Try.prog Try.f6 fun e w' => e = .returned (.bool true) ∧ Below w.heap.size w w') A W
set_option maxHeartbeats 4000000 in
set_option maxRecDepth 100000 in
theorem region3 (raw t sp st : ByteArray) (hr : raw.size ≤ 60) (ht : t.size ≤ 60) (L : List Bool) (e1 : ∃ k, conchlaw6_Tame.f k raw = some sp) (e2 : ∃ k, conchlaw6_letters.f k t = some st) (e3 : ∃ k, pat_Raw.f k sp = some (sp, L)) (w : World)
    (K : Rest3 w raw t sp st L) : Calls Try.prog 6 #[.string raw, .string t] w fun e w' => e = .returned (.bool true) ∧ Below w.heap.size w w' := by
  obtain ⟨k1, e1⟩ := e1
  obtain ⟨k2, e2⟩ := e2
  obtain ⟨k3, e3⟩ := e3
  unfold Rest3 at K
  have hf : bodyOf Try.prog 6 = front 3 (bodyOf Try.prog 6) (Ev.spine 3 (bodyOf Try.prog 6)) := by kernel_rfl
  generalize Ev.spine 3 (bodyOf Try.prog 6) = cr at K hf
  have hf2 : Try.f6.body = some (front 3 (bodyOf Try.prog 6) cr) := by rw [← hf]; kernel_rfl
  have key : ∀ c, Try.f6.body = some c → (front 3 c cr).wp Try.prog (bodyPost Try.prog Try.f6 fun e w' => e = .returned (.bool true) ∧ Below w.heap.size w w') { tmps := #[.string raw, .string t] ++ Array.replicate (Try.f6.ntmps - 2) undef, defers := [] } w := by
    intro c hc
    clear hf hf2
    have e8 : Try.f6.body = some _ := rfl
    obtain rfl := Option.some.inj (e8.symm.trans hc)
    clear hc e8
    simp only [front]
    have h1 : decide (60 < (raw.size : Int)) = false := decide_eq_false (by omega)
    have h2 : decide (60 < (t.size : Int)) = false := decide_eq_false (by omega)
    have E1 := Aside0.mk e1
    have E2 := Aside0.mk e2
    have E3 := Aside0.mk e3
    have HK := Aside0.mk K
    clear e1 e2 e3 K
    simp only [Try.ntmps6, List.size_toArray, List.length_cons, List.length_nil, Nat.reduceAdd, Nat.reduceSub, Array.replicate_succ,
     Array.replicate_zero, List.push_toArray, List.append_toArray, List.nil_append, List.cons_append]
    go_wp2_with (first
      | (go_at_call 16; (with_reducible refine (conchlaw6_Tame.calls k1 raw sp _ E1.out).mono ?_); rintro e w1 ⟨rfl, hb1⟩)
      | (go_at_call 18; (with_reducible refine (pat_Raw.calls k3 sp sp L _ E3.out).mono ?_); rintro e w2 ⟨v, rfl, hR, hb2⟩; obtain ⟨Ao, co, rfl⟩ := Kd.R_slice hR)
      | (go_at_call 17; (with_reducible refine (conchlaw6_letters.calls k2 t st _ E2.out).mono ?_); rintro e w3 ⟨rfl, hb3⟩))
    have hb : Below w.heap.size w w3 := hb1.below.trans ((hb2.mono hb1.below.size).trans (hb3.below.mono (Nat.le_trans hb1.below.size hb2.size)))
    have hC := (Kd.R_reads' hR).2.2
    have hc := (Kd.R_reads' hR).2.1
    exact HK.out _ Ao co _ _ ⟨blk_new w3 _, Kd.C_alloc (Kd.C_below hC hb3.below) _, hc, hb.alloc hb.size _⟩ rfl rfl rfl rfl
  have h9 := key (bodyOf Try.prog 6) (by kernel_rfl)
  rw [← hf] at h9
  exact calls_of_wp Try.func6 (by kernel_rfl : Try.f6.body = some (bodyOf Try.prog 6)) h9
end Go.Proofs.Ytcfimlllgkknhaa
