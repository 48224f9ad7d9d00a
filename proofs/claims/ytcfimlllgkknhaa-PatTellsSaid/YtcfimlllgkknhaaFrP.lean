import Derived.Test.YtcfimlllgkknhaaRows
import Derived.Test.YtcfimlllgkknhaaWWords
import Derived.Test.YtcfimlllgkknhaaProg
import Derived.ProofKit
import Derived.OpenShut
import Derived.Deep.Grids
namespace Go.Proofs.Ytcfimlllgkknhaa
open Go.ChangeShapes Go.WideShapes Go.ChangeAt Go.RowKit Go.Deep Go.Proofs.YtcfimlllgkknhaaW.PrintWords
set_option linter.unusedSimpArgs false
set_option linter.unusedVariables false

theorem Try.own : ownKnob Try.prog.godebug = none := by kernel_rfl
theorem Try.laidOut : laidOutB Try.prog = true := by kernel_rfl

section
variable {H : Type} {enc : TypeId × Value → H} {P : Program}

theorem trodAll_stays (hl : laidOutB P = true) {W W' : World} (hb : Below W.heap.size W W') {sp : Nat → Bool} :
    ∀ {ts : List TypeId} {vs : List Value} {ds : List (DataW H)} {ps : List MemPlace}, (ts.all fun t => P.readableRec t && decide (t < P.types.size)) = true →
      DataW.TrodAll enc P W 0 (fun _ => true) true ts vs ds ps → (∀ p ∈ ps, p.block < W.heap.size) → (∀ p ∈ ps, sp p.block = true) → DataW.TrodAll enc P W' 0 sp true ts vs ds ps
  | [], [], [], ps, _, h, _, _ => h
  | t :: ts, v :: vs, d :: ds, ps, hr, h, hlt, hs => by
    obtain ⟨p, q, h1, h2, rfl⟩ := h
    simp only [List.all_cons, Bool.and_eq_true, decide_eq_true_eq] at hr
    refine ⟨p, q, ?_, ?_, rfl⟩
    · exact WideElems.Trod_stays hl hr.1.1 hr.1.2 h1 (fun x hx => hb.same (hlt x (List.mem_append.2 (.inl hx)))) (fun x hx => hs x (List.mem_append.2 (.inl hx)))
    · refine trodAll_stays hl hb ?_ h2 (fun x hx => hlt x (List.mem_append.2 (.inr hx))) (fun x hx => hs x (List.mem_append.2 (.inr hx)))
      exact hr.2
  | [], _ :: _, _, _, _, h, _, _ => h.elim
  | [], [], _ :: _, _, _, h, _, _ => h.elim
  | _ :: _, [], _, _, _, h, _, _ => h.elim
  | _ :: _, _ :: _, [], _, _, h, _, _ => h.elim

/-- A LAW's POST: it answered true and turned nothing that existed. -/
theorem law_post {f : Func} {s : ChangeSpec} {again : Bool} {W W' : World} {args : Array Value} {ds gs : List (DataW H)} {before : List MemPlace} {tb : TypeId}
    (hl : laidOutB P = true) (hr : (f.params.toList.all fun t => P.readableRec t && decide (t < P.types.size)) = true) (hv : s.vars = []) (hrt : f.resultTypes = #[tb]) (htb : P.underlying tb = some .bool)
    (hW : DataW.Whole enc P f.params.toList s.vars false W args.toList ds gs before) (hfn : s.fn H (ds ++ gs) = { results := [.lit (.bool true)], args := ds }) (hb : Below W.heap.size W W') :
    s.post enc P f false true false again W args (.bool true) W' := by
  have hlt : ∀ p ∈ before, p.block < W.heap.size := fun p hp => hW.lt p hp
  have hW0 := hW
  obtain ⟨p, q, hA, hV, hps, hz, hn⟩ := hW
  rw [hv] at hV
  obtain ⟨hgs, hq⟩ := trodVars_none hV
  subst hq
  have hpb : p = before := by rw [hps, List.append_nil]
  subst hpb
  have hargs : ∀ sp : Nat → Bool, (∀ x ∈ p, sp x.block = true) → DataW.TrodAll enc P W' 0 sp true f.params.toList args.toList (s.fn H (ds ++ gs)).args p := fun sp hs => by
    rw [hfn]; exact trodAll_stays hl hb hr hA hlt hs
  have hvars : ∀ sp : Nat → Bool, DataW.TrodVars enc P W' sp s.vars (s.fn H (ds ++ gs)).vars [] := fun sp => by rw [hfn, hv]; rfl
  have hres : ∀ (b : Nat) (sp : Nat → Bool) (hd : Bool), DataW.TrodAll enc P W' b sp hd f.resultTypes.toList ((Value.bool true).resultList f.resultTypes.size) (s.fn H (ds ++ gs)).results [] := fun b sp hd => by
    rw [hfn, hrt]; exact trodAll_mk1 (shut_bool htb true)
  have hold : ∀ x ∈ p, (fun b => decide (b < W.heap.size)) x.block = true := fun x hx => by simpa using hlt x hx
  refine ⟨ds, gs, p, [], p, [], hW0, hres _ _ _, hargs _ hold, hvars _, World.keptBut_mono (fun x hx => ⟨hx, ?_⟩) (hb.frame (· ∈ p)), fun _ => ?_⟩
  · exact .inr (.inl hx)
  · refine ⟨?_, _, _, ([] ++ p) ++ [], ⟨[] ++ p, [], trodAll_append (hargs _ fun _ _ => rfl) (hres _ _ _), hvars _, rfl, ?_, fun h => by cases h⟩, ?_⟩
    · exact ok_one hrt rfl (okWide_bool_mk htb true)
    · intro b off hx
      have hin : MemPlace.cell b off ∈ p := by simpa using hx
      rw [hb.frozen (hlt _ hin)]
      exact hz b off (by simpa using hin)
    · intro x hx _
      simpa using hx
end


theorem Try.cells25 : Try.prog.cellsOf 25 = 2 := by kernel_rfl
theorem Try.cells23 : Try.prog.cellsOf 23 = 1 := by kernel_rfl
theorem Try.cells9 : Try.prog.cellsOf 9 = 1 := by kernel_rfl
theorem Try.cells4 : Try.prog.cellsOf 4 = 1 := by kernel_rfl

section
variable {H : Type} {enc : TypeId × Value → H} {w : World} {base : Nat} {held : Bool}
theorem pat_cells {fuel : Nat} {cs : List Value} {x : DataW H × List MemPlace} (h : DataW.trod enc Try.prog w base (fun _ => true) held fuel 25 cs = some x) :
    ∃ (s : ByteArray) (A : Option Addr) (l : List Bool) (c : Nat), cs = [.string s, .slice A l.length c] ∧ l.length ≤ c ∧ s.size ≤ maxLen ∧ Kd.C Kd.bool w A l.length l := by
  obtain ⟨xs, n, -, -, hlen, hx, hi⟩ := DataW.trod_struct Try.underlying25 h
  rw [Try.cells25] at hlen
  match cs, hlen with
  | [c0, c1], _ =>
    have hs : xs.length = 2 := hx
    have g : ∀ (i : Nat) (_ : i < 2), xs[i]? = some (xs[i]'(by omega)) := fun i hi => List.getElem?_eq_getElem (by omega)
    have h0 := hi 0 _ rfl
    have h1 := hi 1 _ rfl
    rw [g _ (by omega)] at h0 h1
    obtain ⟨s, e0, -, z0⟩ := DataW.trod_string Try.underlying9 h0
    simp [Try.cells9] at e0
    subst e0
    rcases open_bools Try.underlying23 Try.underlying4 Try.cells4 h1 with ⟨e1, -⟩ | ⟨a, len, cap, B, e1, -, hl, hm, -, hc⟩
    · simp [Try.cells23] at e1
      subst e1
      exact ⟨s, none, [], 0, rfl, Nat.le_refl _, z0, Kd.C_nil _ _⟩
    · simp [Try.cells23] at e1
      subst e1
      have hll : ((List.range len).map B).length = len := by simp
      refine ⟨s, some a, (List.range len).map B, cap, by rw [hll], by rw [hll]; exact hl, z0, ?_⟩
      rw [hll]
      refine ⟨hll, by unfold maxLen at hm; omega, fun _ => ⟨a, rfl, ?_⟩⟩
      intro j p hp
      refine ⟨[.bool p], rfl, rfl, ?_⟩
      intro i u hu
      have hj : j < len := by
        have := (List.getElem?_eq_some_iff.1 hp).1
        simpa using this
      have hp' : p = B j := by
        rw [List.getElem?_map, List.getElem?_range hj] at hp
        simpa using hp.symm
      cases i with
      | zero =>
        have hu' : u = .bool p := by simpa using hu.symm
        rw [hu', hp', show j * Kd.bool.sz + 0 = j from by show j * 1 + 0 = j; omega]
        exact hc j (by omega)
      | succ i => simp at hu
/-- A pattern that came in. -/
theorem open_pat {r : Reach} {b0 : Nat} {v : Value} {d : DataW H} {p : List MemPlace} (hv : Value.okWide Try.prog w r b0 25 v) (h : DataW.Trod enc Try.prog w base (fun _ => true) held 25 v d p) :
    ∃ (s : ByteArray) (A : Option Addr) (l : List Bool) (c : Nat), v = .agg #[.string s, .slice A l.length c] ∧ l.length ≤ c ∧ s.size ≤ maxLen ∧ Kd.C Kd.bool w A l.length l := by
  simp only [Value.okWide, Try.underlying25] at hv
  obtain ⟨cs, rfl, hsz, -⟩ := hv
  obtain ⟨fuel, hf⟩ := h
  obtain ⟨s, A, l, c, hs, h1, h2, h3⟩ := pat_cells hf
  refine ⟨s, A, l, c, ?_, h1, h2, h3⟩
  congr 1
  apply Array.ext'
  exact hs
end
end Go.Proofs.Ytcfimlllgkknhaa

