/-
  PatLive, walked: its loop, and its last part, where all is asked.
-/
import Derived.Test.YtcfimlllgkknhaaLiA
set_option linter.unusedSimpArgs false
set_option linter.unusedVariables false
namespace Go.Ev
/-- A state in the middle of a call, from the frame and the world as they are. -/
theorem Rep.mid {w0 : World} {ν : Nat → Nat} {st : Tm} (heap : HeapOk ν st.heap w0) (new : st.heap.all (fun b => !b.own) = true) (inj : ∀ i j, i < st.heap.length → j < st.heap.length → ν i = ν j → i = j)
    (wf : ∀ s ∈ st.tmps, s.lt st.heap.length) : Rep w0 ν st ⟨(st.tmps.map (SV.to ν)).toArray, []⟩ w0 := by
  refine ⟨by simp, fun t s hs => ⟨s.to ν, ?_, s.is_self _⟩, rfl, RowKit.Below.refl _ _, heap, fun j b hj ho => ?_, inj, wf⟩
  · simp only [List.getElem?_toArray, List.getElem?_map, hs, Option.map_some]
  · have := List.all_eq_true.1 new b (List.mem_of_getElem? hj)
    simp [ho] at this
end Go.Ev
namespace Go.Proofs.Ytcfimlllgkknhaa
open Go.RowKit Go.Eng Go.Ev Go.Proofs.YtcfimlllgkknhaaW.PrintWords Go.Proofs.Ytcfimlllgkknhaa.PPatLive

theorem match_at {W : World} {s : ByteArray} {A : Option Addr} {c : Nat} {l : List Bool} {t : ByteArray} {r : Bool} (hC : Kd.C Kd.bool W A l.length l) (hc : l.length ≤ c) (h : ∃ k, pat_Match.f k s l t = some r) :
    PureAt Try.prog W 10 #[.agg #[.string s, .slice A l.length c], .string t] (.bool r) := fun x => by
  obtain ⟨k, hk⟩ := h
  exact pat_Match.calls k s A c l t r _ (Kd.C_below hC (later_below W x)) hc hk
theorem active_at {W : World} {s : ByteArray} {A : Option Addr} {c : Nat} {l : List Bool} {r : Bool} (hC : Kd.C Kd.bool W A l.length l) (hc : l.length ≤ c) (h : ∃ k, pat_Active.f k s l = some r) :
    PureAt Try.prog W 11 #[.agg #[.string s, .slice A l.length c]] (.bool r) := fun x => by
  obtain ⟨k, hk⟩ := h
  exact pat_Active.calls k s A c l r _ (Kd.C_below hC (later_below W x)) hc hk
theorem awake_at {W : World} (h : ∃ k, conchlaw6_awake.f k = some true) : PureAt Try.prog W 9 #[] (.bool true) := fun x => by
  obtain ⟨k, hk⟩ := h
  exact conchlaw6_awake.calls k true _ hk

def no (n : Nat) : List SV := List.replicate n .no
def stQ (a m b t sp : ByteArray) (gA n : Nat) (h k : SV) : Tm :=
  ⟨[.v (.string a), .v (.string m), .v (.string b), .v (.string t)] ++ no 5 ++ [.p 0 0, h, k] ++ no 84, [⟨[.string sp, .slice (some ⟨gA, 0, none⟩) n n], 25, false⟩]⟩
def hsQ : List Nat := [4, 5, 6, 7, 8] ++ (List.range 86).map (· + 10)
noncomputable def loop3 : Code := match Ev.spine 5 (bodyOf Try.prog 3) with
  | .seq (.seq _ (.block _ (.loop b))) _ => b
  | _ => .skip
/-- Whether m stands in t, at one of the first k places. -/
def hasK (t m : ByteArray) : Nat → Bool
  | 0 => false
  | k + 1 => hasK t m k || decide (t.extract k (k + m.size) = m)
def rounds3 (t m : ByteArray) : Nat := if m.size ≤ t.size then t.size - m.size + 1 else 0
def slots3 : List Nat := (List.range 21).map (· + 48)
section
variable {w : World} (a m b t sp : ByteArray) (gA n : Nat) (hm : m.size ≤ 30) (ht : t.size ≤ 30)
def round3 (k : Nat) (hk : k + m.size ≤ t.size) : Items Try.prog w :=
  [(51, PI .i64 3 (k : Int) (m.size : Int) ((k + m.size : Nat) : Int) (by rw [IntKind.wrap_i64]; omega)), (54, LE .i64 3 ((k + m.size : Nat) : Int) (t.size : Int) (c := true) (decide_eq_true (by omega))),
   (64, PI .i64 3 (k : Int) (m.size : Int) ((k + m.size : Nat) : Int) (by rw [IntKind.wrap_i64]; omega)), (65, SL t k (k + m.size) (by omega) hk), (67, ES (t.extract k (k + m.size)) m rfl),
   (56, PI .i64 3 (k : Int) 1 ((k + 1 : Nat) : Int) (by rw [IntKind.wrap_i64]; omega))]
theorem goes3 (k : Nat) (hk : k + m.size ≤ t.size) (z : Bool) :
    Go.Ev.ask (runC Try.prog 10 loop3 ⟨stQ a m b t sp gA n (.v (.bool z)) (.v (.int .i64 (k : Int))), round3 (w := w) m t hm ht k hk, []⟩) slots3 =
      Go.Ev.told (runC Try.prog 10 loop3 ⟨stQ a m b t sp gA n (.v (.bool z)) (.v (.int .i64 (k : Int))), round3 (w := w) m t hm ht k hk, []⟩) .normal (stQ a m b t sp gA n (.v (.bool (z || decide (t.extract k (k + m.size) = m)))) (.v (.int .i64 ((k + 1 : Nat) : Int)))) := by
  cases z <;> kernel_rfl
theorem N3 (k : Nat) (h : k < rounds3 t m) : k + m.size ≤ t.size := by
  unfold rounds3 at h
  split at h <;> omega
theorem N3' : ¬ (rounds3 t m + m.size ≤ t.size) := by
  unfold rounds3
  split <;> omega
theorem N3'' : rounds3 t m ≤ t.size + 1 := by
  unfold rounds3
  split <;> omega
noncomputable def all3 (z : Bool) (hz : hasK t m (rounds3 t m) = z) : Rounds Try.prog w 10 loop3 (stQ a m b t sp gA n (.v (.bool false)) (.v (.int .i64 0))) where
  N := rounds3 t m
  S := fun k => stQ a m b t sp gA n (.v (.bool (hasK t m k))) (.v (.int .i64 (k : Int)))
  F := stQ a m b t sp gA n (.v (.bool z)) (.v (.int .i64 (rounds3 t m : Int)))
  fin := by rw [hz]
  its := fun k hk => round3 m t hm ht k (N3 m t k hk)
  itl := [(51, PI .i64 3 (rounds3 t m : Int) (m.size : Int) ((rounds3 t m + m.size : Nat) : Int) (by have := N3'' m t; rw [IntKind.wrap_i64]; omega)), (54, LE .i64 3 ((rounds3 t m + m.size : Nat) : Int) (t.size : Int) (c := false) (decide_eq_false (by have := N3' m t; omega)))]
  h0 := []
  hs := slots3
  he := slots3
  start := by kernel_rfl
  round := fun k hk => goes3 a m b t sp gA n hm ht k (N3 m t k hk) (hasK t m k)
  leaves := by kernel_rfl
  last := by kernel_rfl
end

/-- What the law asks, and what comes of it. -/
structure Asked (a m b t sp : ByteArray) (n : Nat) : Prop where
  h1 : ∃ k, pat_Match.f k sp (ends n (m.size + 1)) (a ++ m ++ b) = some true
  h2 : ∃ k, pat_Match.f k sp (ends n (m.size + 1)) t = some (hasK t m (rounds3 t m))
  h3 : ∃ k, pat_Active.f k sp (ends n (m.size + 1)) = some true
  h4 : ∃ k, pat_Active.f k m [] = some false
  h5 : ∃ k, conchlaw6_awake.f k = some true

theorem nuS {W : World} {gp : Nat} {b0 : Blk} (h0 : W.heap[gp]? = some (.cells b0.cells.toArray b0.ty (0, 0))) : HeapOk (fun _ => gp) [b0] W := by
  intro j b hj
  match j, hj with
  | 0, hj => cases hj; exact h0

set_option maxHeartbeats 4000000 in
set_option maxRecDepth 100000 in
theorem rest4 (w : World) (a m b t sp : ByteArray) (n : Nat) (ha : a.size ≤ 30) (hm : m.size ≤ 30) (hb : b.size ≤ 30) (ht : t.size ≤ 30) (hn : n ≤ 1000) (H : Asked a m b t sp n) : Rest4 w a m b t sp n := by
  intro gp gA W x4 x5 x6 x7 x8 x10 x11 x12 x13 x14 x15 x16 x17 x18 x19 x20 x21 x22 x23 x24 x25 x26 x27 x28 x29 x30 x31 x32 x33 x34 x35 x36 x37 x38 x39 x40 x41 x42 x43 x44 x45 x46 x47 x48 x49 x50 x51 x52 x53 x54 x55 x56 x57 x58 x59 x60 x61 x62 x63 x64 x65 x66 x67 x68 x69 x70 x71 x72 x73 x74 x75 x76 x77 x78 x79 x80 x81 x82 x83 x84 x85 x86 x87 x88 x89 x90 x91 x92 x93 x94 x95 M
  have hp := M.hp
  have hCA := ends_C M.hA (by omega)
  have hl := ends_len n (m.size + 1)
  have h1 := H.h1
  have h2 := H.h2
  have h3 := H.h3
  have h4 := H.h4
  have h5 := H.h5
  clear H
  generalize ends n (m.size + 1) = L at hCA hl h1 h2 h3
  subst hl
  have hbw := M.below
  clear M
  have R0 : Rep W (fun _ => gp) (stS a m b t sp gA L.length x4 x5 x6 x7 x8 x10 x11 x12 x13 x14 x15 x16 x17 x18 x19 x20 x21 x22 x23 x24 x25 x26 x27 x28 x29 x30 x31 x32 x33 x34 x35 x36 x37 x38 x39 x40 x41 x42 x43 x44 x45 x46 x47 x48 x49 x50 x51 x52 x53 x54 x55 x56 x57 x58 x59 x60 x61 x62 x63 x64 x65 x66 x67 x68 x69 x70 x71 x72 x73 x74 x75 x76 x77 x78 x79 x80 x81 x82 x83 x84 x85 x86 x87 x88 x89 x90 x91 x92 x93 x94 x95) (frS a m b t gp x4 x5 x6 x7 x8 x10 x11 x12 x13 x14 x15 x16 x17 x18 x19 x20 x21 x22 x23 x24 x25 x26 x27 x28 x29 x30 x31 x32 x33 x34 x35 x36 x37 x38 x39 x40 x41 x42 x43 x44 x45 x46 x47 x48 x49 x50 x51 x52 x53 x54 x55 x56 x57 x58 x59 x60 x61 x62 x63 x64 x65 x66 x67 x68 x69 x70 x71 x72 x73 x74 x75 x76 x77 x78 x79 x80 x81 x82 x83 x84 x85 x86 x87 x88 x89 x90 x91 x92 x93 x94 x95) W :=
    Rep.mid (st := stS a m b t sp gA L.length x4 x5 x6 x7 x8 x10 x11 x12 x13 x14 x15 x16 x17 x18 x19 x20 x21 x22 x23 x24 x25 x26 x27 x28 x29 x30 x31 x32 x33 x34 x35 x36 x37 x38 x39 x40 x41 x42 x43 x44 x45 x46 x47 x48 x49 x50 x51 x52 x53 x54 x55 x56 x57 x58 x59 x60 x61 x62 x63 x64 x65 x66 x67 x68 x69 x70 x71 x72 x73 x74 x75 x76 x77 x78 x79 x80 x81 x82 x83 x84 x85 x86 x87 x88 x89 x90 x91 x92 x93 x94 x95) (nuS hp) rfl (fun i j hi hj e => by
      have hi' : i < 1 := hi
      have hj' : j < 1 := hj
      omega) (by
      intro s hs
      simp only [stS, List.mem_cons, List.mem_nil_iff, or_false] at hs
      rcases hs with rfl | rfl | rfl | rfl | rfl | rfl | rfl | rfl | rfl | rfl | rfl | rfl | rfl | rfl | rfl | rfl | rfl | rfl | rfl | rfl | rfl | rfl | rfl | rfl | rfl | rfl | rfl | rfl | rfl | rfl | rfl | rfl | rfl | rfl | rfl | rfl | rfl | rfl | rfl | rfl | rfl | rfl | rfl | rfl | rfl | rfl | rfl | rfl | rfl | rfl | rfl | rfl | rfl | rfl | rfl | rfl | rfl | rfl | rfl | rfl | rfl | rfl | rfl | rfl | rfl | rfl | rfl | rfl | rfl | rfl | rfl | rfl | rfl | rfl | rfl | rfl | rfl | rfl | rfl | rfl | rfl | rfl | rfl | rfl | rfl | rfl | rfl | rfl | rfl | rfl | rfl | rfl | rfl | rfl | rfl | rfl <;> first | trivial | exact Nat.lt_succ_self 0)
  have R := R0.forget hsQ
  have e0 : forget hsQ (stS a m b t sp gA L.length x4 x5 x6 x7 x8 x10 x11 x12 x13 x14 x15 x16 x17 x18 x19 x20 x21 x22 x23 x24 x25 x26 x27 x28 x29 x30 x31 x32 x33 x34 x35 x36 x37 x38 x39 x40 x41 x42 x43 x44 x45 x46 x47 x48 x49 x50 x51 x52 x53 x54 x55 x56 x57 x58 x59 x60 x61 x62 x63 x64 x65 x66 x67 x68 x69 x70 x71 x72 x73 x74 x75 x76 x77 x78 x79 x80 x81 x82 x83 x84 x85 x86 x87 x88 x89 x90 x91 x92 x93 x94 x95) = stQ a m b t sp gA L.length .no .no := by kernel_rfl
  rw [e0] at R
  clear R0 e0
  have am : (a ++ m).size = a.size + m.size := ByteArray.size_append ..
  have hc : ∀ W', Below W.heap.size W W' → Below w.heap.size w W' := fun W' h => hbw.trans (h.mono hbw.size)
  generalize hz : hasK t m (rounds3 t m) = z at h2
  cases z
  · refine wp_ends mixed (fuel := 10) (its := [(1000000, (all3 a m b t sp gA L.length hm ht false hz).item mixed), (72, AD a m (by omega)), (74, AD (a ++ m) b (by omega)), (75, C (match_at hCA (Nat.le_refl _) h1)), (79, C (match_at hCA (Nat.le_refl _) h2)), (81, EB false false (same _)), (85, C (active_at hCA (Nat.le_refl _) h3)), (90, C (active_at (l := []) (A := none) (c := 0) (Kd.C_nil _ _) (Nat.le_refl _) h4)), (94, C (awake_at h5))])
      (tm' := endOf (runC Try.prog 10 (Ev.spine 4 (bodyOf Try.prog 3)) ⟨stQ a m b t sp gA L.length .no .no, [(1000000, (all3 a m b t sp gA L.length hm ht false hz).item mixed), (72, AD a m (by omega)), (74, AD (a ++ m) b (by omega)), (75, C (match_at hCA (Nat.le_refl _) h1)), (79, C (match_at hCA (Nat.le_refl _) h2)), (81, EB false false (same _)), (85, C (active_at hCA (Nat.le_refl _) h3)), (90, C (active_at (l := []) (A := none) (c := 0) (Kd.C_nil _ _) (Nat.le_refl _) h4)), (94, C (awake_at h5))], []⟩)) (by kernel_rfl) (v := .bool true) (by kernel_rfl) R fun W' hW => ⟨rfl, hc W' hW⟩
  · refine wp_ends mixed (fuel := 10) (its := [(1000000, (all3 a m b t sp gA L.length hm ht true hz).item mixed), (72, AD a m (by omega)), (74, AD (a ++ m) b (by omega)), (75, C (match_at hCA (Nat.le_refl _) h1)), (79, C (match_at hCA (Nat.le_refl _) h2)), (81, EB true true (same _)), (85, C (active_at hCA (Nat.le_refl _) h3)), (90, C (active_at (l := []) (A := none) (c := 0) (Kd.C_nil _ _) (Nat.le_refl _) h4)), (94, C (awake_at h5))])
      (tm' := endOf (runC Try.prog 10 (Ev.spine 4 (bodyOf Try.prog 3)) ⟨stQ a m b t sp gA L.length .no .no, [(1000000, (all3 a m b t sp gA L.length hm ht true hz).item mixed), (72, AD a m (by omega)), (74, AD (a ++ m) b (by omega)), (75, C (match_at hCA (Nat.le_refl _) h1)), (79, C (match_at hCA (Nat.le_refl _) h2)), (81, EB true true (same _)), (85, C (active_at hCA (Nat.le_refl _) h3)), (90, C (active_at (l := []) (A := none) (c := 0) (Kd.C_nil _ _) (Nat.le_refl _) h4)), (94, C (awake_at h5))], []⟩)) (by kernel_rfl) (v := .bool true) (by kernel_rfl) R fun W' hW => ⟨rfl, hc W' hW⟩
end Go.Proofs.Ytcfimlllgkknhaa
