/-
  PatStars, walked: its last part, where all is asked.
-/
import Derived.Test.YtcfimlllgkknhaaStB
set_option linter.unusedSimpArgs false
set_option linter.unusedVariables false
namespace Go.Proofs.Ytcfimlllgkknhaa
open Go.RowKit Go.Eng Go.Ev Go.Proofs.YtcfimlllgkknhaaW.PrintWords Go.Proofs.Ytcfimlllgkknhaa.PPatStars

theorem match_at {W : World} {s : ByteArray} {A : Option Addr} {c : Nat} {l : List Bool} {t : ByteArray} {r : Bool} (hC : Kd.C Kd.bool W A l.length l) (hc : l.length ≤ c) (h : ∃ k, pat_Match.f k s l t = some r) :
    PureAt Try.prog W 10 #[.agg #[.string s, .slice A l.length c], .string t] (.bool r) := fun x => by
  obtain ⟨k, hk⟩ := h
  exact pat_Match.calls k s A c l t r _ (Kd.C_below hC (later_below W x)) hc hk
theorem active_at {W : World} {s : ByteArray} {A : Option Addr} {c : Nat} {l : List Bool} {r : Bool} (hC : Kd.C Kd.bool W A l.length l) (hc : l.length ≤ c) (h : ∃ k, pat_Active.f k s l = some r) :
    PureAt Try.prog W 11 #[.agg #[.string s, .slice A l.length c]] (.bool r) := fun x => by
  obtain ⟨k, hk⟩ := h
  exact pat_Active.calls k s A c l r _ (Kd.C_below hC (later_below W x)) hc hk
theorem awake_at {W : World} (h : ∃ k, conchlaw6_awake.f k = some true) : PureAt Try.prog W 9 #[] (.bool true) := fun x => by
  obtain ⟨k, hk⟩ := h
  exact conchlaw6_awake.calls k true _ hk

/-- What the law asks, and what comes of it. -/
structure Asked (a b m sp sq : ByteArray) (n : Nat) : Prop where
  h1 : ∃ k, pat_Match.f k sp (atOnly n a.size) (a ++ m ++ b) = some true
  h2 : ∃ k, pat_Match.f k sq (atOnly n a.size) (a ++ m ++ b) = some (decide ((m.size : Int) = 1))
  h3 : ∃ k, pat_Active.f k sp (atOnly n a.size) = some true
  h4 : ∃ k, pat_Match.f k sp (atOnly n a.size) (a ++ b) = some true
  h5 : a.size ≠ 0 → ∃ k, pat_Match.f k sp (atOnly n a.size) (a.extract 0 (a.size - 1)) = some false
  h6 : ∃ k, conchlaw6_awake.f k = some true

theorem nuS {W : World} {gp gq : Nat} {b0 b1 : Blk} (h0 : W.heap[gp]? = some (.cells b0.cells.toArray b0.ty (0, 0))) (h1 : W.heap[gq]? = some (.cells b1.cells.toArray b1.ty (0, 0))) :
    HeapOk (fun j => if j = 0 then gp else gq) [b0, b1] W := by
  intro j b hj
  match j, hj with
  | 0, hj => cases hj; exact h0
  | 1, hj => cases hj; exact h1

theorem slice0_sem (s : ByteArray) (b : Nat) (h2 : b ≤ s.size) (W : World) : (Instr.sliceAt 9 (.string s) none (some (.int .i64 (b : Int))) none).run Try.prog W = .ok (.string (s.extract 0 b)) W := by
  rw [run_sliceAt_string W 9 _ _ _ _ Try.underlying9]
  simp [Instr.slice, run_underlying Try.underlying9, Instr.sliceBounds, run_sliceBound, h2]
def SL0 {w : World} (s : ByteArray) (b : Nat) (h2 : b ≤ s.size) : TI w := .sem (Instr.sliceAt 9 (.string s) none (some (.int .i64 (b : Int))) none) (.string (s.extract 0 b)) (fun W _ => slice0_sem s b h2 W)
theorem order8 : Region.lexB .any (drawOf Try.prog 8 2) = true := by kernel_rfl

set_option maxHeartbeats 4000000 in
set_option maxRecDepth 100000 in
theorem rest8 (w : World) (a b m sp sq : ByteArray) (n : Nat) (ha : a.size ≤ 60) (hb : b.size ≤ 60) (hm : m.size ≤ 60) (hn : n ≤ 1000) (H : Asked a b m sp sq n) : Rest8 w a b m sp sq n := by
  intro gp gq gA gB W x3 x4 x5 x6 x9 x10 x11 x12 x13 x14 x15 x16 x17 x18 x19 x20 x21 x22 x23 x24 x25 x26 x27 x28 x29 x30 x31 x32 x33 x34 x35 x36 x37 x38 x39 x40 x41 x42 x43 x44 x45 x46 x47 x48 x49 x50 x51 x52 x53 x54 x55 x56 x57 x58 x59 x60 x61 x62 x63 x64 x65 x66 x67 x68 x69 x70 x71 x72 x73 x74 x75 x76 x77 x78 x79 x80 x81 x82 x83 x84 x85 x86 x87 x88 x89 x90 x91 x92 x93 x94 x95 x96 x97 x98 x99 x100 x101 x102 x103 x104 x105 x106 x107 x108 x109 x110 x111 M
  have hp := M.hp
  have hq := M.hq
  have hCA := only_C M.hA (by omega)
  have hCB := only_C M.hB (by omega)
  have hl := only_len n a.size
  have h1 := H.h1
  have h2 := H.h2
  have h3 := H.h3
  have h4 := H.h4
  have h5 := H.h5
  have h6 := H.h6
  clear H
  generalize atOnly n a.size = L at hCA hCB hl h1 h2 h3 h4 h5
  subst hl
  have hbw := M.below
  have hpq := M.pq
  clear M
  have R : Rep W (fun j => if j = 0 then gp else gq) (stS a b m sp sq gA gB L.length x3 x4 x5 x6 x9 x10 x11 x12 x13 x14 x15 x16 x17 x18 x19 x20 x21 x22 x23 x24 x25 x26 x27 x28 x29 x30 x31 x32 x33 x34 x35 x36 x37 x38 x39 x40 x41 x42 x43 x44 x45 x46 x47 x48 x49 x50 x51 x52 x53 x54 x55 x56 x57 x58 x59 x60 x61 x62 x63 x64 x65 x66 x67 x68 x69 x70 x71 x72 x73 x74 x75 x76 x77 x78 x79 x80 x81 x82 x83 x84 x85 x86 x87 x88 x89 x90 x91 x92 x93 x94 x95 x96 x97 x98 x99 x100 x101 x102 x103 x104 x105 x106 x107 x108 x109 x110 x111) (frS a b m gp gq x3 x4 x5 x6 x9 x10 x11 x12 x13 x14 x15 x16 x17 x18 x19 x20 x21 x22 x23 x24 x25 x26 x27 x28 x29 x30 x31 x32 x33 x34 x35 x36 x37 x38 x39 x40 x41 x42 x43 x44 x45 x46 x47 x48 x49 x50 x51 x52 x53 x54 x55 x56 x57 x58 x59 x60 x61 x62 x63 x64 x65 x66 x67 x68 x69 x70 x71 x72 x73 x74 x75 x76 x77 x78 x79 x80 x81 x82 x83 x84 x85 x86 x87 x88 x89 x90 x91 x92 x93 x94 x95 x96 x97 x98 x99 x100 x101 x102 x103 x104 x105 x106 x107 x108 x109 x110 x111) W :=
    Rep.mid (st := stS a b m sp sq gA gB L.length x3 x4 x5 x6 x9 x10 x11 x12 x13 x14 x15 x16 x17 x18 x19 x20 x21 x22 x23 x24 x25 x26 x27 x28 x29 x30 x31 x32 x33 x34 x35 x36 x37 x38 x39 x40 x41 x42 x43 x44 x45 x46 x47 x48 x49 x50 x51 x52 x53 x54 x55 x56 x57 x58 x59 x60 x61 x62 x63 x64 x65 x66 x67 x68 x69 x70 x71 x72 x73 x74 x75 x76 x77 x78 x79 x80 x81 x82 x83 x84 x85 x86 x87 x88 x89 x90 x91 x92 x93 x94 x95 x96 x97 x98 x99 x100 x101 x102 x103 x104 x105 x106 x107 x108 x109 x110 x111) (nuS hp hq) rfl (fun i j hi hj e => by
      have hi' : i < 2 := hi
      have hj' : j < 2 := hj
      match i, hi', j, hj', e with
      | 0, _, 0, _, _ => rfl
      | 1, _, 1, _, _ => rfl
      | 0, _, 1, _, e => exact absurd e hpq
      | 1, _, 0, _, e => exact absurd e.symm hpq) (by
      intro s hs
      simp only [stS, List.mem_cons, List.mem_nil_iff, or_false] at hs
      rcases hs with rfl | rfl | rfl | rfl | rfl | rfl | rfl | rfl | rfl | rfl | rfl | rfl | rfl | rfl | rfl | rfl | rfl | rfl | rfl | rfl | rfl | rfl | rfl | rfl | rfl | rfl | rfl | rfl | rfl | rfl | rfl | rfl | rfl | rfl | rfl | rfl | rfl | rfl | rfl | rfl | rfl | rfl | rfl | rfl | rfl | rfl | rfl | rfl | rfl | rfl | rfl | rfl | rfl | rfl | rfl | rfl | rfl | rfl | rfl | rfl | rfl | rfl | rfl | rfl | rfl | rfl | rfl | rfl | rfl | rfl | rfl | rfl | rfl | rfl | rfl | rfl | rfl | rfl | rfl | rfl | rfl | rfl | rfl | rfl | rfl | rfl | rfl | rfl | rfl | rfl | rfl | rfl | rfl | rfl | rfl | rfl | rfl | rfl | rfl | rfl | rfl | rfl | rfl | rfl | rfl | rfl | rfl | rfl | rfl | rfl | rfl | rfl <;> first | trivial | exact Nat.succ_pos 1 | exact Nat.lt_succ_self 1)
  have am : (a ++ m).size = a.size + m.size := ByteArray.size_append ..
  have hc : ∀ W', Below W.heap.size W W' → Below w.heap.size w W' := fun W' h => hbw.trans (h.mono hbw.size)
  cases e1 : decide ((m.size : Int) = 1) <;> rw [e1] at h2 <;> by_cases h0 : (a.size : Int) = 0
  · have h0' : decide ((a.size : Int) = 0) = true := decide_eq_true h0
    refine wp_ends mixed (fuel := 10) (its := [(1000001, .order _ order8), (66, AD a m (by omega)), (68, AD (a ++ m) b (by omega)), (69, C (match_at hCA (Nat.le_refl _) h1)), (74, AD a m (by omega)), (76, AD (a ++ m) b (by omega)), (77, C (match_at hCB (Nat.le_refl _) h2)), (80, EI .i64 3 (m.size : Int) 1 e1), (81, EB false false (same _)), (85, C (active_at hCA (Nat.le_refl _) h3)), (91, AD a b (by omega)), (92, C (match_at hCA (Nat.le_refl _) h4)), (97, EI .i64 3 (a.size : Int) 0 h0'), (110, C (awake_at h6))])
      (tm' := endOf (runC Try.prog 10 (Ev.spine 7 (bodyOf Try.prog 8)) ⟨stS a b m sp sq gA gB L.length x3 x4 x5 x6 x9 x10 x11 x12 x13 x14 x15 x16 x17 x18 x19 x20 x21 x22 x23 x24 x25 x26 x27 x28 x29 x30 x31 x32 x33 x34 x35 x36 x37 x38 x39 x40 x41 x42 x43 x44 x45 x46 x47 x48 x49 x50 x51 x52 x53 x54 x55 x56 x57 x58 x59 x60 x61 x62 x63 x64 x65 x66 x67 x68 x69 x70 x71 x72 x73 x74 x75 x76 x77 x78 x79 x80 x81 x82 x83 x84 x85 x86 x87 x88 x89 x90 x91 x92 x93 x94 x95 x96 x97 x98 x99 x100 x101 x102 x103 x104 x105 x106 x107 x108 x109 x110 x111, [(1000001, .order _ order8), (66, AD a m (by omega)), (68, AD (a ++ m) b (by omega)), (69, C (match_at hCA (Nat.le_refl _) h1)), (74, AD a m (by omega)), (76, AD (a ++ m) b (by omega)), (77, C (match_at hCB (Nat.le_refl _) h2)), (80, EI .i64 3 (m.size : Int) 1 e1), (81, EB false false (same _)), (85, C (active_at hCA (Nat.le_refl _) h3)), (91, AD a b (by omega)), (92, C (match_at hCA (Nat.le_refl _) h4)), (97, EI .i64 3 (a.size : Int) 0 h0'), (110, C (awake_at h6))], []⟩)) (by kernel_rfl) (v := .bool true) (by kernel_rfl) R fun W' hW => ⟨rfl, hc W' hW⟩
  · have h0' : decide ((a.size : Int) = 0) = false := decide_eq_false h0
    refine wp_ends mixed (fuel := 10) (its := [(1000001, .order _ order8), (66, AD a m (by omega)), (68, AD (a ++ m) b (by omega)), (69, C (match_at hCA (Nat.le_refl _) h1)), (74, AD a m (by omega)), (76, AD (a ++ m) b (by omega)), (77, C (match_at hCB (Nat.le_refl _) h2)), (80, EI .i64 3 (m.size : Int) 1 e1), (81, EB false false (same _)), (85, C (active_at hCA (Nat.le_refl _) h3)), (91, AD a b (by omega)), (92, C (match_at hCA (Nat.le_refl _) h4)), (97, EI .i64 3 (a.size : Int) 0 h0'), (103, MI .i64 3 (a.size : Int) 1 ((a.size - 1 : Nat) : Int) (by rw [IntKind.wrap_i64]; omega)), (104, SL0 a (a.size - 1) (by omega)), (105, C (match_at hCA (Nat.le_refl _) (h5 (by omega)))), (110, C (awake_at h6))])
      (tm' := endOf (runC Try.prog 10 (Ev.spine 7 (bodyOf Try.prog 8)) ⟨stS a b m sp sq gA gB L.length x3 x4 x5 x6 x9 x10 x11 x12 x13 x14 x15 x16 x17 x18 x19 x20 x21 x22 x23 x24 x25 x26 x27 x28 x29 x30 x31 x32 x33 x34 x35 x36 x37 x38 x39 x40 x41 x42 x43 x44 x45 x46 x47 x48 x49 x50 x51 x52 x53 x54 x55 x56 x57 x58 x59 x60 x61 x62 x63 x64 x65 x66 x67 x68 x69 x70 x71 x72 x73 x74 x75 x76 x77 x78 x79 x80 x81 x82 x83 x84 x85 x86 x87 x88 x89 x90 x91 x92 x93 x94 x95 x96 x97 x98 x99 x100 x101 x102 x103 x104 x105 x106 x107 x108 x109 x110 x111, [(1000001, .order _ order8), (66, AD a m (by omega)), (68, AD (a ++ m) b (by omega)), (69, C (match_at hCA (Nat.le_refl _) h1)), (74, AD a m (by omega)), (76, AD (a ++ m) b (by omega)), (77, C (match_at hCB (Nat.le_refl _) h2)), (80, EI .i64 3 (m.size : Int) 1 e1), (81, EB false false (same _)), (85, C (active_at hCA (Nat.le_refl _) h3)), (91, AD a b (by omega)), (92, C (match_at hCA (Nat.le_refl _) h4)), (97, EI .i64 3 (a.size : Int) 0 h0'), (103, MI .i64 3 (a.size : Int) 1 ((a.size - 1 : Nat) : Int) (by rw [IntKind.wrap_i64]; omega)), (104, SL0 a (a.size - 1) (by omega)), (105, C (match_at hCA (Nat.le_refl _) (h5 (by omega)))), (110, C (awake_at h6))], []⟩)) (by kernel_rfl) (v := .bool true) (by kernel_rfl) R fun W' hW => ⟨rfl, hc W' hW⟩
  · have h0' : decide ((a.size : Int) = 0) = true := decide_eq_true h0
    refine wp_ends mixed (fuel := 10) (its := [(1000001, .order _ order8), (66, AD a m (by omega)), (68, AD (a ++ m) b (by omega)), (69, C (match_at hCA (Nat.le_refl _) h1)), (74, AD a m (by omega)), (76, AD (a ++ m) b (by omega)), (77, C (match_at hCB (Nat.le_refl _) h2)), (80, EI .i64 3 (m.size : Int) 1 e1), (81, EB true true (same _)), (85, C (active_at hCA (Nat.le_refl _) h3)), (91, AD a b (by omega)), (92, C (match_at hCA (Nat.le_refl _) h4)), (97, EI .i64 3 (a.size : Int) 0 h0'), (110, C (awake_at h6))])
      (tm' := endOf (runC Try.prog 10 (Ev.spine 7 (bodyOf Try.prog 8)) ⟨stS a b m sp sq gA gB L.length x3 x4 x5 x6 x9 x10 x11 x12 x13 x14 x15 x16 x17 x18 x19 x20 x21 x22 x23 x24 x25 x26 x27 x28 x29 x30 x31 x32 x33 x34 x35 x36 x37 x38 x39 x40 x41 x42 x43 x44 x45 x46 x47 x48 x49 x50 x51 x52 x53 x54 x55 x56 x57 x58 x59 x60 x61 x62 x63 x64 x65 x66 x67 x68 x69 x70 x71 x72 x73 x74 x75 x76 x77 x78 x79 x80 x81 x82 x83 x84 x85 x86 x87 x88 x89 x90 x91 x92 x93 x94 x95 x96 x97 x98 x99 x100 x101 x102 x103 x104 x105 x106 x107 x108 x109 x110 x111, [(1000001, .order _ order8), (66, AD a m (by omega)), (68, AD (a ++ m) b (by omega)), (69, C (match_at hCA (Nat.le_refl _) h1)), (74, AD a m (by omega)), (76, AD (a ++ m) b (by omega)), (77, C (match_at hCB (Nat.le_refl _) h2)), (80, EI .i64 3 (m.size : Int) 1 e1), (81, EB true true (same _)), (85, C (active_at hCA (Nat.le_refl _) h3)), (91, AD a b (by omega)), (92, C (match_at hCA (Nat.le_refl _) h4)), (97, EI .i64 3 (a.size : Int) 0 h0'), (110, C (awake_at h6))], []⟩)) (by kernel_rfl) (v := .bool true) (by kernel_rfl) R fun W' hW => ⟨rfl, hc W' hW⟩
  · have h0' : decide ((a.size : Int) = 0) = false := decide_eq_false h0
    refine wp_ends mixed (fuel := 10) (its := [(1000001, .order _ order8), (66, AD a m (by omega)), (68, AD (a ++ m) b (by omega)), (69, C (match_at hCA (Nat.le_refl _) h1)), (74, AD a m (by omega)), (76, AD (a ++ m) b (by omega)), (77, C (match_at hCB (Nat.le_refl _) h2)), (80, EI .i64 3 (m.size : Int) 1 e1), (81, EB true true (same _)), (85, C (active_at hCA (Nat.le_refl _) h3)), (91, AD a b (by omega)), (92, C (match_at hCA (Nat.le_refl _) h4)), (97, EI .i64 3 (a.size : Int) 0 h0'), (103, MI .i64 3 (a.size : Int) 1 ((a.size - 1 : Nat) : Int) (by rw [IntKind.wrap_i64]; omega)), (104, SL0 a (a.size - 1) (by omega)), (105, C (match_at hCA (Nat.le_refl _) (h5 (by omega)))), (110, C (awake_at h6))])
      (tm' := endOf (runC Try.prog 10 (Ev.spine 7 (bodyOf Try.prog 8)) ⟨stS a b m sp sq gA gB L.length x3 x4 x5 x6 x9 x10 x11 x12 x13 x14 x15 x16 x17 x18 x19 x20 x21 x22 x23 x24 x25 x26 x27 x28 x29 x30 x31 x32 x33 x34 x35 x36 x37 x38 x39 x40 x41 x42 x43 x44 x45 x46 x47 x48 x49 x50 x51 x52 x53 x54 x55 x56 x57 x58 x59 x60 x61 x62 x63 x64 x65 x66 x67 x68 x69 x70 x71 x72 x73 x74 x75 x76 x77 x78 x79 x80 x81 x82 x83 x84 x85 x86 x87 x88 x89 x90 x91 x92 x93 x94 x95 x96 x97 x98 x99 x100 x101 x102 x103 x104 x105 x106 x107 x108 x109 x110 x111, [(1000001, .order _ order8), (66, AD a m (by omega)), (68, AD (a ++ m) b (by omega)), (69, C (match_at hCA (Nat.le_refl _) h1)), (74, AD a m (by omega)), (76, AD (a ++ m) b (by omega)), (77, C (match_at hCB (Nat.le_refl _) h2)), (80, EI .i64 3 (m.size : Int) 1 e1), (81, EB true true (same _)), (85, C (active_at hCA (Nat.le_refl _) h3)), (91, AD a b (by omega)), (92, C (match_at hCA (Nat.le_refl _) h4)), (97, EI .i64 3 (a.size : Int) 0 h0'), (103, MI .i64 3 (a.size : Int) 1 ((a.size - 1 : Nat) : Int) (by rw [IntKind.wrap_i64]; omega)), (104, SL0 a (a.size - 1) (by omega)), (105, C (match_at hCA (Nat.le_refl _) (h5 (by omega)))), (110, C (awake_at h6))], []⟩)) (by kernel_rfl) (v := .bool true) (by kernel_rfl) R fun W' hW => ⟨rfl, hc W' hW⟩
end Go.Proofs.Ytcfimlllgkknhaa
