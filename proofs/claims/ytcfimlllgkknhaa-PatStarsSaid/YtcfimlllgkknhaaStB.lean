/-
  PatStars, walked: if what it asks of Match, Active and awake comes out so, the law answers true and turns nothing that existed.
-/
import Derived.Test.YtcfimlllgkknhaaStA
import Derived.Test.YtcfimlllgkknhaaPPatStarsx7
import Derived.BigRegion
import Derived.ChangeAlike
import Derived.Laws.NewBlocks
import Derived.Deep.OwnRows
set_option linter.unusedSimpArgs false
set_option linter.unusedVariables false
namespace Go.Ev
/-- A frame that is known whole. -/
theorem Rep.frame {w0 : World} {ν : Nat → Nat} {st : Tm} {a : Act} {W : World} (R : Rep w0 ν st a W) (h : st.tmps.all SV.known = true) : a = ⟨(st.tmps.map (SV.to ν)).toArray, []⟩ := by
  obtain ⟨tmps, defers⟩ := a
  have hd : defers = [] := R.defers
  subst hd
  congr 1
  have hs : tmps.size = st.tmps.length := R.size
  refine Array.ext (by simp [hs]) fun i h1 h2 => ?_
  have hi : i < st.tmps.length := by omega
  obtain ⟨u, hu, hk⟩ := R.tmps i st.tmps[i] (List.getElem?_eq_getElem hi)
  have h3 := hk (List.all_eq_true.1 h _ (List.getElem_mem hi))
  have h4 : tmps[i]? = some (st.tmps[i].to ν) := by rw [← h3]; exact hu
  have h5 := (Array.getElem?_eq_some_iff.1 h4).2
  simp [h5]
/-- A state in the middle of a call, from the frame and the world as they are. -/
theorem Rep.mid {w0 : World} {ν : Nat → Nat} {st : Tm} (heap : HeapOk ν st.heap w0) (new : st.heap.all (fun b => !b.own) = true) (inj : ∀ i j, i < st.heap.length → j < st.heap.length → ν i = ν j → i = j)
    (wf : ∀ s ∈ st.tmps, s.lt st.heap.length) : Rep w0 ν st ⟨(st.tmps.map (SV.to ν)).toArray, []⟩ w0 := by
  refine ⟨by simp, fun t s hs => ⟨s.to ν, ?_, s.is_self _⟩, rfl, RowKit.Below.refl _ _, heap, fun j b hj ho => ?_, inj, wf⟩
  · simp only [List.getElem?_toArray, List.getElem?_map, hs, Option.map_some]
  · have := List.all_eq_true.1 new b (List.mem_of_getElem? hj)
    simp [ho] at this
end Go.Ev
namespace Go.Proofs.Ytcfimlllgkknhaa
open Go.RowKit Go.Eng Go.Ev Go.Proofs.YtcfimlllgkknhaaW.PrintWords Go.Proofs.Ytcfimlllgkknhaa.PPatStars
theorem Try.info4 : (Try.prog.info? 4).map (fun i => (i.zero, i.size, i.bytes)) = some (some (.bool false), 1, 1) := by kernel_rfl

/-- The memory of the two patterns: their cells, and the rows of what is live. -/
structure Mem (w W : World) (gp gq gA gB n : Nat) (sp sq : ByteArray) (ca cb : Array Value) : Prop where
  hp : W.heap[gp]? = some (.cells #[.string sp, .slice (some ⟨gA, 0, none⟩) n n] 25 (0, 0))
  hq : W.heap[gq]? = some (.cells #[.string sq, .slice (some ⟨gB, 0, none⟩) n n] 25 (0, 0))
  hA : W.heap[gA]? = some (.cells ca 4 (0, 0))
  hB : W.heap[gB]? = some (.cells cb 4 (0, 0))
  np : w.heap.size ≤ gp
  nq : w.heap.size ≤ gq
  nA : w.heap.size ≤ gA
  nB : w.heap.size ≤ gB
  pq : gp ≠ gq
  pA : gp ≠ gA
  pB : gp ≠ gB
  qA : gq ≠ gA
  qB : gq ≠ gB
  AB : gA ≠ gB
  below : Below w.heap.size w W

theorem mem7 {w W : World} {gp gq gA gB n : Nat} {sp sq : ByteArray} (hp : W.heap[gp]? = some (.cells #[.string sp, .slice none 0 0] 25 (0, 0))) (hq : W.heap[gq]? = some (.cells #[.string sq, .slice none 0 0] 25 (0, 0)))
    (np : w.heap.size ≤ gp) (nq : w.heap.size ≤ gq) (hne : gp ≠ gq) (hB : Below w.heap.size w W) (ca : Array Value)
    (h : gA = W.heap.size ∧ gB = W.heap.size + 1 ∨ gA = W.heap.size + 1 ∧ gB = W.heap.size) :
    Mem w (((((W.setCell ⟨gp, 1, none⟩ (.slice (some ⟨gA, 0, none⟩) n n)).setCell ⟨gq, 1, none⟩ (.slice (some ⟨gB, 0, none⟩) n n)).alloc (.cells ca 4 (0, 0))).alloc (.cells ca 4 (0, 0))).drew) gp gq gA gB n sp sq ca ca := by
  have lp : gp < W.heap.size := (Array.getElem?_eq_some_iff.1 hp).1
  have lq : gq < W.heap.size := (Array.getElem?_eq_some_iff.1 hq).1
  have hs := hB.size
  generalize hW1 : (W.setCell ⟨gp, 1, none⟩ (.slice (some ⟨gA, 0, none⟩) n n)).setCell ⟨gq, 1, none⟩ (.slice (some ⟨gB, 0, none⟩) n n) = W1
  have s1 : W1.heap.size = W.heap.size := by rw [← hW1, World.size_setCell, World.size_setCell]
  have p1 : W1.heap[gp]? = some (.cells #[.string sp, .slice (some ⟨gA, 0, none⟩) n n] 25 (0, 0)) := by
    rw [← hW1, heap_setCell_other _ _ _ _ (by exact hne)]
    exact heap_setCell_same _ _ _ _ _ _ hp
  have q1 : W1.heap[gq]? = some (.cells #[.string sq, .slice (some ⟨gB, 0, none⟩) n n] 25 (0, 0)) := by
    rw [← hW1]
    exact heap_setCell_same _ _ _ _ _ _ ((heap_setCell_other _ _ _ _ (by exact hne.symm)).trans hq)
  have b1 : Below w.heap.size w W1 := by rw [← hW1]; exact (hB.setCell np _).setCell nq _
  have m0 := blk_alloc (blk_new W1 (.cells ca 4 (0, 0))) (.cells ca 4 (0, 0))
  have m1 := blk_new (W1.alloc (.cells ca 4 (0, 0))) (.cells ca 4 (0, 0))
  have s2 : (W1.alloc (.cells ca 4 (0, 0))).heap.size = W.heap.size + 1 := by rw [World.size_alloc, s1]
  rw [s1] at m0
  rw [s2] at m1
  have bb : Below w.heap.size w (((W1.alloc (.cells ca 4 (0, 0))).alloc (.cells ca 4 (0, 0))).drew) := ((b1.alloc (by omega) _).alloc (by omega) _).drew
  rcases h with ⟨rfl, rfl⟩ | ⟨rfl, rfl⟩
  · exact ⟨blk_drew (blk_alloc (blk_alloc p1 _) _), blk_drew (blk_alloc (blk_alloc q1 _) _), m0, m1, np, nq, by omega, by omega, hne, by omega, by omega, by omega, by omega, by omega, bb⟩
  · exact ⟨blk_drew (blk_alloc (blk_alloc p1 _) _), blk_drew (blk_alloc (blk_alloc q1 _) _), m1, m0, np, nq, by omega, by omega, hne, by omega, by omega, by omega, by omega, by omega, bb⟩
theorem mem8 {w W : World} {gp gq gA gB n : Nat} {sp sq : ByteArray} {ca cb : Array Value} (M : Mem w W gp gq gA gB n sp sq ca cb) (i : Nat) (v : Value) :
    Mem w (((W.setCell ⟨gA, i, none⟩ v).setCell ⟨gB, i, none⟩ v).drew) gp gq gA gB n sp sq (ca.setIfInBounds i v) (cb.setIfInBounds i v) := by
  refine ⟨?_, ?_, ?_, ?_, M.np, M.nq, M.nA, M.nB, M.pq, M.pA, M.pB, M.qA, M.qB, M.AB, ((M.below.setCell M.nA _).setCell M.nB _).drew⟩
  · exact blk_drew ((heap_setCell_other _ _ _ _ (by exact M.pB)).trans ((heap_setCell_other _ _ _ _ (by exact M.pA)).trans M.hp))
  · exact blk_drew ((heap_setCell_other _ _ _ _ (by exact M.qB)).trans ((heap_setCell_other _ _ _ _ (by exact M.qA)).trans M.hq))
  · exact blk_drew ((heap_setCell_other _ _ _ _ (by exact M.AB)).trans (heap_setCell_same _ _ _ _ _ _ M.hA))
  · exact blk_drew (heap_setCell_same _ _ _ _ _ _ ((heap_setCell_other _ _ _ _ (by exact M.AB.symm)).trans M.hB))

/-- Live at one place alone. -/
def atOnly (n i : Nat) : List Bool := (List.range n).map fun j => decide (j = i)
theorem only_len (n i : Nat) : (atOnly n i).length = n := by simp [atOnly]
theorem only_made (n i j : Nat) (hj : j < n) : ((madeCells #[.bool false] n).setIfInBounds i (.bool true))[j]? = some (.bool (decide (j = i))) := by
  rw [Array.getElem?_setIfInBounds]
  split
  · rename_i e
    subst e
    rw [if_pos (by rw [size_madeCells]; exact hj)]
    simp
  · rename_i e
    have e' : decide (j = i) = false := decide_eq_false (fun h => e h.symm)
    rw [e']
    simp [madeCells, hj, Nat.mod_one]
theorem only_C {W : World} {g n i : Nat} (h : W.heap[g]? = some (.cells ((madeCells #[.bool false] n).setIfInBounds i (.bool true)) 4 (0, 0))) (hn : n ≤ 1000000) : Kd.C Kd.bool W (some ⟨g, 0, none⟩) (atOnly n i).length (atOnly n i) := by
  refine ⟨rfl, by rw [only_len]; omega, fun _ => ⟨_, rfl, ?_⟩⟩
  intro j p hp
  refine ⟨[.bool p], rfl, rfl, ?_⟩
  intro k u hu
  have hj : j < n := by
    have := (List.getElem?_eq_some_iff.1 hp).1
    simpa [only_len] using this
  have hp' : p = decide (j = i) := by
    unfold atOnly at hp
    rw [List.getElem?_map, List.getElem?_range hj] at hp
    simpa using hp.symm
  cases k with
  | zero =>
    have hu' : u = .bool p := by simpa using hu.symm
    rw [hu', hp', show j * Kd.bool.sz + 0 = j from by show j * 1 + 0 = j; omega]
    have h9 := only_made n i j hj
    have e : Addr.add ⟨g, 0, none⟩ j = ⟨g, j, none⟩ := by
      unfold Addr.add
      split
      · rename_i e; rw [e]
      · simp
    rw [e]
    simp only [World.cell?, h]
    exact h9
  | succ k => simp at hu

def frS (a b m : ByteArray) (gp gq : Nat) (x3 x4 x5 x6 x9 x10 x11 x12 x13 x14 x15 x16 x17 x18 x19 x20 x21 x22 x23 x24 x25 x26 x27 x28 x29 x30 x31 x32 x33 x34 x35 x36 x37 x38 x39 x40 x41 x42 x43 x44 x45 x46 x47 x48 x49 x50 x51 x52 x53 x54 x55 x56 x57 x58 x59 x60 x61 x62 x63 x64 x65 x66 x67 x68 x69 x70 x71 x72 x73 x74 x75 x76 x77 x78 x79 x80 x81 x82 x83 x84 x85 x86 x87 x88 x89 x90 x91 x92 x93 x94 x95 x96 x97 x98 x99 x100 x101 x102 x103 x104 x105 x106 x107 x108 x109 x110 x111 : Value) : Act := ⟨#[.string a, .string b, .string m, x3, x4, x5, x6, .pointer (some ⟨gp, 0, none⟩), .pointer (some ⟨gq, 0, none⟩), x9, x10, x11, x12, x13, x14, x15, x16, x17, x18, x19, x20, x21, x22, x23, x24, x25, x26, x27, x28, x29, x30, x31, x32, x33, x34, x35, x36, x37, x38, x39, x40, x41, x42, x43, x44, x45, x46, x47, x48, x49, x50, x51, x52, x53, x54, x55, x56, x57, x58, x59, x60, x61, x62, x63, x64, x65, x66, x67, x68, x69, x70, x71, x72, x73, x74, x75, x76, x77, x78, x79, x80, x81, x82, x83, x84, x85, x86, x87, x88, x89, x90, x91, x92, x93, x94, x95, x96, x97, x98, x99, x100, x101, x102, x103, x104, x105, x106, x107, x108, x109, x110, x111], []⟩
def stS (a b m sp sq : ByteArray) (gA gB n : Nat) (x3 x4 x5 x6 x9 x10 x11 x12 x13 x14 x15 x16 x17 x18 x19 x20 x21 x22 x23 x24 x25 x26 x27 x28 x29 x30 x31 x32 x33 x34 x35 x36 x37 x38 x39 x40 x41 x42 x43 x44 x45 x46 x47 x48 x49 x50 x51 x52 x53 x54 x55 x56 x57 x58 x59 x60 x61 x62 x63 x64 x65 x66 x67 x68 x69 x70 x71 x72 x73 x74 x75 x76 x77 x78 x79 x80 x81 x82 x83 x84 x85 x86 x87 x88 x89 x90 x91 x92 x93 x94 x95 x96 x97 x98 x99 x100 x101 x102 x103 x104 x105 x106 x107 x108 x109 x110 x111 : Value) : Tm :=
  ⟨[.v (.string a), .v (.string b), .v (.string m), .v x3, .v x4, .v x5, .v x6, .p 0 0, .p 1 0, .v x9, .v x10, .v x11, .v x12, .v x13, .v x14, .v x15, .v x16, .v x17, .v x18, .v x19, .v x20, .v x21, .v x22, .v x23, .v x24, .v x25, .v x26, .v x27, .v x28, .v x29, .v x30, .v x31, .v x32, .v x33, .v x34, .v x35, .v x36, .v x37, .v x38, .v x39, .v x40, .v x41, .v x42, .v x43, .v x44, .v x45, .v x46, .v x47, .v x48, .v x49, .v x50, .v x51, .v x52, .v x53, .v x54, .v x55, .v x56, .v x57, .v x58, .v x59, .v x60, .v x61, .v x62, .v x63, .v x64, .v x65, .v x66, .v x67, .v x68, .v x69, .v x70, .v x71, .v x72, .v x73, .v x74, .v x75, .v x76, .v x77, .v x78, .v x79, .v x80, .v x81, .v x82, .v x83, .v x84, .v x85, .v x86, .v x87, .v x88, .v x89, .v x90, .v x91, .v x92, .v x93, .v x94, .v x95, .v x96, .v x97, .v x98, .v x99, .v x100, .v x101, .v x102, .v x103, .v x104, .v x105, .v x106, .v x107, .v x108, .v x109, .v x110, .v x111],
   [⟨[.string sp, .slice (some ⟨gA, 0, none⟩) n n], 25, false⟩, ⟨[.string sq, .slice (some ⟨gB, 0, none⟩) n n], 25, false⟩]⟩

/-- Region 8: the two places are made live. -/
def Rest8 (w : World) (a b m sp sq : ByteArray) (n : Nat) : Prop :=
  ∀ (gp gq gA gB : Nat) (W : World) (x3 x4 x5 x6 x9 x10 x11 x12 x13 x14 x15 x16 x17 x18 x19 x20 x21 x22 x23 x24 x25 x26 x27 x28 x29 x30 x31 x32 x33 x34 x35 x36 x37 x38 x39 x40 x41 x42 x43 x44 x45 x46 x47 x48 x49 x50 x51 x52 x53 x54 x55 x56 x57 x58 x59 x60 x61 x62 x63 x64 x65 x66 x67 x68 x69 x70 x71 x72 x73 x74 x75 x76 x77 x78 x79 x80 x81 x82 x83 x84 x85 x86 x87 x88 x89 x90 x91 x92 x93 x94 x95 x96 x97 x98 x99 x100 x101 x102 x103 x104 x105 x106 x107 x108 x109 x110 x111 : Value), Mem w W gp gq gA gB n sp sq ((madeCells #[.bool false] n).setIfInBounds a.size (.bool true)) ((madeCells #[.bool false] n).setIfInBounds a.size (.bool true)) →
    (Ev.spine 7 (bodyOf Try.prog 8)).wp Try.prog (bodyPost Try.prog Try.f8 fun e w' => e = .returned (.bool true) ∧ Below w.heap.size w w') (frS a b m gp gq x3 x4 x5 x6 x9 x10 x11 x12 x13 x14 x15 x16 x17 x18 x19 x20 x21 x22 x23 x24 x25 x26 x27 x28 x29 x30 x31 x32 x33 x34 x35 x36 x37 x38 x39 x40 x41 x42 x43 x44 x45 x46 x47 x48 x49 x50 x51 x52 x53 x54 x55 x56 x57 x58 x59 x60 x61 x62 x63 x64 x65 x66 x67 x68 x69 x70 x71 x72 x73 x74 x75 x76 x77 x78 x79 x80 x81 x82 x83 x84 x85 x86 x87 x88 x89 x90 x91 x92 x93 x94 x95 x96 x97 x98 x99 x100 x101 x102 x103 x104 x105 x106 x107 x108 x109 x110 x111) W
set_option maxHeartbeats 4000000 in
set_option maxRecDepth 100000 in
theorem region8 (w : World) (a b m sp sq : ByteArray) (n : Nat) (hn : a.size < n) (hn2 : n ≤ 1000) (K : Rest8 w a b m sp sq n) (gp gq gA gB : Nat) (W : World) (x3 x4 x5 x6 x9 x10 x11 x12 x13 x14 x15 x16 x17 x18 x19 x20 x21 x22 x23 x24 x25 x26 x27 x28 x29 x30 x31 x32 x33 x34 x35 x36 x37 x38 x39 x40 x41 x42 x43 x44 x45 x46 x47 x48 x49 x50 x51 x52 x53 x54 x55 x56 x57 x58 x59 x60 x61 x62 x63 x64 x65 x66 x67 x68 x69 x70 x71 x72 x73 x74 x75 x76 x77 x78 x79 x80 x81 x82 x83 x84 x85 x86 x87 x88 x89 x90 x91 x92 x93 x94 x95 x96 x97 x98 x99 x100 x101 x102 x103 x104 x105 x106 x107 x108 x109 x110 x111 : Value)
    (M : Mem w W gp gq gA gB n sp sq (madeCells #[.bool false] n) (madeCells #[.bool false] n)) :
    (Ev.spine 6 (bodyOf Try.prog 8)).wp Try.prog (bodyPost Try.prog Try.f8 fun e w' => e = .returned (.bool true) ∧ Below w.heap.size w w') (frS a b m gp gq x3 x4 x5 x6 x9 x10 x11 x12 x13 x14 x15 x16 x17 x18 x19 x20 x21 x22 x23 x24 x25 x26 x27 x28 x29 x30 x31 x32 x33 x34 x35 x36 x37 x38 x39 x40 x41 x42 x43 x44 x45 x46 x47 x48 x49 x50 x51 x52 x53 x54 x55 x56 x57 x58 x59 x60 x61 x62 x63 x64 x65 x66 x67 x68 x69 x70 x71 x72 x73 x74 x75 x76 x77 x78 x79 x80 x81 x82 x83 x84 x85 x86 x87 x88 x89 x90 x91 x92 x93 x94 x95 x96 x97 x98 x99 x100 x101 x102 x103 x104 x105 x106 x107 x108 x109 x110 x111) W := by
  have key : ∀ c, Try.f8.body = some c → (Ev.spine 6 c).wp Try.prog (bodyPost Try.prog Try.f8 fun e w' => e = .returned (.bool true) ∧ Below w.heap.size w w') (frS a b m gp gq x3 x4 x5 x6 x9 x10 x11 x12 x13 x14 x15 x16 x17 x18 x19 x20 x21 x22 x23 x24 x25 x26 x27 x28 x29 x30 x31 x32 x33 x34 x35 x36 x37 x38 x39 x40 x41 x42 x43 x44 x45 x46 x47 x48 x49 x50 x51 x52 x53 x54 x55 x56 x57 x58 x59 x60 x61 x62 x63 x64 x65 x66 x67 x68 x69 x70 x71 x72 x73 x74 x75 x76 x77 x78 x79 x80 x81 x82 x83 x84 x85 x86 x87 x88 x89 x90 x91 x92 x93 x94 x95 x96 x97 x98 x99 x100 x101 x102 x103 x104 x105 x106 x107 x108 x109 x110 x111) W := by
    intro c hc
    have hc' : bodyOf Try.prog 8 = c := by
      have e : Try.f8.body = some (bodyOf Try.prog 8) := by kernel_rfl
      exact Option.some.inj (e.symm.trans hc)
    unfold Rest8 at K
    rw [hc'] at K
    clear hc'
    have e8 : Try.f8.body = some _ := rfl
    obtain rfl := Option.some.inj (e8.symm.trans hc)
    clear hc e8
    simp only [Ev.spine, frS] at K
    simp only [Ev.spine]
    have HK := Aside0.mk K
    clear K
    have HM := Aside0.mk M
    have c1 : W.cell? ⟨gp, 1, none⟩ = some (.slice (some ⟨gA, 0, none⟩) n n) := by simp [World.cell?, M.hp]
    have d1 : W.cell? ⟨gq, 1, none⟩ = some (.slice (some ⟨gB, 0, none⟩) n n) := by simp [World.cell?, M.hq]
    have c2 : W.cell? ⟨gA, a.size, none⟩ = some (.bool false) := by simp [World.cell?, M.hA, madeCells, hn, Nat.mod_one]
    have d2 : W.cell? ⟨gB, a.size, none⟩ = some (.bool false) := by simp [World.cell?, M.hB, madeCells, hn, Nat.mod_one]
    have f1 : W.frozen? ⟨gA, a.size, none⟩ = false := by simp [World.frozen?, M.hA]
    have f2 : W.frozen? ⟨gB, a.size, none⟩ = false := by simp [World.frozen?, M.hB]
    have pA := M.pA
    have pB := M.pB
    have qA := M.qA
    have qB := M.qB
    have AB := M.AB
    have hi : (a.size : Int) < (n : Int) := by omega
    clear M
    unfold frS
    go_wp2
    go_region
    all_goals (rename_i Q' K' hK'; exact hK' _ _ (HK.out gp gq gA gB _ _ _ _ _ _ _ _ _ _ _ _ _ _ _ _ _ _ _ _ _ _ _ _ _ _ _ _ _ _ _ _ _ _ _ _ _ _ _ _ _ _ _ _ _ _ _ _ _ _ _ _ _ _ _ _ _ _ _ _ _ _ _ _ _ _ _ _ _ _ _ _ _ _ _ _ _ _ _ _ _ _ _ _ _ _ _ _ _ _ _ _ _ _ _ _ _ _ _ _ _ _ _ _ _ _ _ _ (mem8 HM.out a.size (.bool true))))
  exact key _ (by kernel_rfl)

set_option maxHeartbeats 4000000 in
set_option maxRecDepth 100000 in
theorem region7 (w : World) (a b m : ByteArray) (ha : a.size ≤ 60) (hb : b.size ≤ 60) (hm : m.size ≤ 60) (K : Rest8 w a b m (a ++ star ++ b) (a ++ quest ++ b) (a.size + 1 + b.size)) :
    Calls Try.prog 8 #[.string a, .string b, .string m] w fun e w' => e = .returned (.bool true) ∧ Below w.heap.size w w' := by
  have key : ∀ c, Try.f8.body = some c → c.wp Try.prog (bodyPost Try.prog Try.f8 fun e w' => e = .returned (.bool true) ∧ Below w.heap.size w w') { tmps := #[.string a, .string b, .string m] ++ Array.replicate (Try.f8.ntmps - 3) undef, defers := [] } w := by
    intro c hc
    have hc' : c = bodyOf Try.prog 8 := by
      have e : Try.f8.body = some (bodyOf Try.prog 8) := by kernel_rfl
      exact (Option.some.inj (e.symm.trans hc)).symm
    refine wp_spine mixed [] (c := c) (n := 5) (by rw [hc']; exact runA a b m ha hb hm w) (rep_init w Try.f8 _) fun ν A W x R => ?_
    have K8 := region8 w a b m (a ++ star ++ b) (a ++ quest ++ b) (a.size + 1 + b.size) (by omega) (by omega) K
    rw [← hc'] at K8
    clear hc' K x
    have e8 : Try.f8.body = some _ := rfl
    obtain rfl := Option.some.inj (e8.symm.trans hc)
    clear hc e8
    simp only [Ev.spine, frS] at K8
    simp only [Ev.spine]
    have HK := Aside0.mk K8
    clear K8
    have hA := R.frame (by kernel_rfl)
    simp only [stA, List.replicate, List.cons_append, List.nil_append, List.map_cons, List.map_nil, SV.to] at hA
    subst hA
    have hp := R.heap 0 _ rfl
    have hq := R.heap 1 _ rfl
    have np := R.new 0 _ rfl rfl
    have nq := R.new 1 _ rfl rfl
    have hne : ν 0 ≠ ν 1 := fun e => absurd (R.inj 0 1 (by simp [stA]) (by simp [stA]) e) (by omega)
    have hB := R.below
    clear R
    generalize ν 0 = gp at *
    generalize ν 1 = gq at *
    have zp := star_size a b
    have zq := quest_size a b
    generalize a ++ star ++ b = sp at *
    generalize a ++ quest ++ b = sq at *
    generalize hn : a.size + 1 + b.size = n at *
    have hn2 : n ≤ 1000 := by omega
    clear hn
    have HZ := Aside0.mk (And.intro zp zq)
    have ez : (sp.size : Int) = (n : Int) := by omega
    have eq : (sq.size : Int) = (n : Int) := by omega
    rw [ez]
    have mk1 := run_make_row' (P := Try.prog) 23 4 (.bool false) 1 Try.underlying23 Try.info4 rfl .i64 .i64 n (by omega) (by omega)
    clear zq
    have c0 : W.cell? ⟨gp, 0, none⟩ = some (.string sp) := by simp [World.cell?, hp]
    have c1 : W.cell? ⟨gp, 1, none⟩ = some (.slice none 0 0) := by simp [World.cell?, hp]
    have d0 : W.cell? ⟨gq, 0, none⟩ = some (.string sq) := by simp [World.cell?, hq]
    have d1 : W.cell? ⟨gq, 1, none⟩ = some (.slice none 0 0) := by simp [World.cell?, hq]
    have f1 : W.frozen? ⟨gp, 1, none⟩ = false := by simp [World.frozen?, hp]
    have f2 : W.frozen? ⟨gq, 1, none⟩ = false := by simp [World.frozen?, hq]
    have lp : gp < W.heap.size := (Array.getElem?_eq_some_iff.1 hp).1
    have lq : gq < W.heap.size := (Array.getElem?_eq_some_iff.1 hq).1
    have HF := Aside0.mk (And.intro hp (And.intro hq hB))
    clear hp hq hB
    go_wp2
    go_region
    all_goals (rename_i Q' K' hK'; exact hK' _ _ (HK.out gp gq _ _ _ _ _ _ _ _ _ _ _ _ _ _ _ _ _ _ _ _ _ _ _ _ _ _ _ _ _ _ _ _ _ _ _ _ _ _ _ _ _ _ _ _ _ _ _ _ _ _ _ _ _ _ _ _ _ _ _ _ _ _ _ _ _ _ _ _ _ _ _ _ _ _ _ _ _ _ _ _ _ _ _ _ _ _ _ _ _ _ _ _ _ _ _ _ _ _ _ _ _ _ _ _ _ _ _ _ _ _ (mem7 HF.out.1 HF.out.2.1 np nq hne HF.out.2.2 _ (by omega))))
  exact calls_of_wp Try.func8 rfl (key _ rfl)
end Go.Proofs.Ytcfimlllgkknhaa
