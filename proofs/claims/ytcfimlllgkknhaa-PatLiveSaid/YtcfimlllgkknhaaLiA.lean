/-
  PatLive, walked up to where the two places are live.
-/
import Derived.Test.YtcfimlllgkknhaaSp
import Derived.Test.YtcfimlllgkknhaaPPatLivex7
import Derived.BigRegion
import Derived.ChangeAlike
import Derived.Laws.NewBlocks
import Derived.Deep.OwnRows
set_option linter.unusedSimpArgs false
set_option linter.unusedVariables false
namespace Go.Proofs.Ytcfimlllgkknhaa
open Go.RowKit Go.Eng Go.Ev Go.Proofs.YtcfimlllgkknhaaW.PrintWords Go.Proofs.Ytcfimlllgkknhaa.PPatLive
theorem Try.info4 : (Try.prog.info? 4).map (fun i => (i.zero, i.size, i.bytes)) = some (some (.bool false), 1, 1) := by kernel_rfl

/-- The memory of the pattern: its cells, and the row of what is live. -/
structure Mem (w W : World) (gp gA n : Nat) (sp : ByteArray) (ca : Array Value) : Prop where
  hp : W.heap[gp]? = some (.cells #[.string sp, .slice (some ⟨gA, 0, none⟩) n n] 25 (0, 0))
  hA : W.heap[gA]? = some (.cells ca 4 (0, 0))
  np : w.heap.size ≤ gp
  nA : w.heap.size ≤ gA
  pA : gp ≠ gA
  below : Below w.heap.size w W
theorem mem3 (w : World) (n : Nat) (sp : ByteArray) (ca : Array Value) :
    Mem w ((w.alloc (.cells ca 4 (0, 0))).alloc (.cells #[.string sp, .slice (some ⟨w.heap.size, 0, none⟩) n n] 25 (0, 0))) (w.heap.size + 1) w.heap.size n sp ca := by
  have m1 := blk_new (w.alloc (.cells ca 4 (0, 0))) (.cells #[.string sp, .slice (some ⟨w.heap.size, 0, none⟩) n n] 25 (0, 0))
  rw [World.size_alloc] at m1
  exact ⟨m1, blk_alloc (blk_new w _) _, by omega, Nat.le_refl _, by omega, ((Below.refl _ _).alloc (Nat.le_refl _) _).alloc (by rw [World.size_alloc]; omega) _⟩
theorem mem4 {w W : World} {gp gA n : Nat} {sp : ByteArray} {ca : Array Value} (M : Mem w W gp gA n sp ca) (i j : Nat) (v u : Value) :
    Mem w (((W.setCell ⟨gA, i, none⟩ v).setCell ⟨gA, j, none⟩ u).drew) gp gA n sp ((ca.setIfInBounds i v).setIfInBounds j u) := by
  refine ⟨?_, ?_, M.np, M.nA, M.pA, ((M.below.setCell M.nA _).setCell M.nA _).drew⟩
  · exact blk_drew ((heap_setCell_other _ _ _ _ (by exact M.pA)).trans ((heap_setCell_other _ _ _ _ (by exact M.pA)).trans M.hp))
  · exact blk_drew (heap_setCell_same _ _ _ _ _ _ (heap_setCell_same _ _ _ _ _ _ M.hA))

/-- Live at both ends alone. -/
def ends (n i : Nat) : List Bool := (List.range n).map fun j => decide (j = 0 ∨ j = i)
theorem ends_len (n i : Nat) : (ends n i).length = n := by simp [ends]
theorem ends_made (n i j : Nat) (hj : j < n) : (((madeCells #[.bool false] n).setIfInBounds 0 (.bool true)).setIfInBounds i (.bool true))[j]? = some (.bool (decide (j = 0 ∨ j = i))) := by
  rw [Array.getElem?_setIfInBounds]
  split
  · rename_i e
    subst e
    rw [if_pos (by rw [Array.size_setIfInBounds, size_madeCells]; exact hj)]
    simp
  · rename_i e
    rw [Array.getElem?_setIfInBounds]
    split
    · rename_i e2
      subst e2
      rw [if_pos (by rw [size_madeCells]; exact hj)]
      simp
    · rename_i e2
      have e' : decide (j = 0 ∨ j = i) = false := decide_eq_false (fun h => by omega)
      rw [e']
      simp [madeCells, hj, Nat.mod_one]
theorem ends_C {W : World} {g n i : Nat} (h : W.heap[g]? = some (.cells (((madeCells #[.bool false] n).setIfInBounds 0 (.bool true)).setIfInBounds i (.bool true)) 4 (0, 0))) (hn : n ≤ 1000000) : Kd.C Kd.bool W (some ⟨g, 0, none⟩) (ends n i).length (ends n i) := by
  refine ⟨rfl, by rw [ends_len]; omega, fun _ => ⟨_, rfl, ?_⟩⟩
  intro j p hp
  refine ⟨[.bool p], rfl, rfl, ?_⟩
  intro k u hu
  have hj : j < n := by
    have := (List.getElem?_eq_some_iff.1 hp).1
    simpa [ends_len] using this
  have hp' : p = decide (j = 0 ∨ j = i) := by
    unfold ends at hp
    rw [List.getElem?_map, List.getElem?_range hj] at hp
    simpa using hp.symm
  cases k with
  | zero =>
    have hu' : u = .bool p := by simpa using hu.symm
    rw [hu', hp', show j * Kd.bool.sz + 0 = j from by show j * 1 + 0 = j; omega]
    have h9 := ends_made n i j hj
    have e : Addr.add ⟨g, 0, none⟩ j = ⟨g, j, none⟩ := by
      unfold Addr.add
      split
      · rename_i e; rw [e]
      · simp
    rw [e]
    simp only [World.cell?, h]
    exact h9
  | succ k => simp at hu

def frS (a m b t : ByteArray) (gp : Nat) (x4 x5 x6 x7 x8 x10 x11 x12 x13 x14 x15 x16 x17 x18 x19 x20 x21 x22 x23 x24 x25 x26 x27 x28 x29 x30 x31 x32 x33 x34 x35 x36 x37 x38 x39 x40 x41 x42 x43 x44 x45 x46 x47 x48 x49 x50 x51 x52 x53 x54 x55 x56 x57 x58 x59 x60 x61 x62 x63 x64 x65 x66 x67 x68 x69 x70 x71 x72 x73 x74 x75 x76 x77 x78 x79 x80 x81 x82 x83 x84 x85 x86 x87 x88 x89 x90 x91 x92 x93 x94 x95 : Value) : Act := ⟨#[.string a, .string m, .string b, .string t, x4, x5, x6, x7, x8, .pointer (some ⟨gp, 0, none⟩), x10, x11, x12, x13, x14, x15, x16, x17, x18, x19, x20, x21, x22, x23, x24, x25, x26, x27, x28, x29, x30, x31, x32, x33, x34, x35, x36, x37, x38, x39, x40, x41, x42, x43, x44, x45, x46, x47, x48, x49, x50, x51, x52, x53, x54, x55, x56, x57, x58, x59, x60, x61, x62, x63, x64, x65, x66, x67, x68, x69, x70, x71, x72, x73, x74, x75, x76, x77, x78, x79, x80, x81, x82, x83, x84, x85, x86, x87, x88, x89, x90, x91, x92, x93, x94, x95], []⟩
def stS (a m b t sp : ByteArray) (gA n : Nat) (x4 x5 x6 x7 x8 x10 x11 x12 x13 x14 x15 x16 x17 x18 x19 x20 x21 x22 x23 x24 x25 x26 x27 x28 x29 x30 x31 x32 x33 x34 x35 x36 x37 x38 x39 x40 x41 x42 x43 x44 x45 x46 x47 x48 x49 x50 x51 x52 x53 x54 x55 x56 x57 x58 x59 x60 x61 x62 x63 x64 x65 x66 x67 x68 x69 x70 x71 x72 x73 x74 x75 x76 x77 x78 x79 x80 x81 x82 x83 x84 x85 x86 x87 x88 x89 x90 x91 x92 x93 x94 x95 : Value) : Tm :=
  ⟨[.v (.string a), .v (.string m), .v (.string b), .v (.string t), .v x4, .v x5, .v x6, .v x7, .v x8, .p 0 0, .v x10, .v x11, .v x12, .v x13, .v x14, .v x15, .v x16, .v x17, .v x18, .v x19, .v x20, .v x21, .v x22, .v x23, .v x24, .v x25, .v x26, .v x27, .v x28, .v x29, .v x30, .v x31, .v x32, .v x33, .v x34, .v x35, .v x36, .v x37, .v x38, .v x39, .v x40, .v x41, .v x42, .v x43, .v x44, .v x45, .v x46, .v x47, .v x48, .v x49, .v x50, .v x51, .v x52, .v x53, .v x54, .v x55, .v x56, .v x57, .v x58, .v x59, .v x60, .v x61, .v x62, .v x63, .v x64, .v x65, .v x66, .v x67, .v x68, .v x69, .v x70, .v x71, .v x72, .v x73, .v x74, .v x75, .v x76, .v x77, .v x78, .v x79, .v x80, .v x81, .v x82, .v x83, .v x84, .v x85, .v x86, .v x87, .v x88, .v x89, .v x90, .v x91, .v x92, .v x93, .v x94, .v x95], [⟨[.string sp, .slice (some ⟨gA, 0, none⟩) n n], 25, false⟩]⟩
/-- What is left behind region 4. -/
def Rest4 (w : World) (a m b t sp : ByteArray) (n : Nat) : Prop :=
  ∀ (gp gA : Nat) (W : World) (x4 x5 x6 x7 x8 x10 x11 x12 x13 x14 x15 x16 x17 x18 x19 x20 x21 x22 x23 x24 x25 x26 x27 x28 x29 x30 x31 x32 x33 x34 x35 x36 x37 x38 x39 x40 x41 x42 x43 x44 x45 x46 x47 x48 x49 x50 x51 x52 x53 x54 x55 x56 x57 x58 x59 x60 x61 x62 x63 x64 x65 x66 x67 x68 x69 x70 x71 x72 x73 x74 x75 x76 x77 x78 x79 x80 x81 x82 x83 x84 x85 x86 x87 x88 x89 x90 x91 x92 x93 x94 x95 : Value), Mem w W gp gA n sp (((madeCells #[.bool false] n).setIfInBounds 0 (.bool true)).setIfInBounds (m.size + 1) (.bool true)) →
    (Ev.spine 4 (bodyOf Try.prog 3)).wp Try.prog (bodyPost Try.prog Try.f3 fun e w' => e = .returned (.bool true) ∧ Below w.heap.size w w') (frS a m b t gp x4 x5 x6 x7 x8 x10 x11 x12 x13 x14 x15 x16 x17 x18 x19 x20 x21 x22 x23 x24 x25 x26 x27 x28 x29 x30 x31 x32 x33 x34 x35 x36 x37 x38 x39 x40 x41 x42 x43 x44 x45 x46 x47 x48 x49 x50 x51 x52 x53 x54 x55 x56 x57 x58 x59 x60 x61 x62 x63 x64 x65 x66 x67 x68 x69 x70 x71 x72 x73 x74 x75 x76 x77 x78 x79 x80 x81 x82 x83 x84 x85 x86 x87 x88 x89 x90 x91 x92 x93 x94 x95) W
def part (n : Nat) (c : Code) : Code := match Ev.spine n c with
  | .seq a _ => a
  | c => c
set_option maxHeartbeats 4000000 in
set_option maxRecDepth 100000 in
theorem region4 (w : World) (a m b t sp : ByteArray) (n : Nat) (hn : n = m.size + 2) (hn2 : n ≤ 1000) (gp gA : Nat) (W : World) (x4 x5 x6 x7 x8 x10 x11 x12 x13 x14 x15 x16 x17 x18 x19 x20 x21 x22 x23 x24 x25 x26 x27 x28 x29 x30 x31 x32 x33 x34 x35 x36 x37 x38 x39 x40 x41 x42 x43 x44 x45 x46 x47 x48 x49 x50 x51 x52 x53 x54 x55 x56 x57 x58 x59 x60 x61 x62 x63 x64 x65 x66 x67 x68 x69 x70 x71 x72 x73 x74 x75 x76 x77 x78 x79 x80 x81 x82 x83 x84 x85 x86 x87 x88 x89 x90 x91 x92 x93 x94 x95 : Value) (Q : Exit → Act → World → Prop)
    (K : ∀ (W : World) (x4 x5 x6 x7 x8 x10 x11 x12 x13 x14 x15 x16 x17 x18 x19 x20 x21 x22 x23 x24 x25 x26 x27 x28 x29 x30 x31 x32 x33 x34 x35 x36 x37 x38 x39 x40 x41 x42 x43 x44 x45 x46 x47 x48 x49 x50 x51 x52 x53 x54 x55 x56 x57 x58 x59 x60 x61 x62 x63 x64 x65 x66 x67 x68 x69 x70 x71 x72 x73 x74 x75 x76 x77 x78 x79 x80 x81 x82 x83 x84 x85 x86 x87 x88 x89 x90 x91 x92 x93 x94 x95 : Value), Mem w W gp gA n sp (((madeCells #[.bool false] n).setIfInBounds 0 (.bool true)).setIfInBounds (m.size + 1) (.bool true)) → Q .normal (frS a m b t gp x4 x5 x6 x7 x8 x10 x11 x12 x13 x14 x15 x16 x17 x18 x19 x20 x21 x22 x23 x24 x25 x26 x27 x28 x29 x30 x31 x32 x33 x34 x35 x36 x37 x38 x39 x40 x41 x42 x43 x44 x45 x46 x47 x48 x49 x50 x51 x52 x53 x54 x55 x56 x57 x58 x59 x60 x61 x62 x63 x64 x65 x66 x67 x68 x69 x70 x71 x72 x73 x74 x75 x76 x77 x78 x79 x80 x81 x82 x83 x84 x85 x86 x87 x88 x89 x90 x91 x92 x93 x94 x95) W)
    (M : Mem w W gp gA n sp (madeCells #[.bool false] n)) : (part 3 (bodyOf Try.prog 3)).wp Try.prog Q (frS a m b t gp x4 x5 x6 x7 x8 x10 x11 x12 x13 x14 x15 x16 x17 x18 x19 x20 x21 x22 x23 x24 x25 x26 x27 x28 x29 x30 x31 x32 x33 x34 x35 x36 x37 x38 x39 x40 x41 x42 x43 x44 x45 x46 x47 x48 x49 x50 x51 x52 x53 x54 x55 x56 x57 x58 x59 x60 x61 x62 x63 x64 x65 x66 x67 x68 x69 x70 x71 x72 x73 x74 x75 x76 x77 x78 x79 x80 x81 x82 x83 x84 x85 x86 x87 x88 x89 x90 x91 x92 x93 x94 x95) W := by
  have key : ∀ c, Try.f3.body = some c → (part 3 c).wp Try.prog Q (frS a m b t gp x4 x5 x6 x7 x8 x10 x11 x12 x13 x14 x15 x16 x17 x18 x19 x20 x21 x22 x23 x24 x25 x26 x27 x28 x29 x30 x31 x32 x33 x34 x35 x36 x37 x38 x39 x40 x41 x42 x43 x44 x45 x46 x47 x48 x49 x50 x51 x52 x53 x54 x55 x56 x57 x58 x59 x60 x61 x62 x63 x64 x65 x66 x67 x68 x69 x70 x71 x72 x73 x74 x75 x76 x77 x78 x79 x80 x81 x82 x83 x84 x85 x86 x87 x88 x89 x90 x91 x92 x93 x94 x95) W := by
    intro c hc
    have e8 : Try.f3.body = some _ := rfl
    obtain rfl := Option.some.inj (e8.symm.trans hc)
    clear hc e8
    simp only [Ev.spine, part]
    simp only [frS] at K
    have HK := Aside0.mk K
    clear K
    have HM := Aside0.mk M
    have hm1 : m.size + 1 < n := by omega
    have hm0 : 0 < n := by omega
    clear hn
    have c1 : W.cell? ⟨gp, 1, none⟩ = some (.slice (some ⟨gA, 0, none⟩) n n) := by simp [World.cell?, M.hp]
    have c2 : W.cell? ⟨gA, 0, none⟩ = some (.bool false) := by simp [World.cell?, M.hA, madeCells, hm0]
    have d2 : W.cell? ⟨gA, m.size + 1, none⟩ = some (.bool false) := by simp [World.cell?, M.hA, madeCells, hm1, Nat.mod_one]
    have f1 : W.frozen? ⟨gA, 0, none⟩ = false := by simp [World.frozen?, M.hA]
    have f2 : W.frozen? ⟨gA, m.size + 1, none⟩ = false := by simp [World.frozen?, M.hA]
    have pA := M.pA
    have hi : (m.size : Int) + 1 < (n : Int) := by omega
    have hi0 : (0 : Int) < (n : Int) := by omega
    have hms : m.size ≤ 1000 := by omega
    clear M
    unfold frS
    go_wp2
    go_region
    all_goals (exact HK.out _ _ _ _ _ _ _ _ _ _ _ _ _ _ _ _ _ _ _ _ _ _ _ _ _ _ _ _ _ _ _ _ _ _ _ _ _ _ _ _ _ _ _ _ _ _ _ _ _ _ _ _ _ _ _ _ _ _ _ _ _ _ _ _ _ _ _ _ _ _ _ _ _ _ _ _ _ _ _ _ _ _ _ _ _ _ _ _ _ _ _ _ (mem4 HM.out 0 (m.size + 1) (.bool true) (.bool true)))
  exact key _ (by kernel_rfl)

set_option maxHeartbeats 4000000 in
set_option maxRecDepth 100000 in
theorem region3 (w : World) (a m b t : ByteArray) (ha : a.size ≤ 30) (hm : m.size ≤ 30) (hb : b.size ≤ 30) (ht : t.size ≤ 30) (K : Rest4 w a m b t ((⟨#[42]⟩ : ByteArray) ++ m ++ ⟨#[42]⟩) (m.size + 2)) :
    Calls Try.prog 3 #[.string a, .string m, .string b, .string t] w fun e w' => e = .returned (.bool true) ∧ Below w.heap.size w w' := by
  have key : ∀ c, Try.f3.body = some c → c.wp Try.prog (bodyPost Try.prog Try.f3 fun e w' => e = .returned (.bool true) ∧ Below w.heap.size w w') { tmps := #[.string a, .string m, .string b, .string t] ++ Array.replicate (Try.f3.ntmps - 4) undef, defers := [] } w := by
    intro c hc
    have hc' : c = bodyOf Try.prog 3 := by
      have e : Try.f3.body = some (bodyOf Try.prog 3) := by kernel_rfl
      exact (Option.some.inj (e.symm.trans hc)).symm
    have K8 := region4 w a m b t ((⟨#[42]⟩ : ByteArray) ++ m ++ ⟨#[42]⟩) (m.size + 2) rfl (by omega)
    unfold Rest4 at K
    rw [← hc'] at K8 K
    clear hc'
    have e8 : Try.f3.body = some _ := rfl
    obtain rfl := Option.some.inj (e8.symm.trans hc)
    clear hc e8
    simp only [Ev.spine, part, frS] at K8 K
    have HK := Aside0.mk (And.intro K8 K)
    clear K8 K
    have h1 : decide (30 < (a.size : Int)) = false := decide_eq_false (by omega)
    have h2 : decide (30 < (b.size : Int)) = false := decide_eq_false (by omega)
    have h3 : decide (30 < (m.size : Int)) = false := decide_eq_false (by omega)
    have h4 : decide (30 < (t.size : Int)) = false := decide_eq_false (by omega)
    have g1 : (⟨#[42]⟩ : ByteArray).size = 1 := rfl
    have g2 : (⟨#[42]⟩ : ByteArray).size + m.size ≤ 9223372036854775807 := by rw [g1]; omega
    have g3 : ((⟨#[42]⟩ : ByteArray) ++ m).size + (⟨#[42]⟩ : ByteArray).size ≤ 9223372036854775807 := by rw [ByteArray.size_append, g1]; omega
    have mk1 := run_make_row' (P := Try.prog) 23 4 (.bool false) 1 Try.underlying23 Try.info4 rfl .i64 .i64 (m.size + 2) (by omega) (by omega)
    have mk2 : ∀ w, (Instr.makeSlice 23 (.int .i64 ((m.size : Int) + 2)) (.int .i64 ((m.size : Int) + 2))).run Try.prog w = .ok (.slice (some ⟨w.heap.size, 0, none⟩) (m.size + 2) (m.size + 2)) (w.alloc (.cells (madeCells #[.bool false] (m.size + 2)) 4)) := fun w => by
      have := mk1 w
      rw [Int.natCast_add] at this
      exact this
    clear mk1
    simp only [Try.ntmps3, List.size_toArray, List.length_cons, List.length_nil, Nat.reduceAdd, Nat.reduceSub, Array.replicate_succ,
     Array.replicate_zero, List.push_toArray, List.append_toArray, List.nil_append, List.cons_append]
    go_wp2
    rename_i Q' K' hK'
    exact HK.out.1 _ _ _ _ _ _ _ _ _ _ _ _ _ _ _ _ _ _ _ _ _ _ _ _ _ _ _ _ _ _ _ _ _ _ _ _ _ _ _ _ _ _ _ _ _ _ _ _ _ _ _ _ _ _ _ _ _ _ _ _ _ _ _ _ _ _ _ _ _ _ _ _ _ _ _ _ _ _ _ _ _ _ _ _ _ _ _ _ _ _ _ _ _ _ _ (fun W' x4 x5 x6 x7 x8 x10 x11 x12 x13 x14 x15 x16 x17 x18 x19 x20 x21 x22 x23 x24 x25 x26 x27 x28 x29 x30 x31 x32 x33 x34 x35 x36 x37 x38 x39 x40 x41 x42 x43 x44 x45 x46 x47 x48 x49 x50 x51 x52 x53 x54 x55 x56 x57 x58 x59 x60 x61 x62 x63 x64 x65 x66 x67 x68 x69 x70 x71 x72 x73 x74 x75 x76 x77 x78 x79 x80 x81 x82 x83 x84 x85 x86 x87 x88 x89 x90 x91 x92 x93 x94 x95 M => hK' _ _ (HK.out.2 _ _ _ x4 x5 x6 x7 x8 x10 x11 x12 x13 x14 x15 x16 x17 x18 x19 x20 x21 x22 x23 x24 x25 x26 x27 x28 x29 x30 x31 x32 x33 x34 x35 x36 x37 x38 x39 x40 x41 x42 x43 x44 x45 x46 x47 x48 x49 x50 x51 x52 x53 x54 x55 x56 x57 x58 x59 x60 x61 x62 x63 x64 x65 x66 x67 x68 x69 x70 x71 x72 x73 x74 x75 x76 x77 x78 x79 x80 x81 x82 x83 x84 x85 x86 x87 x88 x89 x90 x91 x92 x93 x94 x95 M)) (mem3 w (m.size + 2) _ (madeCells #[.bool false] (m.size + 2)))
  exact calls_of_wp Try.func3 rfl (key _ rfl)
end Go.Proofs.Ytcfimlllgkknhaa
