/-
  A row of numbers in memory: a number put behind it, the last one taken, its length.
-/
import Derived.Test.YtpanndfhgpbahaaWa
set_option linter.unusedSimpArgs false
set_option linter.unusedVariables false
namespace Go.Proofs.Ytpanndfhgpbahaa
open Go.RowKit
def nums (n : Nat) (a : Nat → Int) : List Value := (List.range n).map fun i => .int .i64 (a i)
theorem nums_len (n : Nat) (a : Nat → Int) : (nums n a).length = n := by simp [nums]
theorem nums_at (n : Nat) (a : Nat → Int) (i : Nat) (h : i < n) : (nums n a)[i]? = some (.int .i64 (a i)) := by simp [nums, h]
def ext (a : Nat → Int) (n : Nat) (x : Int) : Nat → Int := fun i => if i = n then x else a i
theorem nums_ext (n : Nat) (a : Nat → Int) (x : Int) : nums n a ++ [.int .i64 x] = nums (n + 1) (ext a n x) := by
  unfold nums ext
  rw [List.range_succ, List.map_append]
  congr 1
  · refine List.map_congr_left fun i hi => ?_
    have := List.mem_range.1 hi
    rw [if_neg (by omega)]
  · simp
theorem row_own {B : Nat} {W : World} {v : Value} {n : Nat} {a : Nat → Int} (h : RowIs B W v n a) : W.ownsRow B 3 1 v n (nums n a) := by
  refine ⟨by simp [nums_len], ?_⟩
  rcases h with ⟨rfl, rfl⟩ | ⟨g, c, cur, rfl, hg, hc, h2, h3, h4, h5⟩
  · exact .inl ⟨rfl, rfl⟩
  · refine .inr ⟨g, c, cur, rfl, hg, hc, h2, h3, by omega, ?_⟩
    refine List.ext_getElem? fun i => ?_
    rw [List.getElem?_take, Nat.mul_one]
    split
    · rename_i hi
      rw [nums_at n a i hi]
      simpa using h5 i hi
    · rename_i hi
      rw [List.getElem?_eq_none (by rw [nums_len]; omega)]
theorem own_row {B : Nat} {W : World} {v : Value} {n : Nat} {a : Nat → Int} (h : W.ownsRow B 3 1 v n (nums n a)) : RowIs B W v n a := by
  obtain ⟨-, h | ⟨g, c, cur, rfl, hg, hc, h2, h3, h4, h5⟩⟩ := h
  · exact .inl h
  · refine .inr ⟨g, c, cur, rfl, hg, hc, h2, h3, by omega, fun i hi => ?_⟩
    have h6 : (cur.toList.take (n * 1))[i]? = some (.int .i64 (a i)) := by rw [h5]; exact nums_at n a i hi
    rw [List.getElem?_take, if_pos (by omega)] at h6
    simpa using h6
theorem Try.info3 : (Try.prog.info? 3).map (fun i => (i.zero, i.size, i.bytes)) = some (some (.int .i64 0), 1, 8) := by kernel_rfl

theorem fr_grown {B : Nat} {w W W' : World} {row : Option Nat} (h : Fr B w W) (hB : B ≤ W.heap.size) (hg : W.grownBy W' row) (hr : ∀ k, row = some k → B ≤ k ∧ ∃ cur t, W.heap[k]? = some (.cells cur t (0, 0))) : Fr B w W' :=
  ⟨h.below.grown hg hB (fun k hk => (hr k hk).1), fun k es ck hk => by
    have h1 := h.maps k es ck hk
    refine (hg.block k (Array.getElem?_eq_some_iff.1 h1).1 (fun e => ?_)).trans h1
    obtain ⟨-, cur, t, h2⟩ := hr k e.symm
    rw [h2] at h1
    cases h1⟩
theorem fr_alloc {B : Nat} {w W : World} (h : Fr B w W) (hB : B ≤ W.heap.size) (o : Obj) : Fr B w (W.alloc o) :=
  fr_grown h hB (World.grownBy_alloc W o none) (fun k hk => by cases hk)

set_option maxHeartbeats 2000000 in
set_option maxRecDepth 100000 in
theorem rowPush_st {B : Nat} {w : World} {gp : Nat} {mp : Value} {n : Nat} {a : Nat → Int} (h : St B w gp mp n a) (x : Int) (hn : n ≤ 1000000) (hB : B ≤ w.heap.size) :
    Calls Try.prog 34 #[.pointer (some ⟨gp, 0, none⟩), .iface 3 (.int .i64 x)] w fun e w' => e = .returned (.tuple #[]) ∧ St B w' gp mp (n + 1) (ext a n x) ∧ Fr B w w' := by
  obtain ⟨hBg, v, hv, hr⟩ := h
  obtain ⟨i0, hi, hzz⟩ := Option.map_eq_some_iff.1 Try.info3
  simp only [Prod.mk.injEq] at hzz
  obtain ⟨hz, hs, hb⟩ := hzz
  have c0 : w.cell? ⟨gp, 0, none⟩ = some v := by simp [World.cell?, hv]
  have lgp : gp < w.heap.size := (Array.getElem?_eq_some_iff.1 hv).1
  have ht : ∀ w, (Instr.typeAssert (.iface 3 (.int .i64 x)) 20 3 true).run Try.prog w = .ok (.tuple #[.int .i64 x, .bool true]) w := by intro w; kernel_rfl
  have hown := row_own hr
  have hne : v.ownBlock ≠ some gp := by
    rcases hr with ⟨rfl, -⟩ | ⟨g, c, cur, rfl, hg, hc, -⟩
    · simp [Value.ownBlock]
    · intro e
      have : g = gp := by simpa [Value.ownBlock] using e
      rw [this, hv] at hc
      cases hc
  have hrow : ∀ k, v.ownBlock = some k → B ≤ k ∧ ∃ cur t, w.heap[k]? = some (.cells cur t (0, 0)) := by
    intro k hk
    rcases hr with ⟨rfl, -⟩ | ⟨g, c, cur, rfl, hg, hc, -⟩
    · simp [Value.ownBlock] at hk
    · have : g = k := by simpa [Value.ownBlock] using hk
      subst this
      exact ⟨hg, cur, 3, hc⟩
  have HS := And.intro hv (And.intro hrow hne)
  clear hr hv hrow
  go_enter Try.func34, Try.ntmps34
  go_wp2_with (at_builtin; refine wpList_append_own _ rfl _ _ 34 rfl B 3 i0 (.int .i64 0) 1 8 Try.underlying34 hi hz hs hb rfl (by decide) v n (nums n a) rfl (hown.alloc _) ⟨w.heap.size, 0, none⟩ 1 1 [.int .i64 x] rfl rfl ?c1 ?c2 ?c3 ?c4 ?c5 ?_)
  case c1 =>
    intro j u hj
    match j, hj with
    | 0, hj =>
      simp at hj
      subst hj
      have e1 : (w.alloc (.cells #[.int .i64 x] 3)).heap[w.heap.size]? = some (.cells #[.int .i64 x] 3 (0, 0)) := heap_alloc_new w _
      have e2 : Addr.add ⟨w.heap.size, 0, none⟩ 0 = ⟨w.heap.size, 0, none⟩ := rfl
      rw [e2]
      simp only [World.cell?, e1]
      rfl
  case c2 =>
    intro u hu
    rw [List.mem_singleton] at hu
    subst hu
    rfl
  case c3 => unfold maxLen; omega
  case c4 => omega
  case c5 => rw [World.size_alloc]; omega
  intro v' w' hown' hgrow' _
  have hv1 : w'.heap[gp]? = some (.cells #[v, mp] 36 (0, 0)) := by
    refine (hgrow'.block gp (by rw [World.size_alloc]; omega) (fun e => HS.2.2 e.symm)).trans ?_
    exact (Below.heap_alloc w _ gp lgp).trans HS.1
  have c1 : w'.cell? ⟨gp, 0, none⟩ = some v := by simp [World.cell?, hv1]
  have f1 : w'.frozen? ⟨gp, 0, none⟩ = false := by simp [World.frozen?, hv1]
  have F1 : Fr B w w' := fr_grown (fr_alloc (Fr.refl B w) hB _) (by rw [World.size_alloc]; omega) hgrow' (fun k hk => by
    obtain ⟨h1, cur, t, h2⟩ := HS.2.1 k hk
    exact ⟨h1, cur, t, (Below.heap_alloc w _ k (Array.getElem?_eq_some_iff.1 h2).1).trans h2⟩)
  have F2 : Fr B w (w'.setCell ⟨gp, 0, none⟩ v') := fr_set F1 hBg hv1 0 v'
  have hv2 := heap_setCell_same w' gp 0 _ 36 v' hv1
  have R2 : RowIs B (w'.setCell ⟨gp, 0, none⟩ v') v' (n + 1) (ext a n x) := by
    rw [nums_ext] at hown'
    rcases own_row hown' with h1 | ⟨g, c, cur, h1, h2, h3, h4⟩
    · exact .inl h1
    · refine .inr ⟨g, c, cur, h1, h2, ?_, h4⟩
      rw [heap_setCell_other _ _ _ _ (fun e => by
        have e' : g = gp := e
        rw [e', hv1] at h3
        cases h3)]
      exact h3
  have S2 : St B (w'.setCell ⟨gp, 0, none⟩ v') gp mp (n + 1) (ext a n x) := ⟨hBg, v', hv2, R2⟩
  obtain ⟨g', c', rfl⟩ : ∃ g' c', v' = .slice (some ⟨g', 0, none⟩) (n + 1) c' := by
    rcases R2 with ⟨-, h1⟩ | ⟨g, c, cur, h1, -⟩
    · omega
    · exact ⟨g, c, h1⟩
  have HH := And.intro S2 F2
  clear R2 S2 F2 F1 hv2 hown' hgrow' hv1 HS hown
  go_wp2
  go_end0
  exact ⟨rfl, HH⟩

set_option maxHeartbeats 1000000 in
set_option maxRecDepth 100000 in
theorem rowPop_st {B : Nat} {w : World} {gp : Nat} {mp : Value} {n : Nat} {a : Nat → Int} (h : St B w gp mp (n + 1) a) (hn : n ≤ 1000000) :
    Calls Try.prog 33 #[.pointer (some ⟨gp, 0, none⟩)] w fun e w' => e = .returned (.iface 3 (.int .i64 (a n))) ∧ St B w' gp mp n a ∧ Fr B w w' := by
  obtain ⟨g, c, cur, hv, hg, hc, h2, h3, h4, h5, hne⟩ := h.open_ (by omega)
  have hBg := h.hB
  have c0 : w.cell? ⟨gp, 0, none⟩ = some (.slice (some ⟨g, 0, none⟩) (n + 1) c) := by simp [World.cell?, hv]
  have f0 : w.frozen? ⟨gp, 0, none⟩ = false := by simp [World.frozen?, hv]
  have hb : w.cell? ⟨g, n, none⟩ = some (.int .i64 (a n)) := by simp [World.cell?, hc, h5 n (by omega)]
  have F2 : Fr B w (w.setCell ⟨gp, 0, none⟩ (.slice (some ⟨g, 0, none⟩) n c)) := fr_set (Fr.refl B w) hBg hv 0 _
  have S2 : St B (w.setCell ⟨gp, 0, none⟩ (.slice (some ⟨g, 0, none⟩) n c)) gp mp n a := by
    refine ⟨hBg, _, heap_setCell_same w gp 0 _ 36 _ hv, .inr ⟨g, c, cur, rfl, hg, ?_, by omega, h3, h4, fun i hi => h5 i (by omega)⟩⟩
    rw [heap_setCell_other _ _ _ _ (by exact hne)]
    exact hc
  have HH := And.intro S2 F2
  clear S2 F2 h hv hc h5
  go_enter Try.func33, Try.ntmps33
  go_wp2
  go_ret
  exact ⟨rfl, HH⟩
theorem rowLen_calls (w : World) (v : Value) (B n : Nat) (a : Nat → Int) (h : RowIs B w v n a) : Calls Try.prog 30 #[v] w fun e w' => e = .returned (.int .i64 n) ∧ w' = w := by
  have key : ∀ A c, Calls Try.prog 30 #[.slice A n c] w fun e w' => e = .returned (.int .i64 n) ∧ w' = w := by
    intro A c
    go_enter Try.func30, Try.ntmps30
    go_wp2
    go_ret
    exact ⟨rfl, rfl⟩
  rcases h with ⟨rfl, rfl⟩ | ⟨g, c, cur, rfl, -⟩
  · exact key _ _
  · exact key _ _
end Go.Proofs.Ytpanndfhgpbahaa
