/-
  Push, Pop and Len of the Work.
-/
import Derived.Test.YtpanndfhgpbahaaWf
set_option linter.unusedSimpArgs false
set_option linter.unusedVariables false
namespace Go.Proofs.Ytpanndfhgpbahaa
open Go.RowKit Go.Maps Go.ChangeMaps Go.MapKept

theorem ws_cells {B : Nat} {W : World} {gp gm m n : Nat} {a : Nat → Int} (h : WS B W gp gm m n a) : ∃ A c, W.heap[gp]? = some (.cells #[.slice A n c, .map (some gm)] 36 (0, 0)) := by
  obtain ⟨v, hv, hr⟩ := h.st.row
  obtain ⟨A, c, rfl⟩ := row_slice hr
  exact ⟨A, c, hv⟩
set_option maxRecDepth 100000 in
theorem wLen_st {B : Nat} {w : World} {gp gm m n : Nat} {a : Nat → Int} (h : WS B w gp gm m n a) : Calls Try.prog 7 #[.pointer (some ⟨gp, 0, none⟩)] w fun e w' => e = .returned (.int .i64 n) ∧ w' = w := by
  obtain ⟨A, c, hv⟩ := ws_cells h
  have c0 : w.cell? ⟨gp, 0, none⟩ = some (.slice A n c) := by simp [World.cell?, hv]
  clear hv h
  go_enter Try.func7, Try.ntmps7
  go_wp2
  go_ret
  exact ⟨rfl, rfl⟩
/-- Behind a number that was put in. -/
theorem ws_put {B : Nat} {W' : World} {gp gm m n : Nat} {a b : Nat → Int} {x : Int} (hx : InR x) (inj : ∀ i k, i < n → k < n → a i = a k → i = k) (rng : ∀ i, i < n → InR (a i)) (hgm : B ≤ gm) (hn : ¬ ∃ i, i < n ∧ a i = x)
    (hm : HasMap W' gm m (fun y => y = x ∨ ∃ i, i < n ∧ a i = y)) (st : St B W' gp (.map (some gm)) (n + 1) b) (hh : Heap (n + 1) b) (hs : Same (n + 1) (ext a n x) b) :
    WS B W' gp gm m (n + 1) b ∧ ∀ y, (∃ i, i < n + 1 ∧ b i = y) ↔ (y = x ∨ ∃ i, i < n ∧ a i = y) := by
  have mem : ∀ y, (∃ i, i < n + 1 ∧ b i = y) ↔ (y = x ∨ ∃ i, i < n ∧ a i = y) := fun y => by
    rw [hs.mem]
    constructor
    · rintro ⟨i, hi, e⟩
      unfold ext at e
      split at e
      · exact .inl e.symm
      · exact .inr ⟨i, by omega, e⟩
    · rintro (rfl | ⟨i, hi, e⟩)
      · exact ⟨n, by omega, by unfold ext; rw [if_pos rfl]⟩
      · exact ⟨i, by omega, by unfold ext; rw [if_neg (by omega)]; exact e⟩
  refine ⟨⟨st, hh, hs.inj fun i k hi hk e => ?_, hm_same hm fun y => (mem y).symm, fun i hi => ?_, hgm⟩, mem⟩
  · unfold ext at e
    split at e
    · split at e
      · omega
      · exact absurd ⟨k, by omega, e.symm⟩ hn
    · split at e
      · exact absurd ⟨i, by omega, e⟩ hn
      · exact inj i k (by omega) (by omega) e
  · rcases (mem (b i)).1 ⟨i, hi, rfl⟩ with e | ⟨k, hk, e⟩
    · rw [e]; exact hx
    · rw [← e]; exact rng k hk
set_option maxHeartbeats 4000000 in
set_option maxRecDepth 100000 in
theorem wPush_st {B : Nat} {w : World} {gp gm m n : Nat} {a : Nat → Int} (h : WS B w gp gm m n a) (x : Int) (hx : InR x) (hn : n < 1000000) (hm : m < 1000000) (hB : B ≤ w.heap.size) :
    Calls Try.prog 9 #[.pointer (some ⟨gp, 0, none⟩), .int .i64 x] w fun e w' => Below B w w' ∧
      (((∃ i, i < n ∧ a i = x) ∧ e = .returned (.bool false) ∧ WS B w' gp gm m n a) ∨
       ((¬ ∃ i, i < n ∧ a i = x) ∧ e = .returned (.bool true) ∧ ∃ b, WS B w' gp gm (m + 1) (n + 1) b ∧ ∀ y, (∃ i, i < n + 1 ∧ b i = y) ↔ (y = x ∨ ∃ i, i < n ∧ a i = y))) := by
  obtain ⟨A, c, hv⟩ := ws_cells h
  have c1 : w.cell? ⟨gp, 1, none⟩ = some (.map (some gm)) := by simp [World.cell?, hv]
  have lk := hm_look h.map hx
  by_cases hS : ∃ i, i < n ∧ a i = x
  · have l1 := lk.1 hS
    have HH : Below B w w ∧ ((∃ i, i < n ∧ a i = x) ∧ WS B w gp gm m n a) := ⟨Below.refl _ _, hS, h⟩
    clear lk hv h hS
    go_enter Try.func9, Try.ntmps9
    go_wp2
    go_ret
    exact ⟨HH.1, .inl ⟨HH.2.1, rfl, HH.2.2⟩⟩
  · have l0 := lk.2 hS
    obtain ⟨D, ho, hD⟩ := h.map
    have hkey := key_of hx
    have hval : plainElem (H := Unit) Try.prog 3 (.int .i64 1) = some (z1, []) := plainElem_int Try.underlying3 (by decide)
    have HS := Aside0.mk (And.intro h (And.intro hS (And.intro hv hD)))
    have hom := Aside0.mk ho
    clear lk hv h hS hD ho
    go_enter Try.func9, Try.ntmps9
    go_wp2_with (at_mapUpdate; refine wpList_mapUpdate_own _ rfl _ _ _ 33 rfl 3 3 keyed3 Try.underlying33 _ gm m D rfl hom.out (by unfold maxLen; omega) _ _ (.int .i64 x) rfl rfl hkey z1 [] hval ?_)
    intro w1 ho1 hg1
    have hmap : ∃ es ck, w.heap[gm]? = some (Obj.map es ck) := by
      obtain ⟨es, ck, h1, -⟩ := hom.out
      exact ⟨es, ck, h1⟩
    have S1 := Aside0.mk (st_grown HS.out.1.st hg1 hmap)
    have M1 := Aside0.mk (hm_put hom.out HS.out.2.2.2 x ho1)
    have B1 : Below B w w1 := (Below.refl B w).grown hg1 hB (fun k hk => by injection hk with hk; rw [← hk]; exact HS.out.1.hgm)
    have B1' := Aside0.mk B1
    have A1 := Aside0.mk (hpush_st S1.out HS.out.1.heap x (by omega) (Nat.le_trans hB B1.size))
    have c1' : w1.cell? ⟨gp, 1, none⟩ = some (.map (some gm)) := by
      obtain ⟨v, hv, -⟩ := S1.out.row
      simp [World.cell?, hv]
    clear ho1 hg1 hmap B1 l0
    go_wp2_with (first | (go_at_call 11; (with_reducible refine A1.out.mono ?_); rintro e w2 ⟨rfl, b, s2, f2, h2, m2⟩; have S2 := Aside0.mk s2; have F2 := Aside0.mk f2; have HH2 := Aside0.mk h2; have M2 := Aside0.mk m2; clear s2 f2 h2 m2))
    go_ret
    refine ⟨B1'.out.trans F2.out.below, .inr ⟨HS.out.2.1, rfl, b, ?_⟩⟩
    exact ws_put hx HS.out.1.inj HS.out.1.rng HS.out.1.hgm HS.out.2.1 (hm_keeps M1.out (fun es ck hk => F2.out.maps _ _ _ hk)) S2.out HH2.out M2.out

theorem heap_min {n : Nat} {a : Nat → Int} (h : Heap n a) : ∀ i, i < n → a 0 ≤ a i := by
  intro i
  induction i using Nat.strongRecOn with
  | _ i ih =>
    intro hi
    by_cases e : i = 0
    · rw [e]; exact Int.le_refl _
    · have h1 := ih ((i - 1) / 2) (by omega) (by omega)
      have h2 := h i (by omega) hi
      omega
/-- Behind the least number, taken. -/
theorem ws_pop {B : Nat} {W' : World} {gp gm m N : Nat} {a b : Nat → Int} (inj : ∀ i k, i < N + 1 → k < N + 1 → a i = a k → i = k) (rng : ∀ i, i < N + 1 → InR (a i)) (hgm : B ≤ gm)
    (hm : HasMap W' gm m (fun y => y ≠ a 0 ∧ ∃ i, i < N + 1 ∧ a i = y)) (st : St B W' gp (.map (some gm)) N b) (hh : Heap N b) (hs : Same (N + 1) a b) (h0 : b N = a 0) :
    WS B W' gp gm m N b ∧ ∀ y, (∃ i, i < N ∧ b i = y) ↔ (y ≠ a 0 ∧ ∃ i, i < N + 1 ∧ a i = y) := by
  have injb := hs.inj inj
  have mem : ∀ y, (∃ i, i < N ∧ b i = y) ↔ (y ≠ a 0 ∧ ∃ i, i < N + 1 ∧ a i = y) := fun y => by
    rw [← hs.mem]
    constructor
    · rintro ⟨i, hi, rfl⟩
      refine ⟨fun e => ?_, i, by omega, rfl⟩
      have := injb i N (by omega) (by omega) (by rw [e, h0])
      omega
    · rintro ⟨hne, i, hi, rfl⟩
      refine ⟨i, ?_, rfl⟩
      by_cases e : i = N
      · rw [e, h0] at hne
        exact absurd rfl hne
      · omega
  refine ⟨⟨st, hh, fun i k hi hk e => injb i k (by omega) (by omega) e, hm_same hm fun y => (mem y).symm, fun i hi => ?_, hgm⟩, mem⟩
  obtain ⟨-, k, hk, e⟩ := (mem (b i)).1 ⟨i, hi, rfl⟩
  rw [← e]
  exact rng k hk
set_option maxHeartbeats 4000000 in
set_option maxRecDepth 100000 in
theorem wPop_none {B : Nat} {w : World} {gp gm m : Nat} {a : Nat → Int} (h : WS B w gp gm m 0 a) : Calls Try.prog 8 #[.pointer (some ⟨gp, 0, none⟩)] w fun e w' => e = .returned (.tuple #[.int .i64 0, .bool false]) ∧ w' = w := by
  obtain ⟨A, c, hv⟩ := ws_cells h
  have c0 : w.cell? ⟨gp, 0, none⟩ = some (.slice A 0 c) := by simp [World.cell?, hv]
  clear hv h
  go_enter Try.func8, Try.ntmps8
  go_wp2
  go_ret2
  exact ⟨rfl, rfl⟩
set_option maxHeartbeats 4000000 in
set_option maxRecDepth 100000 in
theorem wPop_some {B : Nat} {w : World} {gp gm m N : Nat} {a : Nat → Int} (h : WS B w gp gm m (N + 1) a) (hn : N < 1000000) (hB : B ≤ w.heap.size) :
    Calls Try.prog 8 #[.pointer (some ⟨gp, 0, none⟩)] w fun e w' => Below B w w' ∧ e = .returned (.tuple #[.int .i64 (a 0), .bool true]) ∧
      ∃ b, WS B w' gp gm m N b ∧ ∀ y, (∃ i, i < N ∧ b i = y) ↔ (y ≠ a 0 ∧ ∃ i, i < N + 1 ∧ a i = y) := by
  obtain ⟨g, c, cur, hv, hg, hc, h2, h3, h4, h5, hne⟩ := h.st.open_ (by omega)
  have c0 : w.cell? ⟨gp, 0, none⟩ = some (.slice (some ⟨g, 0, none⟩) (N + 1) c) := by simp [World.cell?, hv]
  have ca : w.cell? ⟨g, 0, none⟩ = some (.int .i64 (a 0)) := by simp [World.cell?, hc, h5 0 (by omega)]
  have A1 := Aside0.mk (hpop_st h.st h.heap hn)
  have hkey := Aside0.mk (key_of (h.rng 0 (by omega)))
  have H := Aside0.mk h
  clear hv hg hc h2 h3 h4 h5 hne h
  go_enter Try.func8, Try.ntmps8
  go_wp2_with (first
    | (go_at_call 10; (with_reducible refine A1.out.mono ?_); rintro e w1 ⟨rfl, b, s1, f1, h1, m1, e1⟩; have S1 := Aside0.mk s1; have F1 := Aside0.mk f1; have HH1 := Aside0.mk h1; have M1 := Aside0.mk m1; have E1 := Aside0.mk e1; clear s1 f1 h1 m1 e1; have c1' : w1.cell? ⟨gp, 1, none⟩ = some (.map (some gm)) := (by obtain ⟨v, hv, -⟩ := S1.out.row; simp [World.cell?, hv]); obtain ⟨D, ho, hD⟩ := hm_keeps H.out.map (fun es ck hk => F1.out.maps gm es ck hk); have ho' := Aside0.mk ho; have hD' := Aside0.mk hD; clear ho hD)
    | (at_delete; refine wpList_delete_own _ rfl _ _ 33 3 rfl 3 keyed3 Try.underlying33 _ gm m D rfl ho'.out _ (.int .i64 (a 0)) rfl hkey.out ?_; intro w2 ho2 ht2; have HO2 := Aside0.mk ho2; have HT2 := Aside0.mk ht2; clear ho2 ht2))
  go_ret2
  have hg2 := HT2.out.grown
  have hmap : ∃ es ck, w1.heap[gm]? = some (Obj.map es ck) := by
    obtain ⟨es, ck, h1, -⟩ := ho'.out
    exact ⟨es, ck, h1⟩
  refine ⟨F1.out.below.trans ((Below.refl B w1).grown hg2 (Nat.le_trans hB F1.out.below.size) (fun k hk => by injection hk with hk; rw [← hk]; exact H.out.hgm)), rfl, b, ?_⟩
  exact ws_pop H.out.inj H.out.rng H.out.hgm (hm_del hD'.out (a 0) HO2.out) (st_grown S1.out hg2 hmap) HH1.out M1.out E1.out
end Go.Proofs.Ytpanndfhgpbahaa
