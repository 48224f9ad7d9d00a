/-
  Push and Pop again: other maps stay as they are; and how many there are in a map of marks.
-/
import Derived.Test.YtpanndfhgpbahaaWl
import Derived.OpenShut
set_option linter.unusedSimpArgs false
set_option linter.unusedVariables false
namespace Go.Proofs.Ytpanndfhgpbahaa
open Go.RowKit Go.Maps Go.ChangeMaps Go.MapKept
/-- Every map but gm is as it was. -/
def Oth (gm : Nat) (w w' : World) : Prop := ∀ (k : Nat) (es : Array MapEntry) (ck : Nat), k ≠ gm → w.heap[k]? = some (Obj.map es ck) → w'.heap[k]? = some (Obj.map es ck)
set_option maxHeartbeats 4000000 in
set_option maxRecDepth 100000 in
theorem wPush2 {B : Nat} {w : World} {gp gm m n : Nat} {a : Nat → Int} (h : WS B w gp gm m n a) (x : Int) (hx : InR x) (hn : n < 1000000) (hm : m < 1000000) (hB : B ≤ w.heap.size) :
    Calls Try.prog 9 #[.pointer (some ⟨gp, 0, none⟩), .int .i64 x] w fun e w' => Below B w w' ∧ Oth gm w w' ∧
      (((∃ i, i < n ∧ a i = x) ∧ e = .returned (.bool false) ∧ WS B w' gp gm m n a) ∨
       ((¬ ∃ i, i < n ∧ a i = x) ∧ e = .returned (.bool true) ∧ ∃ b, WS B w' gp gm (m + 1) (n + 1) b ∧ ∀ y, (∃ i, i < n + 1 ∧ b i = y) ↔ (y = x ∨ ∃ i, i < n ∧ a i = y))) := by
  obtain ⟨A, c, hv⟩ := ws_cells h
  have c1 : w.cell? ⟨gp, 1, none⟩ = some (.map (some gm)) := by simp [World.cell?, hv]
  have lk := hm_look h.map hx
  by_cases hS : ∃ i, i < n ∧ a i = x
  · have l1 := lk.1 hS
    have HH : Below B w w ∧ Oth gm w w ∧ ((∃ i, i < n ∧ a i = x) ∧ WS B w gp gm m n a) := ⟨Below.refl _ _, fun _ _ _ _ h => h, hS, h⟩
    clear lk hv h hS
    go_enter Try.func9, Try.ntmps9
    go_wp2
    go_ret
    exact ⟨HH.1, HH.2.1, .inl ⟨HH.2.2.1, rfl, HH.2.2.2⟩⟩
  · have l0 := lk.2 hS
    obtain ⟨D, ho, hD⟩ := h.map
    have hkey := key_of hx
    have hval : plainElem (H := Unit) Try.prog 3 (.int .i64 1) = some (z1, []) := plainElem_int Try.underlying3 (by decide)
    have HS := Aside0.mk (And.intro h (And.intro hS (And.intro hv hD)))
    have hom := Aside0.mk ho
    clear lk hv h hS hD ho
    go_enter Try.func9, Try.ntmps9
    go_wp2_with (at_mapUpdate; refine wpList_mapUpdate_own _ rfl _ _ _ 33 rfl 3 3 keyed3 Try.underlying33 _ gm m D rfl hom.out (by unfold maxLen; omega) _ _ (.int .i64 x) rfl rfl hkey z1 [] hval ?_)
    intro w1 ho1 hg1
    have hmap : ∃ es ck, w.heap[gm]? = some (Obj.map es ck) := by
      obtain ⟨es, ck, h1, -⟩ := hom.out
      exact ⟨es, ck, h1⟩
    have S1 := Aside0.mk (st_grown HS.out.1.st hg1 hmap)
    have M1 := Aside0.mk (hm_put hom.out HS.out.2.2.2 x ho1)
    have B1 : Below B w w1 := (Below.refl B w).grown hg1 hB (fun k hk => by injection hk with hk; rw [← hk]; exact HS.out.1.hgm)
    have B1' := Aside0.mk B1
    have O1 : Oth gm w w1 := fun k es ck hk h => (hg1.block k (Array.getElem?_eq_some_iff.1 h).1 (fun e => hk (by injection e))).trans h
    have O1' := Aside0.mk O1
    clear O1
    have A1 := Aside0.mk (hpush_st S1.out HS.out.1.heap x (by omega) (Nat.le_trans hB B1.size))
    have c1' : w1.cell? ⟨gp, 1, none⟩ = some (.map (some gm)) := by
      obtain ⟨v, hv, -⟩ := S1.out.row
      simp [World.cell?, hv]
    clear ho1 hg1 hmap B1 l0
    go_wp2_with (first | (go_at_call 11; (with_reducible refine A1.out.mono ?_); rintro e w2 ⟨rfl, b, s2, f2, h2, m2⟩; have S2 := Aside0.mk s2; have F2 := Aside0.mk f2; have HH2 := Aside0.mk h2; have M2 := Aside0.mk m2; clear s2 f2 h2 m2))
    go_ret
    refine ⟨B1'.out.trans F2.out.below, fun k es ck hk h => F2.out.maps k es ck (O1'.out k es ck hk h), .inr ⟨HS.out.2.1, rfl, b, ?_⟩⟩
    exact ws_put hx HS.out.1.inj HS.out.1.rng HS.out.1.hgm HS.out.2.1 (hm_keeps M1.out (fun es ck hk => F2.out.maps _ _ _ hk)) S2.out HH2.out M2.out
set_option maxHeartbeats 4000000 in
set_option maxRecDepth 100000 in
theorem wPop2 {B : Nat} {w : World} {gp gm m N : Nat} {a : Nat → Int} (h : WS B w gp gm m (N + 1) a) (hn : N < 1000000) (hB : B ≤ w.heap.size) :
    Calls Try.prog 8 #[.pointer (some ⟨gp, 0, none⟩)] w fun e w' => Below B w w' ∧ Oth gm w w' ∧ e = .returned (.tuple #[.int .i64 (a 0), .bool true]) ∧
      ∃ b, WS B w' gp gm m N b ∧ ∀ y, (∃ i, i < N ∧ b i = y) ↔ (y ≠ a 0 ∧ ∃ i, i < N + 1 ∧ a i = y) := by
  obtain ⟨g, c, cur, hv, hg, hc, h2, h3, h4, h5, hne⟩ := h.st.open_ (by omega)
  have c0 : w.cell? ⟨gp, 0, none⟩ = some (.slice (some ⟨g, 0, none⟩) (N + 1) c) := by simp [World.cell?, hv]
  have ca : w.cell? ⟨g, 0, none⟩ = some (.int .i64 (a 0)) := by simp [World.cell?, hc, h5 0 (by omega)]
  have A1 := Aside0.mk (hpop_st h.st h.heap hn)
  have hkey := Aside0.mk (key_of (h.rng 0 (by omega)))
  have H := Aside0.mk h
  clear hv hg hc h2 h3 h4 h5 hne h
  go_enter Try.func8, Try.ntmps8
  go_wp2_with (first
    | (go_at_call 10; (with_reducible refine A1.out.mono ?_); rintro e w1 ⟨rfl, b, s1, f1, h1, m1, e1⟩; have S1 := Aside0.mk s1; have F1 := Aside0.mk f1; have HH1 := Aside0.mk h1; have M1 := Aside0.mk m1; have E1 := Aside0.mk e1; clear s1 f1 h1 m1 e1; have c1' : w1.cell? ⟨gp, 1, none⟩ = some (.map (some gm)) := (by obtain ⟨v, hv, -⟩ := S1.out.row; simp [World.cell?, hv]); obtain ⟨D, ho, hD⟩ := hm_keeps H.out.map (fun es ck hk => F1.out.maps gm es ck hk); have ho' := Aside0.mk ho; have hD' := Aside0.mk hD; clear ho hD)
    | (at_delete; refine wpList_delete_own _ rfl _ _ 33 3 rfl 3 keyed3 Try.underlying33 _ gm m D rfl ho'.out _ (.int .i64 (a 0)) rfl hkey.out ?_; intro w2 ho2 ht2; have HO2 := Aside0.mk ho2; have HT2 := Aside0.mk ht2; clear ho2 ht2))
  go_ret2
  have hg2 := HT2.out.grown
  have hmap : ∃ es ck, w1.heap[gm]? = some (Obj.map es ck) := by
    obtain ⟨es, ck, h1, -⟩ := ho'.out
    exact ⟨es, ck, h1⟩
  refine ⟨F1.out.below.trans ((Below.refl B w1).grown hg2 (Nat.le_trans hB F1.out.below.size) (fun k hk => by injection hk with hk; rw [← hk]; exact H.out.hgm)), fun k es ck hk h => (hg2.block k (Array.getElem?_eq_some_iff.1 (F1.out.maps k es ck h)).1 (fun e => hk (by injection e))).trans (F1.out.maps k es ck h), rfl, b, ?_⟩
  exact ws_pop H.out.inj H.out.rng H.out.hgm (hm_del hD'.out (a 0) HO2.out) (st_grown S1.out hg2 hmap) HH1.out M1.out E1.out

theorem mem_insert (x p : Lit × DataW Unit) : ∀ l : List (Lit × DataW Unit), p ∈ DataW.insert x l ↔ p = x ∨ p ∈ l
  | [] => by simp [DataW.insert]
  | y :: r => by
    unfold DataW.insert
    split
    · simp
    · simp only [List.mem_cons, mem_insert x p r]
      constructor
      · rintro (h | h | h)
        · exact .inr (.inl h)
        · exact .inl h
        · exact .inr (.inr h)
      · rintro (h | h | h)
        · exact .inr (.inl h)
        · exact .inl h
        · exact .inr (.inr h)
theorem mem_sorted (p : Lit × DataW Unit) : ∀ l : List (Lit × DataW Unit), p ∈ l.foldr DataW.insert [] ↔ p ∈ l
  | [] => by simp
  | y :: r => by rw [List.foldr_cons, mem_insert, mem_sorted p r, List.mem_cons]
def litInt (l : Lit) : Int := match l with
  | .int _ x => x
  | _ => 0
theorem int_bounds' {x : Int} (h : (Lit.int .i64 x).wf = true) : InR x := by
  have := bounds_i64 h
  exact ⟨by omega, by omega⟩
/-- As many marks as numbers. -/
theorem marks_card {W : World} {gb m cnt k : Nat} {D : DataW Unit} {S : Int → Prop} {a : Nat → Int} (ho : W.ownsMap Try.prog 3 (plainElem Try.prog 4) gb m D) (h : Marks D S cnt) (inj : ∀ i j, i < k → j < k → a i = a j → i = j)
    (hS : ∀ y, S y ↔ ∃ i, i < k ∧ a i = y) (rng : ∀ i, i < k → InR (a i)) : cnt = k := by
  have ht := ho.tidy keyed3
  obtain ⟨es, clock, -, F, -, hD⟩ := ho
  obtain ⟨L, rfl, hp⟩ := ht
  injection hD with hL
  have keys : ∀ p ∈ L, ∃ x, p.1 = .int .i64 x ∧ InR x := fun p hpm => by
    rw [hL, mem_sorted] at hpm
    obtain ⟨e, he, rfl⟩ := List.mem_map.1 hpm
    obtain ⟨y, hy⟩ := F.reads e he
    obtain ⟨x, -, h2, h3⟩ := Maps.keyOf_int_inv Try.underlying3 (WideElems.rd_key hy)
    rw [WideElems.rg_of hy]
    exact ⟨x, h2, int_bounds' h3⟩
  have h1 := card (k := k) (l := L.map fun p => litInt p.1) (a := a) inj ?_ ?_
  · rw [List.length_map] at h1
    rw [← h.size]
    exact h1
  · unfold List.Nodup
    rw [List.pairwise_map]
    refine hp.imp_of_mem fun {p q} hpm hqm hne e => ?_
    obtain ⟨x, hx, -⟩ := keys p hpm
    obtain ⟨y, hy, -⟩ := keys q hqm
    rw [hx, hy] at e hne
    exact hne (by rw [show x = y from e])
  · intro y
    rw [← hS y]
    constructor
    · intro hm
      obtain ⟨p, hpm, rfl⟩ := List.mem_map.1 hm
      obtain ⟨x, hx, hr⟩ := keys p hpm
      rw [hx]
      show S x
      by_cases hs : S x
      · exact hs
      · have h2 := h.no x hr hs
        rw [has_eq] at h2
        have := List.any_eq_false.1 h2 p hpm
        rw [hx] at this
        exact absurd (WideAt.sameKey_self (show WideAt.IsKeyLit (.int .i64 x) from trivial)) this
    · intro hs
      obtain ⟨i, hi, e⟩ := (hS y).1 hs
      have hr : InR y := by rw [← e]; exact rng i hi
      have h2 := (h.yes y hr hs).1
      rw [has_eq] at h2
      obtain ⟨p, hpm, hk⟩ := List.any_eq_true.1 h2
      have h3 := WideAt.sameKey_eq hk
      exact List.mem_map.2 ⟨p, hpm, by rw [h3]; rfl⟩
end Go.Proofs.Ytpanndfhgpbahaa
