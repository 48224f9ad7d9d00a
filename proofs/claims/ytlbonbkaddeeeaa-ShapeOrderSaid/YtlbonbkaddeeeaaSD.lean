/-
  The walk of the document's joining of shapes.
-/
import Derived.Test.YtlbonbkaddeeeaaSC
set_option linter.unusedSimpArgs false
set_option linter.unusedVariables false
namespace Go.Proofs.Ytlbonbkaddeeeaa
open Go.RowKit Go.Eng Go.Conch

def zeros39 : Obj := .cells #[.bool false, .bool false, .int .u64 0, .int .u64 0, .int .u64 0, .int .u64 0, .bool false, .string ⟨#[]⟩] 39 (0, 0)
theorem run_alloc39 (o : Oper) (h : o.op = .alloc 39) (ρ : Operand → Value) (W : World) : (execOp ρ o).run Try.prog W = .ok (.value (newPtr W.heap.size)) (W.alloc zeros39) := by
  unfold execOp
  rw [h]
  kernel_rfl

theorem later3 {w x wr : World} {o0 o1 o2 : Obj} (h : later (((w.alloc o0).alloc o1).alloc o2) x = wr) :
    Below w.heap.size w wr ∧ wr.heap[w.heap.size]? = some o0 ∧ wr.heap[w.heap.size + 1]? = some o1 ∧ wr.heap[w.heap.size + 1 + 1]? = some o2 := by
  subst h
  refine ⟨?_, ?_, ?_, ?_⟩
  · repeat' (with_reducible (first | exact Below.refl _ _ | assumption | refine Below.drew ?_ | refine Below.alloc ?_ ?_ _ | refine Below.setCell ?_ ?_ _ | refine below_later ?_ ?_ _))
    all_goals (repeat' (with_reducible (first | exact Nat.le_refl _ | assumption | refine le_size_later ?_ | refine le_size_alloc ?_ | refine le_size_set ?_ | refine le_size_drew ?_)))
    all_goals (first | omega | (simp; done) | (simp; omega))
  · refine block_later ?_
    repeat (first | (refine alloc_here ?_; simp; done) | (refine (alloc_old ?_).trans ?_; (simp <;> omega)))
  · refine block_later ?_
    repeat (first | (refine alloc_here ?_; simp; done) | (refine (alloc_old ?_).trans ?_; (simp <;> omega)))
  · refine block_later ?_
    repeat (first | (refine alloc_here ?_; simp; done) | (refine (alloc_old ?_).trans ?_; (simp <;> omega)))
theorem later_keep3 {w wr x wv : World} {b0 b1 b2 : Nat} {o0 o1 o2 : Obj} (hB : Below w.heap.size w wr) (h0 : wr.heap[b0]? = some o0) (h1 : wr.heap[b1]? = some o1) (h2 : wr.heap[b2]? = some o2)
    (h : later wr x = wv) : Below w.heap.size w wv ∧ wv.heap[b0]? = some o0 ∧ wv.heap[b1]? = some o1 ∧ wv.heap[b2]? = some o2 := by
  subst h
  exact ⟨below_later hB hB.size x, block_later h0, block_later h1, block_later h2⟩

theorem later_stored {w W x wv : World} {b0 b1 b2 n : Nat} {o0 o1 o2 : Obj} {t : TypeId} {x0 x1 x2 x3 x4 x5 x6 x7 v0 v1 v2 v3 v4 v5 v6 v7 : Value} (hB : Below w.heap.size w W) (h0 : W.heap[b0]? = some o0) (h1 : W.heap[b1]? = some o1) (h2 : W.heap[b2]? = some o2)
    (hn : W.heap[n]? = some (.cells #[x0, x1, x2, x3, x4, x5, x6, x7] t (0, 0))) (n0 : n ≠ b0) (n1 : n ≠ b1) (n2 : n ≠ b2) (hw : w.heap.size ≤ n)
    (h : later ((((((((W.setCell ⟨n, 0, none⟩ v0).setCell ⟨n, 1, none⟩ v1).setCell ⟨n, 2, none⟩ v2).setCell ⟨n, 3, none⟩ v3).setCell ⟨n, 4, none⟩ v4).setCell ⟨n, 5, none⟩ v5).setCell ⟨n, 6, none⟩ v6).setCell ⟨n, 7, none⟩ v7) x = wv) :
    Below w.heap.size w wv ∧ wv.heap[b0]? = some o0 ∧ wv.heap[b1]? = some o1 ∧ wv.heap[b2]? = some o2 ∧ wv.heap[n]? = some (.cells #[v0, v1, v2, v3, v4, v5, v6, v7] t (0, 0)) := by
  subst h
  have hb := below_eight hB hw v0 v1 v2 v3 v4 v5 v6 v7
  exact ⟨below_later hb hb.size x, block_later ((store_eight_ne n0 v0 v1 v2 v3 v4 v5 v6 v7).trans h0), block_later ((store_eight_ne n1 v0 v1 v2 v3 v4 v5 v6 v7).trans h1), block_later ((store_eight_ne n2 v0 v1 v2 v3 v4 v5 v6 v7).trans h2),
    block_later (store_eight hn v0 v1 v2 v3 v4 v5 v6 v7)⟩

set_option maxRecDepth 100000 in
set_option maxHeartbeats 20000000 in
theorem refjoin_pure (x y : Sh) : Pure Try.prog 58 #[x.val, y.val] (x.refJoin y).val := by
  intro w
  have px := refshnone_pure x
  have py := refshnone_pure y
  have qx := could_pure x
  have qy := could_pure y
  generalize hR : (x.refJoin y).val = R
  unfold Sh.refJoin at hR
  rw [← toList_beq] at hR
  generalize x.there = tx at *
  generalize y.there = ty at *
  generalize x.none = nx at *
  generalize y.none = ny at *
  obtain ⟨u, e, h, k, l⟩ := x
  obtain ⟨u2, e2, h2, k2, l2⟩ := y
  replace hR := hide hR
  rcases nx with _ | _
  · rcases ny with _ | _
    · rcases e with _ | _
      all_goals
        go_enter Try.func58, Try.ntmps58
        go_wp2_with (first | ((go_at_call 61; (first | (with_reducible refine (Pure.inn px _ _).mono ?_) | (with_reducible refine (Pure.go px _).mono ?_)); rintro e w' ⟨rfl, x, rfl⟩); generalize hw : later (World.alloc _ _) _ = wr; obtain ⟨hB, f0, f1, f2⟩ := later3 hw; clear hw; obtain ⟨c00, c01, c02, c03, c04, c05, c06, c07, c08, c09⟩ := block_eight f0; obtain ⟨c10, c11, c12, c13, c14, c15, c16, c17, c18, c19⟩ := block_eight f1; obtain ⟨c20, c21, c22, c23, c24, c25, c26, c27, c28, c29⟩ := block_eight f2) | ((go_at_call 61; (first | (with_reducible refine (Pure.inn py _ _).mono ?_) | (with_reducible refine (Pure.go py _).mono ?_)); rintro e w' ⟨rfl, x, rfl⟩); clear c00 c01 c02 c03 c04 c05 c06 c07 c08 c09 c10 c11 c12 c13 c14 c15 c16 c17 c18 c19 c20 c21 c22 c23 c24 c25 c26 c27 c28 c29; generalize hw : later wr _ = wv; obtain ⟨hB', g0, g1, g2⟩ := later_keep3 hB f0 f1 f2 hw; clear hw hB f0 f1 f2; clear wr; revert hB' g0 g1 g2; revert wv; intro wr hB f0 f1 f2; obtain ⟨c00, c01, c02, c03, c04, c05, c06, c07, c08, c09⟩ := block_eight f0; obtain ⟨c10, c11, c12, c13, c14, c15, c16, c17, c18, c19⟩ := block_eight f1; obtain ⟨c20, c21, c22, c23, c24, c25, c26, c27, c28, c29⟩ := block_eight f2))
        refine region_new 13 [0, 1, 2, 3, 4, 5, 6, 7, 8, 9, 10, 11] [12] (fun _ => zeros39) (by kernel_rfl) (by kernel_rfl) ?_ ?_
        · intro i hi o ho ρ W
          simp only [List.mem_cons, List.not_mem_nil, or_false] at hi
          rcases hi with rfl
          simp only [List.getElem?_cons_zero, List.getElem?_cons_succ, Option.some.injEq] at ho; subst ho; exact run_alloc39 _ rfl ρ W
        simp only [picks, List.filterMap_cons, List.filterMap_nil, List.getElem?_cons_zero, List.getElem?_cons_succ]
        repeat (refine wpCalm_step (fun K hK => ?_); go_simp; (first | (refine hK _ ?_; clear hK K) | (apply Exists.intro; refine ⟨?_, hK _ ?_⟩; (first | exact refor_pure _ _); clear hK K)))
        refine wpCalm_nil ?_
        intro ν W hn
        have hb := hn.below
        have f3 := hn.block 12 (by simp) rfl
        have h8 := hn.new 12 (by simp) rfl
        simp only [withNew, if_true, newPtr, dstOf, List.getElem?_toArray, List.getElem?_cons_zero, List.getElem?_cons_succ, Option.bind_some, Act.put, List.setIfInBounds_toArray, List.set_cons_zero, List.set_cons_succ, List.drop_succ_cons, List.drop_zero]
        generalize ν 12 = n12 at *
        clear hn ν
        have hs := hB.size
        have g0 := (hb.block _ (block_lt f0)).trans f0
        have g1 := (hb.block _ (block_lt f1)).trans f1
        have g2 := (hb.block _ (block_lt f2)).trans f2
        have hs2 := block_lt f2
        have n0 : n12 ≠ w.heap.size := by omega
        have n1 : n12 ≠ w.heap.size + 1 := by omega
        have n2 : n12 ≠ w.heap.size + 1 + 1 := by omega
        have n3 : w.heap.size ≤ n12 := by omega
        have n4 : w.heap.size + 1 + 1 + 1 ≤ n12 := by omega
        have hBW : Below w.heap.size w W := hB.trans (hb.mono hs)
        have f4 := block_eight f3
        obtain ⟨d30, d31, d32, d33, d34, d35, d36, d37, d38, d39⟩ := f4
        clear c00 c01 c02 c03 c04 c05 c06 c07 c08 c09 c10 c11 c12 c13 c14 c15 c16 c17 c18 c19 c20 c21 c22 c23 c24 c25 c26 c27 c28 c29
        clear hb hB f0 f1 f2 h8 hs hs2 wr
        have hB := hBW
        clear hBW
        obtain ⟨d00, d01, d02, d03, d04, d05, d06, d07, d08, d09⟩ := block_eight g0
        obtain ⟨d10, d11, d12, d13, d14, d15, d16, d17, d18, d19⟩ := block_eight g1
        obtain ⟨d20, d21, d22, d23, d24, d25, d26, d27, d28, d29⟩ := block_eight g2
        have F3 := hide f3
        have G0 := hide g0
        have G1 := hide g1
        have G2 := hide g2
        clear f3 g0 g1 g2
        rcases u with _ | _
        · rcases tx with _ | _
          · skip
            go_wp2_with (first | ((go_at_call 91; (first | (with_reducible refine (Pure.inn qx _ _).mono ?_) | (with_reducible refine (Pure.go qx _).mono ?_)); rintro e w' ⟨rfl, x, rfl⟩); generalize hw : later (World.setCell _ _ _) _ = wv; obtain ⟨hB', q0, q1, q2, q3⟩ := later_stored hB G0.out G1.out G2.out F3.out n0 n1 n2 n3 hw; clear hw hB G0 G1 G2 F3; clear d00 d01 d02 d03 d04 d05 d06 d07 d08 d09 d10 d11 d12 d13 d14 d15 d16 d17 d18 d19 d20 d21 d22 d23 d24 d25 d26 d27 d28 d29 d30 d31 d32 d33 d34 d35 d36 d37 d38 d39; clear W; revert hB' q0 q1 q2 q3; revert wv; intro wr hB f0 f1 f2 f3; obtain ⟨c00, c01, c02, c03, c04, c05, c06, c07, c08, c09⟩ := block_eight f0; obtain ⟨c10, c11, c12, c13, c14, c15, c16, c17, c18, c19⟩ := block_eight f1; obtain ⟨c20, c21, c22, c23, c24, c25, c26, c27, c28, c29⟩ := block_eight f2; obtain ⟨c30, c31, c32, c33, c34, c35, c36, c37, c38, c39⟩ := block_eight f3) | ((go_at_call 91; (first | (with_reducible refine (Pure.inn qy _ _).mono ?_) | (with_reducible refine (Pure.go qy _).mono ?_)); rintro e w' ⟨rfl, x, rfl⟩); clear c00 c01 c02 c03 c04 c05 c06 c07 c08 c09 c10 c11 c12 c13 c14 c15 c16 c17 c18 c19 c20 c21 c22 c23 c24 c25 c26 c27 c28 c29 c30 c31 c32 c33 c34 c35 c36 c37 c38 c39; generalize hw : later wr _ = wv; obtain ⟨hB', g0, g1, g2, g3⟩ := later_keep hB f0 f1 f2 f3 hw; clear hw hB f0 f1 f2 f3; clear wr; revert hB' g0 g1 g2 g3; revert wv; intro wr hB f0 f1 f2 f3; obtain ⟨c00, c01, c02, c03, c04, c05, c06, c07, c08, c09⟩ := block_eight f0; obtain ⟨c10, c11, c12, c13, c14, c15, c16, c17, c18, c19⟩ := block_eight f1; obtain ⟨c20, c21, c22, c23, c24, c25, c26, c27, c28, c29⟩ := block_eight f2; obtain ⟨c30, c31, c32, c33, c34, c35, c36, c37, c38, c39⟩ := block_eight f3))
            refine bodyPost_ret (v := R) ?_ rfl ⟨rfl, ?_⟩
            · simp [results, Try.results58, go_sem, ← hR.out, c20, c21, c22, c23, c24, c25, c26, c27, c28, c29, c30, c31, c32, c33, c34, c35, c36, c37, c38, c39]
            · repeat' (with_reducible (first | exact Below.refl _ _ | assumption | refine Below.drew ?_ | refine Below.alloc ?_ ?_ _ | refine Below.setCell ?_ ?_ _ | refine below_later ?_ ?_ _))
              all_goals (repeat' (with_reducible (first | exact Nat.le_refl _ | assumption | refine le_size_later ?_ | refine le_size_alloc ?_ | refine le_size_set ?_ | refine le_size_drew ?_)))
              all_goals (first | omega | (simp; done) | (simp; omega))
          · rcases ty with _ | _
            · skip
              go_wp2_with (first | ((go_at_call 91; (first | (with_reducible refine (Pure.inn qx _ _).mono ?_) | (with_reducible refine (Pure.go qx _).mono ?_)); rintro e w' ⟨rfl, x, rfl⟩); generalize hw : later (World.setCell _ _ _) _ = wv; obtain ⟨hB', q0, q1, q2, q3⟩ := later_stored hB G0.out G1.out G2.out F3.out n0 n1 n2 n3 hw; clear hw hB G0 G1 G2 F3; clear d00 d01 d02 d03 d04 d05 d06 d07 d08 d09 d10 d11 d12 d13 d14 d15 d16 d17 d18 d19 d20 d21 d22 d23 d24 d25 d26 d27 d28 d29 d30 d31 d32 d33 d34 d35 d36 d37 d38 d39; clear W; revert hB' q0 q1 q2 q3; revert wv; intro wr hB f0 f1 f2 f3; obtain ⟨c00, c01, c02, c03, c04, c05, c06, c07, c08, c09⟩ := block_eight f0; obtain ⟨c10, c11, c12, c13, c14, c15, c16, c17, c18, c19⟩ := block_eight f1; obtain ⟨c20, c21, c22, c23, c24, c25, c26, c27, c28, c29⟩ := block_eight f2; obtain ⟨c30, c31, c32, c33, c34, c35, c36, c37, c38, c39⟩ := block_eight f3) | ((go_at_call 91; (first | (with_reducible refine (Pure.inn qy _ _).mono ?_) | (with_reducible refine (Pure.go qy _).mono ?_)); rintro e w' ⟨rfl, x, rfl⟩); clear c00 c01 c02 c03 c04 c05 c06 c07 c08 c09 c10 c11 c12 c13 c14 c15 c16 c17 c18 c19 c20 c21 c22 c23 c24 c25 c26 c27 c28 c29 c30 c31 c32 c33 c34 c35 c36 c37 c38 c39; generalize hw : later wr _ = wv; obtain ⟨hB', g0, g1, g2, g3⟩ := later_keep hB f0 f1 f2 f3 hw; clear hw hB f0 f1 f2 f3; clear wr; revert hB' g0 g1 g2 g3; revert wv; intro wr hB f0 f1 f2 f3; obtain ⟨c00, c01, c02, c03, c04, c05, c06, c07, c08, c09⟩ := block_eight f0; obtain ⟨c10, c11, c12, c13, c14, c15, c16, c17, c18, c19⟩ := block_eight f1; obtain ⟨c20, c21, c22, c23, c24, c25, c26, c27, c28, c29⟩ := block_eight f2; obtain ⟨c30, c31, c32, c33, c34, c35, c36, c37, c38, c39⟩ := block_eight f3))
              refine bodyPost_ret (v := R) ?_ rfl ⟨rfl, ?_⟩
              · simp [results, Try.results58, go_sem, ← hR.out, c20, c21, c22, c23, c24, c25, c26, c27, c28, c29, c30, c31, c32, c33, c34, c35, c36, c37, c38, c39]
              · repeat' (with_reducible (first | exact Below.refl _ _ | assumption | refine Below.drew ?_ | refine Below.alloc ?_ ?_ _ | refine Below.setCell ?_ ?_ _ | refine below_later ?_ ?_ _))
                all_goals (repeat' (with_reducible (first | exact Nat.le_refl _ | assumption | refine le_size_later ?_ | refine le_size_alloc ?_ | refine le_size_set ?_ | refine le_size_drew ?_)))
                all_goals (first | omega | (simp; done) | (simp; omega))
            · rcases k with _ | _
              · skip
                go_wp2_with (first | ((go_at_call 91; (first | (with_reducible refine (Pure.inn qx _ _).mono ?_) | (with_reducible refine (Pure.go qx _).mono ?_)); rintro e w' ⟨rfl, x, rfl⟩); generalize hw : later (World.setCell _ _ _) _ = wv; obtain ⟨hB', q0, q1, q2, q3⟩ := later_stored hB G0.out G1.out G2.out F3.out n0 n1 n2 n3 hw; clear hw hB G0 G1 G2 F3; clear d00 d01 d02 d03 d04 d05 d06 d07 d08 d09 d10 d11 d12 d13 d14 d15 d16 d17 d18 d19 d20 d21 d22 d23 d24 d25 d26 d27 d28 d29 d30 d31 d32 d33 d34 d35 d36 d37 d38 d39; clear W; revert hB' q0 q1 q2 q3; revert wv; intro wr hB f0 f1 f2 f3; obtain ⟨c00, c01, c02, c03, c04, c05, c06, c07, c08, c09⟩ := block_eight f0; obtain ⟨c10, c11, c12, c13, c14, c15, c16, c17, c18, c19⟩ := block_eight f1; obtain ⟨c20, c21, c22, c23, c24, c25, c26, c27, c28, c29⟩ := block_eight f2; obtain ⟨c30, c31, c32, c33, c34, c35, c36, c37, c38, c39⟩ := block_eight f3) | ((go_at_call 91; (first | (with_reducible refine (Pure.inn qy _ _).mono ?_) | (with_reducible refine (Pure.go qy _).mono ?_)); rintro e w' ⟨rfl, x, rfl⟩); clear c00 c01 c02 c03 c04 c05 c06 c07 c08 c09 c10 c11 c12 c13 c14 c15 c16 c17 c18 c19 c20 c21 c22 c23 c24 c25 c26 c27 c28 c29 c30 c31 c32 c33 c34 c35 c36 c37 c38 c39; generalize hw : later wr _ = wv; obtain ⟨hB', g0, g1, g2, g3⟩ := later_keep hB f0 f1 f2 f3 hw; clear hw hB f0 f1 f2 f3; clear wr; revert hB' g0 g1 g2 g3; revert wv; intro wr hB f0 f1 f2 f3; obtain ⟨c00, c01, c02, c03, c04, c05, c06, c07, c08, c09⟩ := block_eight f0; obtain ⟨c10, c11, c12, c13, c14, c15, c16, c17, c18, c19⟩ := block_eight f1; obtain ⟨c20, c21, c22, c23, c24, c25, c26, c27, c28, c29⟩ := block_eight f2; obtain ⟨c30, c31, c32, c33, c34, c35, c36, c37, c38, c39⟩ := block_eight f3))
                refine bodyPost_ret (v := R) ?_ rfl ⟨rfl, ?_⟩
                · simp [results, Try.results58, go_sem, ← hR.out, c20, c21, c22, c23, c24, c25, c26, c27, c28, c29, c30, c31, c32, c33, c34, c35, c36, c37, c38, c39]
                · repeat' (with_reducible (first | exact Below.refl _ _ | assumption | refine Below.drew ?_ | refine Below.alloc ?_ ?_ _ | refine Below.setCell ?_ ?_ _ | refine below_later ?_ ?_ _))
                  all_goals (repeat' (with_reducible (first | exact Nat.le_refl _ | assumption | refine le_size_later ?_ | refine le_size_alloc ?_ | refine le_size_set ?_ | refine le_size_drew ?_)))
                  all_goals (first | omega | (simp; done) | (simp; omega))
              · rcases k2 with _ | _
                · skip
                  go_wp2_with (first | ((go_at_call 91; (first | (with_reducible refine (Pure.inn qx _ _).mono ?_) | (with_reducible refine (Pure.go qx _).mono ?_)); rintro e w' ⟨rfl, x, rfl⟩); generalize hw : later (World.setCell _ _ _) _ = wv; obtain ⟨hB', q0, q1, q2, q3⟩ := later_stored hB G0.out G1.out G2.out F3.out n0 n1 n2 n3 hw; clear hw hB G0 G1 G2 F3; clear d00 d01 d02 d03 d04 d05 d06 d07 d08 d09 d10 d11 d12 d13 d14 d15 d16 d17 d18 d19 d20 d21 d22 d23 d24 d25 d26 d27 d28 d29 d30 d31 d32 d33 d34 d35 d36 d37 d38 d39; clear W; revert hB' q0 q1 q2 q3; revert wv; intro wr hB f0 f1 f2 f3; obtain ⟨c00, c01, c02, c03, c04, c05, c06, c07, c08, c09⟩ := block_eight f0; obtain ⟨c10, c11, c12, c13, c14, c15, c16, c17, c18, c19⟩ := block_eight f1; obtain ⟨c20, c21, c22, c23, c24, c25, c26, c27, c28, c29⟩ := block_eight f2; obtain ⟨c30, c31, c32, c33, c34, c35, c36, c37, c38, c39⟩ := block_eight f3) | ((go_at_call 91; (first | (with_reducible refine (Pure.inn qy _ _).mono ?_) | (with_reducible refine (Pure.go qy _).mono ?_)); rintro e w' ⟨rfl, x, rfl⟩); clear c00 c01 c02 c03 c04 c05 c06 c07 c08 c09 c10 c11 c12 c13 c14 c15 c16 c17 c18 c19 c20 c21 c22 c23 c24 c25 c26 c27 c28 c29 c30 c31 c32 c33 c34 c35 c36 c37 c38 c39; generalize hw : later wr _ = wv; obtain ⟨hB', g0, g1, g2, g3⟩ := later_keep hB f0 f1 f2 f3 hw; clear hw hB f0 f1 f2 f3; clear wr; revert hB' g0 g1 g2 g3; revert wv; intro wr hB f0 f1 f2 f3; obtain ⟨c00, c01, c02, c03, c04, c05, c06, c07, c08, c09⟩ := block_eight f0; obtain ⟨c10, c11, c12, c13, c14, c15, c16, c17, c18, c19⟩ := block_eight f1; obtain ⟨c20, c21, c22, c23, c24, c25, c26, c27, c28, c29⟩ := block_eight f2; obtain ⟨c30, c31, c32, c33, c34, c35, c36, c37, c38, c39⟩ := block_eight f3))
                  refine bodyPost_ret (v := R) ?_ rfl ⟨rfl, ?_⟩
                  · simp [results, Try.results58, go_sem, ← hR.out, c20, c21, c22, c23, c24, c25, c26, c27, c28, c29, c30, c31, c32, c33, c34, c35, c36, c37, c38, c39]
                  · repeat' (with_reducible (first | exact Below.refl _ _ | assumption | refine Below.drew ?_ | refine Below.alloc ?_ ?_ _ | refine Below.setCell ?_ ?_ _ | refine below_later ?_ ?_ _))
                    all_goals (repeat' (with_reducible (first | exact Nat.le_refl _ | assumption | refine le_size_later ?_ | refine le_size_alloc ?_ | refine le_size_set ?_ | refine le_size_drew ?_)))
                    all_goals (first | omega | (simp; done) | (simp; omega))
                · cases hl : (l.toList == l2.toList)
                  · rw [hl] at hR
                    go_wp2_with (first | ((go_at_call 91; (first | (with_reducible refine (Pure.inn qx _ _).mono ?_) | (with_reducible refine (Pure.go qx _).mono ?_)); rintro e w' ⟨rfl, x, rfl⟩); generalize hw : later (World.setCell _ _ _) _ = wv; obtain ⟨hB', q0, q1, q2, q3⟩ := later_stored hB G0.out G1.out G2.out F3.out n0 n1 n2 n3 hw; clear hw hB G0 G1 G2 F3; clear d00 d01 d02 d03 d04 d05 d06 d07 d08 d09 d10 d11 d12 d13 d14 d15 d16 d17 d18 d19 d20 d21 d22 d23 d24 d25 d26 d27 d28 d29 d30 d31 d32 d33 d34 d35 d36 d37 d38 d39; clear W; revert hB' q0 q1 q2 q3; revert wv; intro wr hB f0 f1 f2 f3; obtain ⟨c00, c01, c02, c03, c04, c05, c06, c07, c08, c09⟩ := block_eight f0; obtain ⟨c10, c11, c12, c13, c14, c15, c16, c17, c18, c19⟩ := block_eight f1; obtain ⟨c20, c21, c22, c23, c24, c25, c26, c27, c28, c29⟩ := block_eight f2; obtain ⟨c30, c31, c32, c33, c34, c35, c36, c37, c38, c39⟩ := block_eight f3) | ((go_at_call 91; (first | (with_reducible refine (Pure.inn qy _ _).mono ?_) | (with_reducible refine (Pure.go qy _).mono ?_)); rintro e w' ⟨rfl, x, rfl⟩); clear c00 c01 c02 c03 c04 c05 c06 c07 c08 c09 c10 c11 c12 c13 c14 c15 c16 c17 c18 c19 c20 c21 c22 c23 c24 c25 c26 c27 c28 c29 c30 c31 c32 c33 c34 c35 c36 c37 c38 c39; generalize hw : later wr _ = wv; obtain ⟨hB', g0, g1, g2, g3⟩ := later_keep hB f0 f1 f2 f3 hw; clear hw hB f0 f1 f2 f3; clear wr; revert hB' g0 g1 g2 g3; revert wv; intro wr hB f0 f1 f2 f3; obtain ⟨c00, c01, c02, c03, c04, c05, c06, c07, c08, c09⟩ := block_eight f0; obtain ⟨c10, c11, c12, c13, c14, c15, c16, c17, c18, c19⟩ := block_eight f1; obtain ⟨c20, c21, c22, c23, c24, c25, c26, c27, c28, c29⟩ := block_eight f2; obtain ⟨c30, c31, c32, c33, c34, c35, c36, c37, c38, c39⟩ := block_eight f3))
                    refine bodyPost_ret (v := R) ?_ rfl ⟨rfl, ?_⟩
                    · simp [results, Try.results58, go_sem, ← hR.out, c20, c21, c22, c23, c24, c25, c26, c27, c28, c29, c30, c31, c32, c33, c34, c35, c36, c37, c38, c39, hl]
                    · repeat' (with_reducible (first | exact Below.refl _ _ | assumption | refine Below.drew ?_ | refine Below.alloc ?_ ?_ _ | refine Below.setCell ?_ ?_ _ | refine below_later ?_ ?_ _))
                      all_goals (repeat' (with_reducible (first | exact Nat.le_refl _ | assumption | refine le_size_later ?_ | refine le_size_alloc ?_ | refine le_size_set ?_ | refine le_size_drew ?_)))
                      all_goals (first | omega | (simp; done) | (simp; omega))
                  · rw [hl] at hR
                    go_wp2_with (first | ((go_at_call 91; (first | (with_reducible refine (Pure.inn qx _ _).mono ?_) | (with_reducible refine (Pure.go qx _).mono ?_)); rintro e w' ⟨rfl, x, rfl⟩); generalize hw : later (World.setCell _ _ _) _ = wv; obtain ⟨hB', q0, q1, q2, q3⟩ := later_stored hB G0.out G1.out G2.out F3.out n0 n1 n2 n3 hw; clear hw hB G0 G1 G2 F3; clear d00 d01 d02 d03 d04 d05 d06 d07 d08 d09 d10 d11 d12 d13 d14 d15 d16 d17 d18 d19 d20 d21 d22 d23 d24 d25 d26 d27 d28 d29 d30 d31 d32 d33 d34 d35 d36 d37 d38 d39; clear W; revert hB' q0 q1 q2 q3; revert wv; intro wr hB f0 f1 f2 f3; obtain ⟨c00, c01, c02, c03, c04, c05, c06, c07, c08, c09⟩ := block_eight f0; obtain ⟨c10, c11, c12, c13, c14, c15, c16, c17, c18, c19⟩ := block_eight f1; obtain ⟨c20, c21, c22, c23, c24, c25, c26, c27, c28, c29⟩ := block_eight f2; obtain ⟨c30, c31, c32, c33, c34, c35, c36, c37, c38, c39⟩ := block_eight f3) | ((go_at_call 91; (first | (with_reducible refine (Pure.inn qy _ _).mono ?_) | (with_reducible refine (Pure.go qy _).mono ?_)); rintro e w' ⟨rfl, x, rfl⟩); clear c00 c01 c02 c03 c04 c05 c06 c07 c08 c09 c10 c11 c12 c13 c14 c15 c16 c17 c18 c19 c20 c21 c22 c23 c24 c25 c26 c27 c28 c29 c30 c31 c32 c33 c34 c35 c36 c37 c38 c39; generalize hw : later wr _ = wv; obtain ⟨hB', g0, g1, g2, g3⟩ := later_keep hB f0 f1 f2 f3 hw; clear hw hB f0 f1 f2 f3; clear wr; revert hB' g0 g1 g2 g3; revert wv; intro wr hB f0 f1 f2 f3; obtain ⟨c00, c01, c02, c03, c04, c05, c06, c07, c08, c09⟩ := block_eight f0; obtain ⟨c10, c11, c12, c13, c14, c15, c16, c17, c18, c19⟩ := block_eight f1; obtain ⟨c20, c21, c22, c23, c24, c25, c26, c27, c28, c29⟩ := block_eight f2; obtain ⟨c30, c31, c32, c33, c34, c35, c36, c37, c38, c39⟩ := block_eight f3))
                    refine bodyPost_ret (v := R) ?_ rfl ⟨rfl, ?_⟩
                    · simp [results, Try.results58, go_sem, ← hR.out, c20, c21, c22, c23, c24, c25, c26, c27, c28, c29, c30, c31, c32, c33, c34, c35, c36, c37, c38, c39, hl]
                    · repeat' (with_reducible (first | exact Below.refl _ _ | assumption | refine Below.drew ?_ | refine Below.alloc ?_ ?_ _ | refine Below.setCell ?_ ?_ _ | refine below_later ?_ ?_ _))
                      all_goals (repeat' (with_reducible (first | exact Nat.le_refl _ | assumption | refine le_size_later ?_ | refine le_size_alloc ?_ | refine le_size_set ?_ | refine le_size_drew ?_)))
                      all_goals (first | omega | (simp; done) | (simp; omega))
        · rcases tx with _ | _
          · skip
            go_wp2_with (first | ((go_at_call 91; (first | (with_reducible refine (Pure.inn qx _ _).mono ?_) | (with_reducible refine (Pure.go qx _).mono ?_)); rintro e w' ⟨rfl, x, rfl⟩); generalize hw : later (World.setCell _ _ _) _ = wv; obtain ⟨hB', q0, q1, q2, q3⟩ := later_stored hB G0.out G1.out G2.out F3.out n0 n1 n2 n3 hw; clear hw hB G0 G1 G2 F3; clear d00 d01 d02 d03 d04 d05 d06 d07 d08 d09 d10 d11 d12 d13 d14 d15 d16 d17 d18 d19 d20 d21 d22 d23 d24 d25 d26 d27 d28 d29 d30 d31 d32 d33 d34 d35 d36 d37 d38 d39; clear W; revert hB' q0 q1 q2 q3; revert wv; intro wr hB f0 f1 f2 f3; obtain ⟨c00, c01, c02, c03, c04, c05, c06, c07, c08, c09⟩ := block_eight f0; obtain ⟨c10, c11, c12, c13, c14, c15, c16, c17, c18, c19⟩ := block_eight f1; obtain ⟨c20, c21, c22, c23, c24, c25, c26, c27, c28, c29⟩ := block_eight f2; obtain ⟨c30, c31, c32, c33, c34, c35, c36, c37, c38, c39⟩ := block_eight f3) | ((go_at_call 91; (first | (with_reducible refine (Pure.inn qy _ _).mono ?_) | (with_reducible refine (Pure.go qy _).mono ?_)); rintro e w' ⟨rfl, x, rfl⟩); clear c00 c01 c02 c03 c04 c05 c06 c07 c08 c09 c10 c11 c12 c13 c14 c15 c16 c17 c18 c19 c20 c21 c22 c23 c24 c25 c26 c27 c28 c29 c30 c31 c32 c33 c34 c35 c36 c37 c38 c39; generalize hw : later wr _ = wv; obtain ⟨hB', g0, g1, g2, g3⟩ := later_keep hB f0 f1 f2 f3 hw; clear hw hB f0 f1 f2 f3; clear wr; revert hB' g0 g1 g2 g3; revert wv; intro wr hB f0 f1 f2 f3; obtain ⟨c00, c01, c02, c03, c04, c05, c06, c07, c08, c09⟩ := block_eight f0; obtain ⟨c10, c11, c12, c13, c14, c15, c16, c17, c18, c19⟩ := block_eight f1; obtain ⟨c20, c21, c22, c23, c24, c25, c26, c27, c28, c29⟩ := block_eight f2; obtain ⟨c30, c31, c32, c33, c34, c35, c36, c37, c38, c39⟩ := block_eight f3))
            refine bodyPost_ret (v := R) ?_ rfl ⟨rfl, ?_⟩
            · simp [results, Try.results58, go_sem, ← hR.out, c20, c21, c22, c23, c24, c25, c26, c27, c28, c29, c30, c31, c32, c33, c34, c35, c36, c37, c38, c39]
            · repeat' (with_reducible (first | exact Below.refl _ _ | assumption | refine Below.drew ?_ | refine Below.alloc ?_ ?_ _ | refine Below.setCell ?_ ?_ _ | refine below_later ?_ ?_ _))
              all_goals (repeat' (with_reducible (first | exact Nat.le_refl _ | assumption | refine le_size_later ?_ | refine le_size_alloc ?_ | refine le_size_set ?_ | refine le_size_drew ?_)))
              all_goals (first | omega | (simp; done) | (simp; omega))
          · rcases ty with _ | _
            · skip
              go_wp2_with (first | ((go_at_call 91; (first | (with_reducible refine (Pure.inn qx _ _).mono ?_) | (with_reducible refine (Pure.go qx _).mono ?_)); rintro e w' ⟨rfl, x, rfl⟩); generalize hw : later (World.setCell _ _ _) _ = wv; obtain ⟨hB', q0, q1, q2, q3⟩ := later_stored hB G0.out G1.out G2.out F3.out n0 n1 n2 n3 hw; clear hw hB G0 G1 G2 F3; clear d00 d01 d02 d03 d04 d05 d06 d07 d08 d09 d10 d11 d12 d13 d14 d15 d16 d17 d18 d19 d20 d21 d22 d23 d24 d25 d26 d27 d28 d29 d30 d31 d32 d33 d34 d35 d36 d37 d38 d39; clear W; revert hB' q0 q1 q2 q3; revert wv; intro wr hB f0 f1 f2 f3; obtain ⟨c00, c01, c02, c03, c04, c05, c06, c07, c08, c09⟩ := block_eight f0; obtain ⟨c10, c11, c12, c13, c14, c15, c16, c17, c18, c19⟩ := block_eight f1; obtain ⟨c20, c21, c22, c23, c24, c25, c26, c27, c28, c29⟩ := block_eight f2; obtain ⟨c30, c31, c32, c33, c34, c35, c36, c37, c38, c39⟩ := block_eight f3) | ((go_at_call 91; (first | (with_reducible refine (Pure.inn qy _ _).mono ?_) | (with_reducible refine (Pure.go qy _).mono ?_)); rintro e w' ⟨rfl, x, rfl⟩); clear c00 c01 c02 c03 c04 c05 c06 c07 c08 c09 c10 c11 c12 c13 c14 c15 c16 c17 c18 c19 c20 c21 c22 c23 c24 c25 c26 c27 c28 c29 c30 c31 c32 c33 c34 c35 c36 c37 c38 c39; generalize hw : later wr _ = wv; obtain ⟨hB', g0, g1, g2, g3⟩ := later_keep hB f0 f1 f2 f3 hw; clear hw hB f0 f1 f2 f3; clear wr; revert hB' g0 g1 g2 g3; revert wv; intro wr hB f0 f1 f2 f3; obtain ⟨c00, c01, c02, c03, c04, c05, c06, c07, c08, c09⟩ := block_eight f0; obtain ⟨c10, c11, c12, c13, c14, c15, c16, c17, c18, c19⟩ := block_eight f1; obtain ⟨c20, c21, c22, c23, c24, c25, c26, c27, c28, c29⟩ := block_eight f2; obtain ⟨c30, c31, c32, c33, c34, c35, c36, c37, c38, c39⟩ := block_eight f3))
              refine bodyPost_ret (v := R) ?_ rfl ⟨rfl, ?_⟩
              · simp [results, Try.results58, go_sem, ← hR.out, c20, c21, c22, c23, c24, c25, c26, c27, c28, c29, c30, c31, c32, c33, c34, c35, c36, c37, c38, c39]
              · repeat' (with_reducible (first | exact Below.refl _ _ | assumption | refine Below.drew ?_ | refine Below.alloc ?_ ?_ _ | refine Below.setCell ?_ ?_ _ | refine below_later ?_ ?_ _))
                all_goals (repeat' (with_reducible (first | exact Nat.le_refl _ | assumption | refine le_size_later ?_ | refine le_size_alloc ?_ | refine le_size_set ?_ | refine le_size_drew ?_)))
                all_goals (first | omega | (simp; done) | (simp; omega))
            · rcases k with _ | _
              · skip
                go_wp2_with (first | ((go_at_call 91; (first | (with_reducible refine (Pure.inn qx _ _).mono ?_) | (with_reducible refine (Pure.go qx _).mono ?_)); rintro e w' ⟨rfl, x, rfl⟩); generalize hw : later (World.setCell _ _ _) _ = wv; obtain ⟨hB', q0, q1, q2, q3⟩ := later_stored hB G0.out G1.out G2.out F3.out n0 n1 n2 n3 hw; clear hw hB G0 G1 G2 F3; clear d00 d01 d02 d03 d04 d05 d06 d07 d08 d09 d10 d11 d12 d13 d14 d15 d16 d17 d18 d19 d20 d21 d22 d23 d24 d25 d26 d27 d28 d29 d30 d31 d32 d33 d34 d35 d36 d37 d38 d39; clear W; revert hB' q0 q1 q2 q3; revert wv; intro wr hB f0 f1 f2 f3; obtain ⟨c00, c01, c02, c03, c04, c05, c06, c07, c08, c09⟩ := block_eight f0; obtain ⟨c10, c11, c12, c13, c14, c15, c16, c17, c18, c19⟩ := block_eight f1; obtain ⟨c20, c21, c22, c23, c24, c25, c26, c27, c28, c29⟩ := block_eight f2; obtain ⟨c30, c31, c32, c33, c34, c35, c36, c37, c38, c39⟩ := block_eight f3) | ((go_at_call 91; (first | (with_reducible refine (Pure.inn qy _ _).mono ?_) | (with_reducible refine (Pure.go qy _).mono ?_)); rintro e w' ⟨rfl, x, rfl⟩); clear c00 c01 c02 c03 c04 c05 c06 c07 c08 c09 c10 c11 c12 c13 c14 c15 c16 c17 c18 c19 c20 c21 c22 c23 c24 c25 c26 c27 c28 c29 c30 c31 c32 c33 c34 c35 c36 c37 c38 c39; generalize hw : later wr _ = wv; obtain ⟨hB', g0, g1, g2, g3⟩ := later_keep hB f0 f1 f2 f3 hw; clear hw hB f0 f1 f2 f3; clear wr; revert hB' g0 g1 g2 g3; revert wv; intro wr hB f0 f1 f2 f3; obtain ⟨c00, c01, c02, c03, c04, c05, c06, c07, c08, c09⟩ := block_eight f0; obtain ⟨c10, c11, c12, c13, c14, c15, c16, c17, c18, c19⟩ := block_eight f1; obtain ⟨c20, c21, c22, c23, c24, c25, c26, c27, c28, c29⟩ := block_eight f2; obtain ⟨c30, c31, c32, c33, c34, c35, c36, c37, c38, c39⟩ := block_eight f3))
                refine bodyPost_ret (v := R) ?_ rfl ⟨rfl, ?_⟩
                · simp [results, Try.results58, go_sem, ← hR.out, c20, c21, c22, c23, c24, c25, c26, c27, c28, c29, c30, c31, c32, c33, c34, c35, c36, c37, c38, c39]
                · repeat' (with_reducible (first | exact Below.refl _ _ | assumption | refine Below.drew ?_ | refine Below.alloc ?_ ?_ _ | refine Below.setCell ?_ ?_ _ | refine below_later ?_ ?_ _))
                  all_goals (repeat' (with_reducible (first | exact Nat.le_refl _ | assumption | refine le_size_later ?_ | refine le_size_alloc ?_ | refine le_size_set ?_ | refine le_size_drew ?_)))
                  all_goals (first | omega | (simp; done) | (simp; omega))
              · rcases k2 with _ | _
                · skip
                  go_wp2_with (first | ((go_at_call 91; (first | (with_reducible refine (Pure.inn qx _ _).mono ?_) | (with_reducible refine (Pure.go qx _).mono ?_)); rintro e w' ⟨rfl, x, rfl⟩); generalize hw : later (World.setCell _ _ _) _ = wv; obtain ⟨hB', q0, q1, q2, q3⟩ := later_stored hB G0.out G1.out G2.out F3.out n0 n1 n2 n3 hw; clear hw hB G0 G1 G2 F3; clear d00 d01 d02 d03 d04 d05 d06 d07 d08 d09 d10 d11 d12 d13 d14 d15 d16 d17 d18 d19 d20 d21 d22 d23 d24 d25 d26 d27 d28 d29 d30 d31 d32 d33 d34 d35 d36 d37 d38 d39; clear W; revert hB' q0 q1 q2 q3; revert wv; intro wr hB f0 f1 f2 f3; obtain ⟨c00, c01, c02, c03, c04, c05, c06, c07, c08, c09⟩ := block_eight f0; obtain ⟨c10, c11, c12, c13, c14, c15, c16, c17, c18, c19⟩ := block_eight f1; obtain ⟨c20, c21, c22, c23, c24, c25, c26, c27, c28, c29⟩ := block_eight f2; obtain ⟨c30, c31, c32, c33, c34, c35, c36, c37, c38, c39⟩ := block_eight f3) | ((go_at_call 91; (first | (with_reducible refine (Pure.inn qy _ _).mono ?_) | (with_reducible refine (Pure.go qy _).mono ?_)); rintro e w' ⟨rfl, x, rfl⟩); clear c00 c01 c02 c03 c04 c05 c06 c07 c08 c09 c10 c11 c12 c13 c14 c15 c16 c17 c18 c19 c20 c21 c22 c23 c24 c25 c26 c27 c28 c29 c30 c31 c32 c33 c34 c35 c36 c37 c38 c39; generalize hw : later wr _ = wv; obtain ⟨hB', g0, g1, g2, g3⟩ := later_keep hB f0 f1 f2 f3 hw; clear hw hB f0 f1 f2 f3; clear wr; revert hB' g0 g1 g2 g3; revert wv; intro wr hB f0 f1 f2 f3; obtain ⟨c00, c01, c02, c03, c04, c05, c06, c07, c08, c09⟩ := block_eight f0; obtain ⟨c10, c11, c12, c13, c14, c15, c16, c17, c18, c19⟩ := block_eight f1; obtain ⟨c20, c21, c22, c23, c24, c25, c26, c27, c28, c29⟩ := block_eight f2; obtain ⟨c30, c31, c32, c33, c34, c35, c36, c37, c38, c39⟩ := block_eight f3))
                  refine bodyPost_ret (v := R) ?_ rfl ⟨rfl, ?_⟩
                  · simp [results, Try.results58, go_sem, ← hR.out, c20, c21, c22, c23, c24, c25, c26, c27, c28, c29, c30, c31, c32, c33, c34, c35, c36, c37, c38, c39]
                  · repeat' (with_reducible (first | exact Below.refl _ _ | assumption | refine Below.drew ?_ | refine Below.alloc ?_ ?_ _ | refine Below.setCell ?_ ?_ _ | refine below_later ?_ ?_ _))
                    all_goals (repeat' (with_reducible (first | exact Nat.le_refl _ | assumption | refine le_size_later ?_ | refine le_size_alloc ?_ | refine le_size_set ?_ | refine le_size_drew ?_)))
                    all_goals (first | omega | (simp; done) | (simp; omega))
                · cases hl : (l.toList == l2.toList)
                  · rw [hl] at hR
                    go_wp2_with (first | ((go_at_call 91; (first | (with_reducible refine (Pure.inn qx _ _).mono ?_) | (with_reducible refine (Pure.go qx _).mono ?_)); rintro e w' ⟨rfl, x, rfl⟩); generalize hw : later (World.setCell _ _ _) _ = wv; obtain ⟨hB', q0, q1, q2, q3⟩ := later_stored hB G0.out G1.out G2.out F3.out n0 n1 n2 n3 hw; clear hw hB G0 G1 G2 F3; clear d00 d01 d02 d03 d04 d05 d06 d07 d08 d09 d10 d11 d12 d13 d14 d15 d16 d17 d18 d19 d20 d21 d22 d23 d24 d25 d26 d27 d28 d29 d30 d31 d32 d33 d34 d35 d36 d37 d38 d39; clear W; revert hB' q0 q1 q2 q3; revert wv; intro wr hB f0 f1 f2 f3; obtain ⟨c00, c01, c02, c03, c04, c05, c06, c07, c08, c09⟩ := block_eight f0; obtain ⟨c10, c11, c12, c13, c14, c15, c16, c17, c18, c19⟩ := block_eight f1; obtain ⟨c20, c21, c22, c23, c24, c25, c26, c27, c28, c29⟩ := block_eight f2; obtain ⟨c30, c31, c32, c33, c34, c35, c36, c37, c38, c39⟩ := block_eight f3) | ((go_at_call 91; (first | (with_reducible refine (Pure.inn qy _ _).mono ?_) | (with_reducible refine (Pure.go qy _).mono ?_)); rintro e w' ⟨rfl, x, rfl⟩); clear c00 c01 c02 c03 c04 c05 c06 c07 c08 c09 c10 c11 c12 c13 c14 c15 c16 c17 c18 c19 c20 c21 c22 c23 c24 c25 c26 c27 c28 c29 c30 c31 c32 c33 c34 c35 c36 c37 c38 c39; generalize hw : later wr _ = wv; obtain ⟨hB', g0, g1, g2, g3⟩ := later_keep hB f0 f1 f2 f3 hw; clear hw hB f0 f1 f2 f3; clear wr; revert hB' g0 g1 g2 g3; revert wv; intro wr hB f0 f1 f2 f3; obtain ⟨c00, c01, c02, c03, c04, c05, c06, c07, c08, c09⟩ := block_eight f0; obtain ⟨c10, c11, c12, c13, c14, c15, c16, c17, c18, c19⟩ := block_eight f1; obtain ⟨c20, c21, c22, c23, c24, c25, c26, c27, c28, c29⟩ := block_eight f2; obtain ⟨c30, c31, c32, c33, c34, c35, c36, c37, c38, c39⟩ := block_eight f3))
                    refine bodyPost_ret (v := R) ?_ rfl ⟨rfl, ?_⟩
                    · simp [results, Try.results58, go_sem, ← hR.out, c20, c21, c22, c23, c24, c25, c26, c27, c28, c29, c30, c31, c32, c33, c34, c35, c36, c37, c38, c39, hl]
                    · repeat' (with_reducible (first | exact Below.refl _ _ | assumption | refine Below.drew ?_ | refine Below.alloc ?_ ?_ _ | refine Below.setCell ?_ ?_ _ | refine below_later ?_ ?_ _))
                      all_goals (repeat' (with_reducible (first | exact Nat.le_refl _ | assumption | refine le_size_later ?_ | refine le_size_alloc ?_ | refine le_size_set ?_ | refine le_size_drew ?_)))
                      all_goals (first | omega | (simp; done) | (simp; omega))
                  · rw [hl] at hR
                    go_wp2_with (first | ((go_at_call 91; (first | (with_reducible refine (Pure.inn qx _ _).mono ?_) | (with_reducible refine (Pure.go qx _).mono ?_)); rintro e w' ⟨rfl, x, rfl⟩); generalize hw : later (World.setCell _ _ _) _ = wv; obtain ⟨hB', q0, q1, q2, q3⟩ := later_stored hB G0.out G1.out G2.out F3.out n0 n1 n2 n3 hw; clear hw hB G0 G1 G2 F3; clear d00 d01 d02 d03 d04 d05 d06 d07 d08 d09 d10 d11 d12 d13 d14 d15 d16 d17 d18 d19 d20 d21 d22 d23 d24 d25 d26 d27 d28 d29 d30 d31 d32 d33 d34 d35 d36 d37 d38 d39; clear W; revert hB' q0 q1 q2 q3; revert wv; intro wr hB f0 f1 f2 f3; obtain ⟨c00, c01, c02, c03, c04, c05, c06, c07, c08, c09⟩ := block_eight f0; obtain ⟨c10, c11, c12, c13, c14, c15, c16, c17, c18, c19⟩ := block_eight f1; obtain ⟨c20, c21, c22, c23, c24, c25, c26, c27, c28, c29⟩ := block_eight f2; obtain ⟨c30, c31, c32, c33, c34, c35, c36, c37, c38, c39⟩ := block_eight f3) | ((go_at_call 91; (first | (with_reducible refine (Pure.inn qy _ _).mono ?_) | (with_reducible refine (Pure.go qy _).mono ?_)); rintro e w' ⟨rfl, x, rfl⟩); clear c00 c01 c02 c03 c04 c05 c06 c07 c08 c09 c10 c11 c12 c13 c14 c15 c16 c17 c18 c19 c20 c21 c22 c23 c24 c25 c26 c27 c28 c29 c30 c31 c32 c33 c34 c35 c36 c37 c38 c39; generalize hw : later wr _ = wv; obtain ⟨hB', g0, g1, g2, g3⟩ := later_keep hB f0 f1 f2 f3 hw; clear hw hB f0 f1 f2 f3; clear wr; revert hB' g0 g1 g2 g3; revert wv; intro wr hB f0 f1 f2 f3; obtain ⟨c00, c01, c02, c03, c04, c05, c06, c07, c08, c09⟩ := block_eight f0; obtain ⟨c10, c11, c12, c13, c14, c15, c16, c17, c18, c19⟩ := block_eight f1; obtain ⟨c20, c21, c22, c23, c24, c25, c26, c27, c28, c29⟩ := block_eight f2; obtain ⟨c30, c31, c32, c33, c34, c35, c36, c37, c38, c39⟩ := block_eight f3))
                    refine bodyPost_ret (v := R) ?_ rfl ⟨rfl, ?_⟩
                    · simp [results, Try.results58, go_sem, ← hR.out, c20, c21, c22, c23, c24, c25, c26, c27, c28, c29, c30, c31, c32, c33, c34, c35, c36, c37, c38, c39, hl]
                    · repeat' (with_reducible (first | exact Below.refl _ _ | assumption | refine Below.drew ?_ | refine Below.alloc ?_ ?_ _ | refine Below.setCell ?_ ?_ _ | refine below_later ?_ ?_ _))
                      all_goals (repeat' (with_reducible (first | exact Nat.le_refl _ | assumption | refine le_size_later ?_ | refine le_size_alloc ?_ | refine le_size_set ?_ | refine le_size_drew ?_)))
                      all_goals (first | omega | (simp; done) | (simp; omega))
    · skip
      go_enter Try.func58, Try.ntmps58
      go_wp2_with (first | ((go_at_call 61; (first | (with_reducible refine (Pure.inn px _ _).mono ?_) | (with_reducible refine (Pure.go px _).mono ?_)); rintro e w' ⟨rfl, x, rfl⟩); generalize hw : later (World.alloc _ _) _ = wr; obtain ⟨hB, f0, f1, f2⟩ := later3 hw; clear hw; obtain ⟨c00, c01, c02, c03, c04, c05, c06, c07, c08, c09⟩ := block_eight f0; obtain ⟨c10, c11, c12, c13, c14, c15, c16, c17, c18, c19⟩ := block_eight f1; obtain ⟨c20, c21, c22, c23, c24, c25, c26, c27, c28, c29⟩ := block_eight f2) | ((go_at_call 61; (first | (with_reducible refine (Pure.inn py _ _).mono ?_) | (with_reducible refine (Pure.go py _).mono ?_)); rintro e w' ⟨rfl, x, rfl⟩); clear c00 c01 c02 c03 c04 c05 c06 c07 c08 c09 c10 c11 c12 c13 c14 c15 c16 c17 c18 c19 c20 c21 c22 c23 c24 c25 c26 c27 c28 c29; generalize hw : later wr _ = wv; obtain ⟨hB', g0, g1, g2⟩ := later_keep3 hB f0 f1 f2 hw; clear hw hB f0 f1 f2; clear wr; revert hB' g0 g1 g2; revert wv; intro wr hB f0 f1 f2; obtain ⟨c00, c01, c02, c03, c04, c05, c06, c07, c08, c09⟩ := block_eight f0; obtain ⟨c10, c11, c12, c13, c14, c15, c16, c17, c18, c19⟩ := block_eight f1; obtain ⟨c20, c21, c22, c23, c24, c25, c26, c27, c28, c29⟩ := block_eight f2))
      refine bodyPost_ret (v := R) ?_ rfl ⟨rfl, ?_⟩
      · simp [results, Try.results58, go_sem, ← hR.out, c20, c21, c22, c23, c24, c25, c26, c27, c28, c29]
      · repeat' (with_reducible (first | exact Below.refl _ _ | assumption | refine Below.drew ?_ | refine Below.alloc ?_ ?_ _ | refine Below.setCell ?_ ?_ _ | refine below_later ?_ ?_ _))
        all_goals (repeat' (with_reducible (first | exact Nat.le_refl _ | assumption | refine le_size_later ?_ | refine le_size_alloc ?_ | refine le_size_set ?_ | refine le_size_drew ?_)))
        all_goals (first | omega | (simp; done) | (simp; omega))
  · skip
    go_enter Try.func58, Try.ntmps58
    go_wp2_with (first | ((go_at_call 61; (first | (with_reducible refine (Pure.inn px _ _).mono ?_) | (with_reducible refine (Pure.go px _).mono ?_)); rintro e w' ⟨rfl, x, rfl⟩); generalize hw : later (World.alloc _ _) _ = wr; obtain ⟨hB, f0, f1, f2⟩ := later3 hw; clear hw; obtain ⟨c00, c01, c02, c03, c04, c05, c06, c07, c08, c09⟩ := block_eight f0; obtain ⟨c10, c11, c12, c13, c14, c15, c16, c17, c18, c19⟩ := block_eight f1; obtain ⟨c20, c21, c22, c23, c24, c25, c26, c27, c28, c29⟩ := block_eight f2) | ((go_at_call 61; (first | (with_reducible refine (Pure.inn py _ _).mono ?_) | (with_reducible refine (Pure.go py _).mono ?_)); rintro e w' ⟨rfl, x, rfl⟩); clear c00 c01 c02 c03 c04 c05 c06 c07 c08 c09 c10 c11 c12 c13 c14 c15 c16 c17 c18 c19 c20 c21 c22 c23 c24 c25 c26 c27 c28 c29; generalize hw : later wr _ = wv; obtain ⟨hB', g0, g1, g2⟩ := later_keep3 hB f0 f1 f2 hw; clear hw hB f0 f1 f2; clear wr; revert hB' g0 g1 g2; revert wv; intro wr hB f0 f1 f2; obtain ⟨c00, c01, c02, c03, c04, c05, c06, c07, c08, c09⟩ := block_eight f0; obtain ⟨c10, c11, c12, c13, c14, c15, c16, c17, c18, c19⟩ := block_eight f1; obtain ⟨c20, c21, c22, c23, c24, c25, c26, c27, c28, c29⟩ := block_eight f2))
    refine bodyPost_ret (v := R) ?_ rfl ⟨rfl, ?_⟩
    · simp [results, Try.results58, go_sem, ← hR.out, c20, c21, c22, c23, c24, c25, c26, c27, c28, c29]
    · repeat' (with_reducible (first | exact Below.refl _ _ | assumption | refine Below.drew ?_ | refine Below.alloc ?_ ?_ _ | refine Below.setCell ?_ ?_ _ | refine below_later ?_ ?_ _))
      all_goals (repeat' (with_reducible (first | exact Nat.le_refl _ | assumption | refine le_size_later ?_ | refine le_size_alloc ?_ | refine le_size_set ?_ | refine le_size_drew ?_)))
      all_goals (first | omega | (simp; done) | (simp; omega))

end Go.Proofs.Ytlbonbkaddeeeaa
