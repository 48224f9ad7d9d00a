/-
  The law AlterSound walked: whatever two values may be, what is made of them may be what is made of their shapes.
-/
import Derived.Test.YtlbonbkaddeeeaaEvB
import Derived.Test.YtlbonbkaddeeeaaAw
set_option linter.unusedSimpArgs false
set_option linter.unusedVariables false
namespace Go.Proofs.Ytlbonbkaddeeeaa
open Go.RowKit Go.Eng Go.Conch Go.Ev

theorem part_of (n : Nat) (m : Int) : ∃ F : Nat, F ≤ n ∧ (m % 256).tmod ((n + 1 : Nat) : Int) = (F : Int) := by
  refine ⟨((m % 256).tmod ((n + 1 : Nat) : Int)).toNat, ?_, ?_⟩
  · have h0 : 0 ≤ m % 256 := by omega
    rw [Int.tmod_eq_emod_of_nonneg h0]
    have := Int.emod_lt_of_pos (m % 256) (show (0 : Int) < ((n + 1 : Nat) : Int) by omega)
    omega
  · have h0 : 0 ≤ m % 256 := by omega
    rw [Int.tmod_eq_emod_of_nonneg h0]
    have := Int.emod_nonneg (m % 256) (show ((n + 1 : Nat) : Int) ≠ 0 by omega)
    omega
theorem wrap_in (x y : Int) (h : x = y) (h1 : -9223372036854775808 ≤ y) (h2 : y ≤ 9223372036854775807) : IntKind.i64.wrap x = y := by
  rw [h]; exact IntWalk.i64_in _ (by omega)

set_option maxHeartbeats 4000000 in
theorem altersound_pure (a : Sh) (ha : a.lit.size ≤ 9223372036854775807) (b : Sh) (hb : b.lit.size ≤ 9223372036854775807) (v : ByteArray) (hv : v.size ≤ 9223372036854775807) (w : ByteArray) (hw : w.size ≤ 9223372036854775807) (i : Bool) (c : Bool) (fr : Int) (_ : -9223372036854775808 ≤ fr) (_ : fr ≤ 9223372036854775807) (to : Int) (_ : -9223372036854775808 ≤ to) (_ : to ≤ 9223372036854775807) :
    Pure Try.prog 15 #[a.val, b.val, .string v, .string w, .bool i, .bool c, .int .i64 fr, .int .i64 to] (.bool true) := by
  have ox := ok_tame a
  have oy := ok_setU b
  have oz := ok_set ox
  have z1 := ok_size oy
  have z2 := ok_size oz
  by_cases hmain : decide ((100 : Int) < (v.size : Int)) = false ∧ decide ((100 : Int) < (w.size : Int)) = false ∧ (tameS a).may i v = true ∧ (setU b).may true w = true
  · obtain ⟨h1, h2, e38, e44⟩ := hmain
    have s1 : v.size ≤ 100 := by have := of_decide_eq_false h1; omega
    have s2 : w.size ≤ 100 := by have := of_decide_eq_false h2; omega
    have s3 : (if i then v else tz).size ≤ 100 := by
      cases i
      · exact Nat.zero_le _
      · exact s1
    have s4 : ((if i then v else tz) ++ w).size ≤ 200 := by rw [ByteArray.size_append]; omega
    have s5 : (w ++ (if i then v else tz)).size ≤ 200 := by rw [ByteArray.size_append]; omega
    have e54 : (setS (tameS a)).may true (if i then v else tz) = true := sound_set ox e38
    have e63 : (catS (setS (tameS a)) (setU b)).may true ((if i then v else tz) ++ w) = true := sound_cat oz oy e54 e44
    have e73 : (catS (setU b) (setS (tameS a))).may true (w ++ (if i then v else tz)) = true := sound_cat oy oz e44 e54
    obtain ⟨F, f1, hF⟩ := part_of (if i then v else tz).size fr
    obtain ⟨G, g1, hG⟩ := part_of ((if i then v else tz).size - F) to
    have w1 : IntKind.i64.wrap (((if i then v else tz).size : Int) + 1) = (((if i then v else tz).size + 1 : Nat) : Int) := wrap_in _ _ (by omega) (by omega) (by omega)
    have w2 : IntKind.i64.wrap (((if i then v else tz).size : Int) - (F : Int)) = (((if i then v else tz).size - F : Nat) : Int) := wrap_in _ _ (by omega) (by omega) (by omega)
    have w3 : IntKind.i64.wrap ((((if i then v else tz).size - F : Nat) : Int) + 1) = (((if i then v else tz).size - F + 1 : Nat) : Int) := wrap_in _ _ (by omega) (by omega) (by omega)
    have w4 : IntKind.i64.wrap ((F : Int) + (G : Int)) = ((F + G : Nat) : Int) := wrap_in _ _ (by omega) (by omega) (by omega)
    generalize hgF : decide ((0 : Int) < (F : Int)) = gF
    generalize hgT : decide (((F + G : Nat) : Int) < ((if i then v else tz).size : Int)) = gT
    have t1 : F ≤ cond (gF && gT) (if i then v else tz).size (F + G) := by cases gF <;> cases gT <;> simp <;> omega
    have t2 : cond (gF && gT) (if i then v else tz).size (F + G) ≤ (if i then v else tz).size := by cases gF <;> cases gT <;> simp <;> omega
    have e108 : (cutS (setS (tameS a))).may true ((if i then v else tz).extract F (cond (gF && gT) (if i then v else tz).size (F + G))) = true := sound_cut oz e54 fun _ hb => extract_mem hb
    have s6 : ((if i then v else tz).extract F (cond (gF && gT) (if i then v else tz).size (F + G))).size ≤ 100 := by rw [ByteArray.size_extract]; omega
    have s7 : (tz : ByteArray).size = 0 := rfl
    generalize q115 : decide (v = tz) = z
    have e125 : (i && !(c && z)) = true → (defaultS (tameS a) (setU b) c).may true v = true := fun h => by
      have hi : i = true := by cases i <;> simp_all
      subst hi
      exact sound_default ox oy c e38 (by rw [q115]; cases c <;> cases z <;> simp_all)
    have e131 : (i && !(c && z)) = true → (givenS (tameS a) c).may true v = true := fun h => by
      have hi : i = true := by cases i <;> simp_all
      subst hi
      exact sound_given ox c e38 (by rw [q115]; cases c <;> cases z <;> simp_all)
    have e139 : (i && !(c && z)) = true → (otherS (tameS a) (setU b) c).may true w = true := fun h => by
      have hi : i = true := by cases i <;> simp_all
      subst hi
      exact sound_other ox oy c e38 (by rw [q115]; cases c <;> cases z <;> simp_all) e44
    have e147 := e125
    have e157 : (i && !(c && z)) = false → (defaultS (tameS a) (setU b) c).may true w = true := fun h => sound_default' ox oy c e38 (by rw [q115]; exact h) e44
    have e164 := e157
    have e171 : (i && !(c && z)) = false → (otherS (tameS a) (setU b) c).may true tz = true := fun h => sound_other' ox oy c e38 (by rw [q115]; exact h)
    cases hu : (i && !(c && z)) with
    | true =>
      refine pure_of_run mixed 100 (fun _ => [(23, C (tame_pure a (by omega))),
    (25, C (lawset_pure b (by omega))),
    (28, GT .i64 3 v.size 100 h1),
    (32, GT .i64 3 w.size 100 h2),
    (38, CB (may_pure (tameS a) i v (by omega)) e38),
    (44, CB (may_pure (setU b) true w (by omega)) e44),
    (47, C awake5_pure),
    (51, C (set_pure (tameS a))),
    (54, CB (may_pure (setS (tameS a)) true (if i then v else tz) (by omega)) e54),
    (59, C (cat_pure (setS (tameS a)) (setU b) (by omega) (by omega))),
    (62, AD (if i then v else tz) w (by omega)),
    (63, CB (may_pure (catS (setS (tameS a)) (setU b)) true ((if i then v else tz) ++ w) (by omega)) e63),
    (69, C (cat_pure (setU b) (setS (tameS a)) (by omega) (by omega))),
    (72, AD w (if i then v else tz) (by omega)),
    (73, CB (may_pure (catS (setU b) (setS (tameS a))) true (w ++ (if i then v else tz)) (by omega)) e73),
    (77, AI 3 fr 255 (fr % 256) (and255 fr)),
    (80, PI .i64 3 (if i then v else tz).size 1 (((if i then v else tz).size + 1 : Nat) : Int) w1),
    (81, RI .i64 3 (fr % 256) (((if i then v else tz).size + 1 : Nat) : Int) F (by omega) hF),
    (84, AI 3 to 255 (to % 256) (and255 to)),
    (88, MI .i64 3 (if i then v else tz).size F (((if i then v else tz).size - F : Nat) : Int) w2),
    (89, PI .i64 3 (((if i then v else tz).size - F : Nat) : Int) 1 (((if i then v else tz).size - F + 1 : Nat) : Int) w3),
    (90, RI .i64 3 (to % 256) (((if i then v else tz).size - F + 1 : Nat) : Int) G (by omega) hG),
    (91, PI .i64 3 F G ((F + G : Nat) : Int) w4),
    (93, GT .i64 3 F 0 hgF),
    (98, LT .i64 3 ((F + G : Nat) : Int) (if i then v else tz).size hgT),
    (103, C (cut_pure (setS (tameS a)))),
    (107, SL (if i then v else tz) F (cond (gF && gT) (if i then v else tz).size (F + G)) t1 t2),
    (108, CB (may_pure (cutS (setS (tameS a))) true ((if i then v else tz).extract F (cond (gF && gT) (if i then v else tz).size (F + G))) (by omega)) e108),
    (115, ES v tz q115),
    (123, C (default_pure (tameS a) (setU b) c)),
    (125, CB (may_pure (defaultS (tameS a) (setU b) c) true v (by omega)) (e125 hu)),
    (129, C (given_pure (tameS a) c)),
    (131, CB (may_pure (givenS (tameS a) c) true v (by omega)) (e131 hu)),
    (137, C (altother_pure (tameS a) (setU b) c)),
    (139, CB (may_pure (otherS (tameS a) (setU b) c) true w (by omega)) (e139 hu)),
    (145, C (assigned_pure (tameS a) (setU b) c)),
    (147, CB (may_pure (defaultS (tameS a) (setU b) c) true v (by omega)) (e147 hu)),
    (150, C awake5_pure)]) fun w => ?_
      cases i <;> cases c <;> cases z <;> first | (cases hu; done) | (cases gF <;> cases gT <;> as_aux_lemma => kernel_rfl)
    | false =>
      refine pure_of_run mixed 100 (fun _ => [(23, C (tame_pure a (by omega))),
    (25, C (lawset_pure b (by omega))),
    (28, GT .i64 3 v.size 100 h1),
    (32, GT .i64 3 w.size 100 h2),
    (38, CB (may_pure (tameS a) i v (by omega)) e38),
    (44, CB (may_pure (setU b) true w (by omega)) e44),
    (47, C awake5_pure),
    (51, C (set_pure (tameS a))),
    (54, CB (may_pure (setS (tameS a)) true (if i then v else tz) (by omega)) e54),
    (59, C (cat_pure (setS (tameS a)) (setU b) (by omega) (by omega))),
    (62, AD (if i then v else tz) w (by omega)),
    (63, CB (may_pure (catS (setS (tameS a)) (setU b)) true ((if i then v else tz) ++ w) (by omega)) e63),
    (69, C (cat_pure (setU b) (setS (tameS a)) (by omega) (by omega))),
    (72, AD w (if i then v else tz) (by omega)),
    (73, CB (may_pure (catS (setU b) (setS (tameS a))) true (w ++ (if i then v else tz)) (by omega)) e73),
    (77, AI 3 fr 255 (fr % 256) (and255 fr)),
    (80, PI .i64 3 (if i then v else tz).size 1 (((if i then v else tz).size + 1 : Nat) : Int) w1),
    (81, RI .i64 3 (fr % 256) (((if i then v else tz).size + 1 : Nat) : Int) F (by omega) hF),
    (84, AI 3 to 255 (to % 256) (and255 to)),
    (88, MI .i64 3 (if i then v else tz).size F (((if i then v else tz).size - F : Nat) : Int) w2),
    (89, PI .i64 3 (((if i then v else tz).size - F : Nat) : Int) 1 (((if i then v else tz).size - F + 1 : Nat) : Int) w3),
    (90, RI .i64 3 (to % 256) (((if i then v else tz).size - F + 1 : Nat) : Int) G (by omega) hG),
    (91, PI .i64 3 F G ((F + G : Nat) : Int) w4),
    (93, GT .i64 3 F 0 hgF),
    (98, LT .i64 3 ((F + G : Nat) : Int) (if i then v else tz).size hgT),
    (103, C (cut_pure (setS (tameS a)))),
    (107, SL (if i then v else tz) F (cond (gF && gT) (if i then v else tz).size (F + G)) t1 t2),
    (108, CB (may_pure (cutS (setS (tameS a))) true ((if i then v else tz).extract F (cond (gF && gT) (if i then v else tz).size (F + G))) (by omega)) e108),
    (115, ES v tz q115),
    (155, C (default_pure (tameS a) (setU b) c)),
    (157, CB (may_pure (defaultS (tameS a) (setU b) c) true w (by omega)) (e157 hu)),
    (162, C (assigned_pure (tameS a) (setU b) c)),
    (164, CB (may_pure (defaultS (tameS a) (setU b) c) true w (by omega)) (e164 hu)),
    (170, C (altother_pure (tameS a) (setU b) c)),
    (171, CB (may_pure (otherS (tameS a) (setU b) c) true tz (by omega)) (e171 hu)),
    (174, C awake5_pure)]) fun w => ?_
      cases i <;> cases c <;> cases z <;> first | (cases hu; done) | (cases gF <;> cases gT <;> as_aux_lemma => kernel_rfl)
  · generalize h1 : decide ((100 : Int) < (v.size : Int)) = g1 at *
    generalize h2 : decide ((100 : Int) < (w.size : Int)) = g2 at *
    generalize e38 : (tameS a).may i v = g3 at *
    generalize e44 : (setU b).may true w = g4 at *
    cases g1 <;> cases g2 <;> cases g3 <;> cases g4
    all_goals first
      | exact absurd ⟨rfl, rfl, rfl, rfl⟩ hmain
      | exact pure_of_run mixed 100 (fun _ => [(23, C (tame_pure a (by omega))),
    (25, C (lawset_pure b (by omega))),
    (28, GT .i64 3 v.size 100 h1),
    (32, GT .i64 3 w.size 100 h2),
    (38, CB (may_pure (tameS a) i v (by omega)) e38),
    (44, CB (may_pure (setU b) true w (by omega)) e44),
    (47, C awake5_pure)]) (fun _ => by kernel_rfl)
end Go.Proofs.Ytlbonbkaddeeeaa
