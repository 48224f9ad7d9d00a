/-
  The law AlterRises walked: of more that may be more is made, and nothing is lost.
-/
import Derived.Test.YtlbonbkaddeeeaaShLawB
import Derived.Test.YtlbonbkaddeeeaaAw
set_option linter.unusedSimpArgs false
set_option linter.unusedVariables false
namespace Go.Proofs.Ytlbonbkaddeeeaa
open Go.RowKit Go.Eng Go.Conch Go.Ev

theorem order16 : Region.lexB .any (drawOf Try.prog 16 3) = true := by kernel_rfl

theorem alterrises_pure (a : Sh) (ha : a.lit.size ≤ 9223372036854775807) (b : Sh) (hb : b.lit.size ≤ 9223372036854775807) (d : Sh) (hd : d.lit.size ≤ 9223372036854775807) (f : Sh) (hf : f.lit.size ≤ 9223372036854775807) (c : Bool) :
    Pure Try.prog 16 #[a.val, b.val, d.val, f.val, .bool c] (.bool true) := by
  have oa := ok_tame a
  have ob := ok_tame b
  have ow := ok_setU d
  have oj := ok_join oa ob
  have op := ok_set oa
  have oq := ok_set oj
  have up := up_join oa ob
  have us := up_set oa up
  have z1 := ok_size op
  have z2 := ok_size oq
  have z3 := ok_size ow
  have z4 := tame_lit f
  have z5 := ok_size (ok_cat op ow)
  have z6 := ok_size (ok_cut op)
  have z7 := ok_size (ok_default oa ow c)
  have z8 := ok_size (ok_given oa c)
  have z9 := ok_size (ok_other oa ow c)
  have e32 : (setS (tameS a)).leq (setS ((tameS a).join (tameS b))) = true := (leq_iff op oq).2 (up_below op oq us)
  have e40 : (catS (setS (tameS a)) (setU d)).leq (catS (setS ((tameS a).join (tameS b))) (setU d)) = true := (leq_iff (ok_cat op ow) (ok_cat oq ow)).2 (up_below (ok_cat op ow) (ok_cat oq ow) (up_cat op oq ow (set_u _) (set_u _) us))
  have e47 : (cutS (setS (tameS a))).leq (cutS (setS ((tameS a).join (tameS b)))) = true := (leq_iff (ok_cut op) (ok_cut oq)).2 (up_below (ok_cut op) (ok_cut oq) (up_cut op oq (set_u _) (set_u _) us))
  have e58 : (defaultS (tameS a) (setU d) c).leq (defaultS ((tameS a).join (tameS b)) (setU d) c) = true := (leq_iff (ok_default oa ow c) (ok_default oj ow c)).2 (default_rises oa oj ow c up)
  have e67 : (givenS (tameS a) c).leq (givenS ((tameS a).join (tameS b)) c) = true := (leq_iff (ok_given oa c) (ok_given oj c)).2 (up_below (ok_given oa c) (ok_given oj c) (up_given oa oj c up))
  have e78 : (otherS (tameS a) (setU d) c).leq (otherS ((tameS a).join (tameS b)) (setU d) c) = true := (leq_iff (ok_other oa ow c) (ok_other oj ow c)).2 (other_rises oa oj ow c up)
  have e88 : splitS (setS ((tameS a).join (tameS b))) (tameS f) = (splitS (setS (tameS a)) (tameS f) || splitS (setS ((tameS a).join (tameS b))) (tameS f)) := by
    cases h : splitS (setS (tameS a)) (tameS f) with
    | false => rfl
    | true => rw [split_up op (set_u _) (set_u _) us h]; rfl
  have e97 : globS (setS ((tameS a).join (tameS b))) = (globS (setS (tameS a)) || globS (setS ((tameS a).join (tameS b)))) := by
    cases h : globS (setS (tameS a)) with
    | false => rfl
    | true => rw [glob_up op us h]; rfl
  have e106 : ((tameS a).join (tameS b)).u = ((tameS a).u || ((tameS a).join (tameS b)).u) := by
    cases h : (tameS a).u with
    | false => rfl
    | true => rw [up.1 h]; rfl
  generalize e83 : splitS (setS (tameS a)) (tameS f) = s1 at *
  generalize e93 : globS (setS (tameS a)) = s2 at *
  generalize e102 : (tameS a).u = s3 at *
  cases s1 <;> cases s2 <;> cases s3
  all_goals exact pure_of_run mixed 100 (fun _ => [(1000001, .order _ order16), (17, C (tame_pure a (by omega))),
    (19, C (lawset_pure d (by omega))),
    (22, C (tame_pure b (by omega))),
    (23, C (join_pure (tameS a) (tameS b))),
    (25, C (set_pure (tameS a))),
    (27, C (set_pure ((tameS a).join (tameS b)))),
    (29, C (tame_pure f (by omega))),
    (32, CB (leq_pure (setS (tameS a)) (setS ((tameS a).join (tameS b))) (by omega)) e32),
    (36, C (cat_pure (setS (tameS a)) (setU d) (by omega) (by omega))),
    (39, C (cat_pure (setS ((tameS a).join (tameS b))) (setU d) (by omega) (by omega))),
    (40, CB (leq_pure (catS (setS (tameS a)) (setU d)) (catS (setS ((tameS a).join (tameS b))) (setU d)) (by omega)) e40),
    (44, C (cut_pure (setS (tameS a)))),
    (46, C (cut_pure (setS ((tameS a).join (tameS b))))),
    (47, CB (leq_pure (cutS (setS (tameS a))) (cutS (setS ((tameS a).join (tameS b)))) (by omega)) e47),
    (53, C (default_pure (tameS a) (setU d) c)),
    (57, C (default_pure ((tameS a).join (tameS b)) (setU d) c)),
    (58, CB (leq_pure (defaultS (tameS a) (setU d) c) (defaultS ((tameS a).join (tameS b)) (setU d) c) (by omega)) e58),
    (63, C (given_pure (tameS a) c)),
    (66, C (given_pure ((tameS a).join (tameS b)) c)),
    (67, CB (leq_pure (givenS (tameS a) c) (givenS ((tameS a).join (tameS b)) c) (by omega)) e67),
    (73, C (altother_pure (tameS a) (setU d) c)),
    (77, C (altother_pure ((tameS a).join (tameS b)) (setU d) c)),
    (78, CB (leq_pure (otherS (tameS a) (setU d) c) (otherS ((tameS a).join (tameS b)) (setU d) c) (by omega)) e78),
    (83, CB (maysplit_pure (setS (tameS a)) (tameS f) (by omega)) e83),
    (88, CB (maysplit_pure (setS ((tameS a).join (tameS b))) (tameS f) (by omega)) e88),
    (93, CB (mayglob_pure (setS (tameS a))) e93),
    (97, CB (mayglob_pure (setS ((tameS a).join (tameS b)))) e97),
    (102, CB (mayunset_pure (tameS a)) e102),
    (106, CB (mayunset_pure ((tameS a).join (tameS b))) e106),
    (110, C awake5_pure)]) (fun _ => by kernel_rfl)
end Go.Proofs.Ytlbonbkaddeeeaa
