/-
  The law AlterTells walked: what is made of shapes, and what they may do, is as the document says.
-/
import Derived.Test.YtlbonbkaddeeeaaShLawB
import Derived.Test.YtlbonbkaddeeeaaAw
set_option linter.unusedSimpArgs false
set_option linter.unusedVariables false
namespace Go.Proofs.Ytlbonbkaddeeeaa
open Go.RowKit Go.Eng Go.Conch Go.Ev

theorem altertells_pure (a : Sh) (ha : a.lit.size ≤ 9223372036854775807) (b : Sh) (hb : b.lit.size ≤ 9223372036854775807) (f : Sh) (hf : f.lit.size ≤ 9223372036854775807) (c : Bool) :
    Pure Try.prog 14 #[a.val, b.val, f.val, .bool c] (.bool true) := by
  have oa := ok_tame a
  have ow := ok_setU b
  have oy := ok_setU a
  have z1 := ok_size ow
  have z2 := ok_size oy
  have z3 := tame_lit f
  have q24 : decide (setS (tameS a) = setS (tameS a)) = true := same _
  have q32 : decide (catS (setU a) (setU b) = catS (setU a) (setU b)) = true := same _
  have q39 : decide (cutS (setU a) = refCutS (setU a)) = true := decide_eq_true (cut_ref rfl)
  have q49 : decide (defaultS (tameS a) (setU b) c = refDefaultS (tameS a) (setU b) c) = true := decide_eq_true (default_ref oa ow c)
  have q59 := q49
  have q68 : decide (givenS (tameS a) c = givenS (tameS a) c) = true := same _
  have q79 : decide (otherS (tameS a) (setU b) c = refOtherS (tameS a) (setU b) c) = true := decide_eq_true (other_ref oa ow c)
  have q85 : decide ((tameS a).u = (tameS a).u) = true := same _
  have q93 : decide (splitS (setU a) (tameS f) = refSplitS (setU a) (tameS f)) = true := decide_eq_true (split_ref rfl)
  have q100 : decide (globS (setU a) = globS (setU a)) = true := same _
  exact pure_of_run mixed 100 (fun _ => [(13, C (tame_pure a (by omega))),
    (15, C (lawset_pure b (by omega))),
    (17, C (lawset_pure a (by omega))),
    (19, C (tame_pure f (by omega))),
    (21, C (set_pure (tameS a))),
    (23, C (read_pure (tameS a))),
    (24, NX (setS (tameS a)) (setS (tameS a)) q24),
    (28, C (cat_pure (setU a) (setU b) (by omega) (by omega))),
    (31, C (refcat_pure (setU a) (setU b) (by omega) (by omega))),
    (32, NX (catS (setU a) (setU b)) (catS (setU a) (setU b)) q32),
    (36, C (cut_pure (setU a))),
    (38, C (refcut_pure (setU a))),
    (39, NX (cutS (setU a)) (refCutS (setU a)) q39),
    (44, C (default_pure (tameS a) (setU b) c)),
    (48, C (refdefault_pure (tameS a) (setU b) c)),
    (49, NX (defaultS (tameS a) (setU b) c) (refDefaultS (tameS a) (setU b) c) q49),
    (54, C (assigned_pure (tameS a) (setU b) c)),
    (58, C (refdefault_pure (tameS a) (setU b) c)),
    (59, NX (defaultS (tameS a) (setU b) c) (refDefaultS (tameS a) (setU b) c) q59),
    (64, C (given_pure (tameS a) c)),
    (67, C (refgiven_pure (tameS a) c)),
    (68, NX (givenS (tameS a) c) (givenS (tameS a) c) q68),
    (74, C (altother_pure (tameS a) (setU b) c)),
    (78, C (refother_pure (tameS a) (setU b) c)),
    (79, NX (otherS (tameS a) (setU b) c) (refOtherS (tameS a) (setU b) c) q79),
    (82, C (mayunset_pure (tameS a))),
    (85, EB ((tameS a).u) ((tameS a).u) q85),
    (89, C (maysplit_pure (setU a) (tameS f) (by omega))),
    (92, C (refmaysplit_pure (setU a) (tameS f) (by omega))),
    (93, EB (splitS (setU a) (tameS f)) (refSplitS (setU a) (tameS f)) q93),
    (97, C (mayglob_pure (setU a))),
    (99, C (refmayglob_pure (setU a))),
    (100, EB (globS (setU a)) (globS (setU a)) q100),
    (103, C awake5_pure)]) (fun _ => by kernel_rfl)
end Go.Proofs.Ytlbonbkaddeeeaa
