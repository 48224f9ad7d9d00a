/-
  The law ShapeTells walked: shapes are made, asked, joined and compared as the document says.
-/
import Derived.Test.YtlbonbkaddeeeaaShLaw
import Derived.Test.YtlbonbkaddeeeaaAw
set_option linter.unusedSimpArgs false
set_option linter.unusedVariables false
namespace Go.Proofs.Ytlbonbkaddeeeaa
open Go.RowKit Go.Eng Go.Conch Go.Ev

theorem shapetells_pure (a : Sh) (ha : a.lit.size ≤ 9223372036854775807) (b : Sh) (hb : b.lit.size ≤ 9223372036854775807) (v : ByteArray) (hv : v.size ≤ 9223372036854775807) (i : Bool) :
    Pure Try.prog 11 #[a.val, b.val, .string v, .bool i] (.bool true) := by
  have ta := tame_lit a
  have tb := tame_lit b
  have oa := ok_tame a
  have ob := ok_tame b
  have q29 : decide (okS a = okS a) = true := same _
  have q35 : decide (litS v = litS v) = true := same _
  have q40 : decide (anyS = anyS) = true := same _
  have q45 : decide (Sh.unset = Sh.unset) = true := same _
  have q56 : decide (ofS a.has i = ofS a.has i) = true := same _
  have e63 : okS (tameS a) = true := ok_iff.2 oa
  have q71 : decide ((tameS a).join (tameS b) = (tameS a).refJoin (tameS b)) = true := decide_eq_true (refJoin_eq oa ob).symm
  have q80 : decide ((tameS a).leq (tameS b) = (tameS a).refLeq (tameS b)) = true := decide_eq_true (leq_ref oa ob)
  have q91 : decide ((tameS a).may i v = (tameS a).may i v) = true := same _
  have q98 : decide ((tameS a).none = (tameS a).none) = true := same _
  have q105 : decide ((tameS a).loose = (tameS a).loose) = true := same _
  cases h1 : decide ((200 : Int) < (v.size : Int)) <;> cases h2 : decide ((200 : Int) < (a.lit.size : Int)) <;> cases h3 : decide ((200 : Int) < (b.lit.size : Int))
  all_goals exact pure_of_run mixed 100 (fun _ => [(11, GT .i64 3 v.size 200 h1),
    (16, GT .i64 3 a.lit.size 200 h2),
    (22, GT .i64 3 b.lit.size 200 h3),
    (24, C awake4_pure),
    (26, C (ok_pure a (by omega))),
    (28, C (refok_pure a (by omega))),
    (29, NB (okS a) (okS a) q29),
    (32, C (lit_pure v (by omega))),
    (34, C (reflit_pure v (by omega))),
    (35, NX (litS v) (litS v) q35),
    (38, C any_pure),
    (39, C refany_pure),
    (40, NX anyS anyS q40),
    (43, C unset_pure),
    (44, C refunset_pure),
    (45, NX Sh.unset Sh.unset q45),
    (51, C (ofs_pure a.has i)),
    (55, C (refofs_pure a.has i)),
    (56, NX (ofS a.has i) (ofS a.has i) q56),
    (59, C (tame_pure a (by omega))),
    (61, C (tame_pure b (by omega))),
    (63, CB (ok_pure (tameS a) (by omega)) e63),
    (67, C (join_pure (tameS a) (tameS b))),
    (70, C (refjoin_pure (tameS a) (tameS b))),
    (71, EX ((tameS a).join (tameS b)) ((tameS a).refJoin (tameS b)) q71),
    (76, C (leq_pure (tameS a) (tameS b) (by omega))),
    (79, C (refleq_pure (tameS a) (tameS b))),
    (80, EB ((tameS a).leq (tameS b)) ((tameS a).refLeq (tameS b)) q80),
    (86, C (may_pure (tameS a) i v (by omega))),
    (90, C (refmay_pure (tameS a) i v (by omega))),
    (91, EB ((tameS a).may i v) ((tameS a).may i v) q91),
    (95, C (shnone_pure (tameS a))),
    (97, C (refshnone_pure (tameS a))),
    (98, EB ((tameS a).none) ((tameS a).none) q98),
    (102, C (loose_pure (tameS a))),
    (104, C (refloose_pure (tameS a))),
    (105, EX ((tameS a).loose) ((tameS a).loose) q105),
    (108, C awake4_pure)]) (fun _ => by kernel_rfl)
end Go.Proofs.Ytlbonbkaddeeeaa
