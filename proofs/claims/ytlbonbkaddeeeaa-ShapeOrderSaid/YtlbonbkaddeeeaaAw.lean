/-
  What the document fixes of shapes, and of what is made of them: walked.
-/
import Derived.Test.YtlbonbkaddeeeaaSI
set_option linter.unusedSimpArgs false
set_option linter.unusedVariables false
namespace Go.Proofs.Ytlbonbkaddeeeaa
open Go.RowKit Go.Eng Go.Conch Go.Ev

def tA : ByteArray := ⟨#[97]⟩
def tB : ByteArray := ⟨#[98]⟩
def tAB : ByteArray := ⟨#[97, 98]⟩
def t0 : ByteArray := ⟨#[]⟩
def shX : Sh := (litS tA).join (litS tB)

theorem awake4_pure : Pure Try.prog 34 #[] (.bool true) := by
  have la := lit_pure tA (by decide)
  have lb := lit_pure tB (by decide)
  have e1 : shX.may true tAB = true := by decide +kernel
  have e2 : shX.may true t0 = false := by decide +kernel
  have e3 : anyS.may false t0 = true := by decide +kernel
  have e4 : Sh.zero.none = true := by decide +kernel
  have e5 : shX.none = false := by decide +kernel
  have e6 : (litS tA).leq shX = true := by decide +kernel
  have m1 := may_pure shX true tAB (by decide)
  have m2 := may_pure shX true t0 (by decide)
  have m3 := may_pure anyS false t0 (by decide)
  have n1 := shnone_pure Sh.zero
  have n2 := shnone_pure shX
  have q := leq_pure (litS tA) shX (by decide +kernel)
  rw [e1] at m1; rw [e2] at m2; rw [e3] at m3; rw [e4] at n1; rw [e5] at n2; rw [e6] at q
  exact pure_of_run mixed 100 (fun _ => [(2, C la), (3, C lb), (4, C (join_pure (litS tA) (litS tB))), (5, C la), (15, C (of_pure tAB (by decide))), (16, EH shX.has (ofBytes tAB.data.toList) (b := true) (by decide +kernel)),
    (20, C m1), (24, C m2), (28, C any_pure), (29, C m3), (32, C unset_pure), (37, C n1), (41, C n2), (45, C la), (47, C q)]) (fun _ => by kernel_rfl)

def tSp : ByteArray := ⟨#[97, 32, 98]⟩
def tBl : ByteArray := ⟨#[32]⟩
def tSt : ByteArray := ⟨#[42]⟩
theorem awake5_pure : Pure Try.prog 47 #[] (.bool true) := by
  have la := reflit_pure tA (by decide)
  have lb := reflit_pure tB (by decide)
  have lab := reflit_pure tAB (by decide)
  have l0 := reflit_pure t0 (by decide)
  have lsp := reflit_pure tSp (by decide)
  have lbl := reflit_pure tBl (by decide)
  have lst := reflit_pure tSt (by decide)
  have c := cat_pure (litS tA) (litS tB) (by decide +kernel) (by decide +kernel)
  have s := set_pure Sh.unset
  have e2 : splitS (litS tSp) (litS tBl) = true := by decide +kernel
  have e3 : splitS (litS tAB) (litS tBl) = false := by decide +kernel
  have e4 : globS (litS tSt) = true := by decide +kernel
  have m2 := maysplit_pure (litS tSp) (litS tBl) (by decide +kernel)
  have m3 := maysplit_pure (litS tAB) (litS tBl) (by decide +kernel)
  have m4 := mayglob_pure (litS tSt)
  rw [e2] at m2; rw [e3] at m3; rw [e4] at m4
  exact pure_of_run mixed 100 (fun _ => [(1, C la), (2, C lb), (3, C c), (4, C lab), (5, EX (catS (litS tA) (litS tB)) (litS tAB) (b := true) (by decide +kernel)),
    (7, C refunset_pure), (8, C s), (9, C l0), (10, EX (setS Sh.unset) (litS t0) (b := true) (by decide +kernel)), (13, C refany_pure), (14, C (mayunset_pure anyS)),
    (17, C lsp), (18, C lbl), (19, C m2), (22, C lab), (23, C lbl), (24, C m3), (28, C lst), (29, C m4), (32, C num_pure), (33, C refnum_pure), (34, EX numS numS (b := true) (by simp))]) (fun _ => by kernel_rfl)
end Go.Proofs.Ytlbonbkaddeeeaa
