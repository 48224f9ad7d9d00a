/-
  What comparisons yield, as the computed walk takes it: of texts, whole numbers, sets and shapes.
-/
import Derived.Test.YtlbonbkaddeeeaaEv
import Derived.Test.YtlbonbkaddeeeaaSH
import Derived.Laws.StructEq
set_option linter.unusedSimpArgs false
set_option linter.unusedVariables false
namespace Go.Proofs.Ytlbonbkaddeeeaa
open Go.RowKit Go.Eng Go.Conch Go.Ev

theorem mixed : Try.prog.follows .mixedOrders = true := by kernel_rfl
abbrev TI (w : World) := Go.Ev.Item Try.prog w
def C {w : World} {f : FuncId} {args : Array Value} {v : Value} (h : Pure Try.prog f args v) : TI w := .call f args v h

def CB {w : World} {f : FuncId} {args : Array Value} {b c : Bool} (h : Pure Try.prog f args (.bool b)) (e : b = c) : TI w := .call f args (.bool c) (by rw [← e]; exact h)
theorem boo_bin (s t : Bool) (x y : Operand) (W : World) : (do eqGuard .eql 4 x y (.bool s) (.bool t); binOp .eql 4 (.bool s) (.bool t) : Sem Value).run Try.prog W = .ok (.bool (decide (s = t))) W := by
  have e : (s == t) = decide (s = t) := by cases s <;> cases t <;> rfl
  have h := run_eql_bool (P := Try.prog) W 4 s t Try.underlying4
  simp only [eqGuard, Sem.run_bind, Sem.run_pure, Result.andThen_ok]
  rw [← e]
  exact h
theorem boon_bin (s t : Bool) (x y : Operand) (W : World) : (do eqGuard .neq 4 x y (.bool s) (.bool t); binOp .neq 4 (.bool s) (.bool t) : Sem Value).run Try.prog W = .ok (.bool (!decide (s = t))) W := by
  have e : (s == t) = decide (s = t) := by cases s <;> cases t <;> rfl
  have h := run_neq_bool (P := Try.prog) W 4 s t Try.underlying4
  simp only [eqGuard, Sem.run_bind, Sem.run_pure, Result.andThen_ok]
  rw [← e]
  exact h
def EB {w : World} (s t : Bool) {b : Bool} (h : decide (s = t) = b) : TI w := .bin .eql 4 (.bool s) (.bool t) (.bool b) (by subst h; exact boo_bin s t)
def NB {w : World} (s t : Bool) {b : Bool} (h : decide (s = t) = b) : TI w := .bin .neq 4 (.bool s) (.bool t) (.bool (!b)) (by subst h; exact boon_bin s t)
theorem same {α : Type} [DecidableEq α] (x : α) : decide (x = x) = true := decide_eq_true rfl

theorem guard_has : Try.prog.eqGuardType Try.prog.depth 25 = false := by kernel_rfl
theorem guard_sh : Try.prog.eqGuardType Try.prog.depth 39 = false := by kernel_rfl
theorem has_bin (s t : S4) (x y : Operand) (W : World) : (do eqGuard .eql 25 x y s.val t.val; binOp .eql 25 s.val t.val : Sem Value).run Try.prog W = .ok (.bool (decide (s = t))) W := by
  rw [Sem.run_bind, run_eqGuard_agg W _ _ _ _ _ _ guard_has, Result.andThen_ok]
  simp only [S4.val, binOp, Op.equal, Op.maxDepth, Sem.run_bind, eq_run, Result.andThen_ok, Sem.run_pure]
theorem hasn_bin (s t : S4) (x y : Operand) (W : World) : (do eqGuard .neq 25 x y s.val t.val; binOp .neq 25 s.val t.val : Sem Value).run Try.prog W = .ok (.bool (!decide (s = t))) W := by
  rw [Sem.run_bind, run_eqGuard_agg W _ _ _ _ _ _ guard_has, Result.andThen_ok]
  simp only [S4.val, binOp, Op.equal, Op.maxDepth, Sem.run_bind, eq_run, Result.andThen_ok, Sem.run_pure]
/-- Sets are the same. -/
def EH {w : World} (s t : S4) {b : Bool} (h : decide (s = t) = b) : TI w := .bin .eql 25 s.val t.val (.bool b) (by subst h; exact has_bin s t)
def NH {w : World} (s t : S4) {b : Bool} (h : decide (s = t) = b) : TI w := .bin .neq 25 s.val t.val (.bool (!b)) (by subst h; exact hasn_bin s t)

theorem str_bin (s t : ByteArray) (x y : Operand) (W : World) : (do eqGuard .eql 9 x y (.string s) (.string t); binOp .eql 9 (.string s) (.string t) : Sem Value).run Try.prog W = .ok (.bool (decide (s = t))) W := by
  simp [eqGuard, binOp, Op.stringOp, beq_toListBytes, toList_beq]
theorem strn_bin (s t : ByteArray) (x y : Operand) (W : World) : (do eqGuard .neq 9 x y (.string s) (.string t); binOp .neq 9 (.string s) (.string t) : Sem Value).run Try.prog W = .ok (.bool (!decide (s = t))) W := by
  simp [eqGuard, binOp, Op.stringOp, beq_toListBytes, toList_beq]
def ES {w : World} (s t : ByteArray) {b : Bool} (h : decide (s = t) = b) : TI w := .bin .eql 9 (.string s) (.string t) (.bool b) (by subst h; exact str_bin s t)
def NS {w : World} (s t : ByteArray) {b : Bool} (h : decide (s = t) = b) : TI w := .bin .neq 9 (.string s) (.string t) (.bool (!b)) (by subst h; exact strn_bin s t)

theorem leq_bin (k : IntKind) (t : TypeId) (a b : Int) (x y : Operand) (W : World) : (do eqGuard .leq t x y (.int k a) (.int k b); binOp .leq t (.int k a) (.int k b) : Sem Value).run Try.prog W = .ok (.bool (decide (a ≤ b))) W := by
  simp [eqGuard, binOp, Op.intCmp]
theorem lss_bin (k : IntKind) (t : TypeId) (a b : Int) (x y : Operand) (W : World) : (do eqGuard .lss t x y (.int k a) (.int k b); binOp .lss t (.int k a) (.int k b) : Sem Value).run Try.prog W = .ok (.bool (decide (a < b))) W := by
  simp [eqGuard, binOp, Op.intCmp]
theorem gtr_bin (k : IntKind) (t : TypeId) (a b : Int) (x y : Operand) (W : World) : (do eqGuard .gtr t x y (.int k a) (.int k b); binOp .gtr t (.int k a) (.int k b) : Sem Value).run Try.prog W = .ok (.bool (decide (b < a))) W := by
  simp [eqGuard, binOp, Op.intCmp]
def LE {w : World} (k : IntKind) (t : TypeId) (a b : Int) {c : Bool} (h : decide (a ≤ b) = c) : TI w := .bin .leq t (.int k a) (.int k b) (.bool c) (by subst h; exact leq_bin k t a b)
def LT {w : World} (k : IntKind) (t : TypeId) (a b : Int) {c : Bool} (h : decide (a < b) = c) : TI w := .bin .lss t (.int k a) (.int k b) (.bool c) (by subst h; exact lss_bin k t a b)
def GT {w : World} (k : IntKind) (t : TypeId) (a b : Int) {c : Bool} (h : decide (b < a) = c) : TI w := .bin .gtr t (.int k a) (.int k b) (.bool c) (by subst h; exact gtr_bin k t a b)

theorem stood39 : Try.prog.stoodInHeld 39 = false := by kernel_rfl
theorem fields39 : Try.prog.underlying 39 = some (.struct (Try.prog.fieldsOf 39)) := by kernel_rfl
def names39 : List Field := [{ name := "U", type := 4, offset := 0, embedded := false, tag := "", pkgPath := "", byteOffset := 0 },
  { name := "E", type := 4, offset := 1, embedded := false, tag := "", pkgPath := "", byteOffset := 1 },
  { name := "Has", type := 25, offset := 2, embedded := false, tag := "", pkgPath := "", byteOffset := 8 },
  { name := "K", type := 4, offset := 6, embedded := false, tag := "", pkgPath := "", byteOffset := 40 },
  { name := "Lit", type := 9, offset := 7, embedded := false, tag := "", pkgPath := "", byteOffset := 48 }]
theorem list39 : (Try.prog.fieldsOf 39).toList = names39 := by kernel_rfl
theorem part39 (x0 x1 x2 x3 x4 x5 x6 x7 : Value) (W : World) :
    (part 4 #[x0, x1, x2, x3, x4, x5, x6, x7] 0).run Try.prog W = .ok x0 W ∧ (part 4 #[x0, x1, x2, x3, x4, x5, x6, x7] 1).run Try.prog W = .ok x1 W ∧
    (part 25 #[x0, x1, x2, x3, x4, x5, x6, x7] 2).run Try.prog W = .ok (.agg #[x2, x3, x4, x5]) W ∧
    (part 4 #[x0, x1, x2, x3, x4, x5, x6, x7] 6).run Try.prog W = .ok x6 W ∧ (part 9 #[x0, x1, x2, x3, x4, x5, x6, x7] 7).run Try.prog W = .ok x7 W :=
  ⟨pureRun_run _ _ W (by kernel_rfl), pureRun_run _ _ W (by kernel_rfl), pureRun_run _ _ W (by kernel_rfl), pureRun_run _ _ W (by kernel_rfl), pureRun_run _ _ W (by kernel_rfl)⟩
theorem eq_run9 (s t : S4) (W : World) : Sem.run Try.prog (Op.equalIn 9999 25 (.agg #[.int .u64 s.a.toNat, .int .u64 s.b.toNat, .int .u64 s.c.toNat, .int .u64 s.d.toNat]) (.agg #[.int .u64 t.a.toNat, .int .u64 t.b.toNat, .int .u64 t.c.toNat, .int .u64 t.d.toNat])) W = .ok (decide (s = t)) W := by
  rw [eq_words, eqB]
theorem sh_eqIn (s t : Sh) (W : World) : Sem.run Try.prog (Op.equalIn 10000 39 s.val t.val) W = .ok (decide (s = t)) W := by
  obtain ⟨u, e, h, k, l⟩ := s
  obtain ⟨u2, e2, h2, k2, l2⟩ := t
  show Sem.run Try.prog (Op.equalIn (9999 + 1) 39 (.agg _) (.agg _)) W = _
  rw [run_equalIn_agg W 9999 39 _ _ fields39 stood39, list39]
  have p0 := fun x0 x1 x2 x3 x4 x5 x6 x7 W => (part39 x0 x1 x2 x3 x4 x5 x6 x7 W).1
  have p1 := fun x0 x1 x2 x3 x4 x5 x6 x7 W => (part39 x0 x1 x2 x3 x4 x5 x6 x7 W).2.1
  have p2 := fun x0 x1 x2 x3 x4 x5 x6 x7 W => (part39 x0 x1 x2 x3 x4 x5 x6 x7 W).2.2.1
  have p3 := fun x0 x1 x2 x3 x4 x5 x6 x7 W => (part39 x0 x1 x2 x3 x4 x5 x6 x7 W).2.2.2.1
  have p4 := fun x0 x1 x2 x3 x4 x5 x6 x7 W => (part39 x0 x1 x2 x3 x4 x5 x6 x7 W).2.2.2.2
  have b1 := fun (a b : Bool) W => run_equalIn_bool (P := Try.prog) W 9998 4 a b Try.underlying4
  have s1 := fun (a b : ByteArray) W => run_equalIn_string (P := Try.prog) W 9998 9 a b Try.underlying9
  simp only [names39, Op.eqFields, ne_eq, Sem.run_bind, p0, p1, p2, p3, p4, Result.andThen_ok, b1, s1, eq_run9]
  by_cases c1 : u = u2 <;> by_cases c2 : e = e2 <;> by_cases c3 : h = h2 <;> by_cases c4 : k = k2 <;> by_cases c5 : l = l2 <;>
    simp [c1, c2, c3, c4, c5, p0, p1, p2, p3, p4, b1, s1, eq_run9, toList_beq]
theorem sh_bin (s t : Sh) (x y : Operand) (W : World) : (do eqGuard .eql 39 x y s.val t.val; binOp .eql 39 s.val t.val : Sem Value).run Try.prog W = .ok (.bool (decide (s = t))) W := by
  rw [Sem.run_bind, run_eqGuard_agg W _ _ _ _ _ _ guard_sh, Result.andThen_ok]
  simp only [binOp, Op.equal, Op.maxDepth, Sem.run_bind, sh_eqIn, Result.andThen_ok, Sem.run_pure]
theorem shn_bin (s t : Sh) (x y : Operand) (W : World) : (do eqGuard .neq 39 x y s.val t.val; binOp .neq 39 s.val t.val : Sem Value).run Try.prog W = .ok (.bool (!decide (s = t))) W := by
  rw [Sem.run_bind, run_eqGuard_agg W _ _ _ _ _ _ guard_sh, Result.andThen_ok]
  simp only [binOp, Op.equal, Op.maxDepth, Sem.run_bind, sh_eqIn, Result.andThen_ok, Sem.run_pure]
def EX {w : World} (s t : Sh) {b : Bool} (h : decide (s = t) = b) : TI w := .bin .eql 39 s.val t.val (.bool b) (by subst h; exact sh_bin s t)
def NX {w : World} (s t : Sh) {b : Bool} (h : decide (s = t) = b) : TI w := .bin .neq 39 s.val t.val (.bool (!b)) (by subst h; exact shn_bin s t)

def setS (x : Sh) : Sh := if x.u = false then x else if x.there = false then litS ⟨#[]⟩ else ⟨false, true, x.has, false, ⟨#[]⟩⟩

theorem set_pure (x : Sh) : Pure Try.prog 64 #[x.val] (setS x).val := by
  obtain ⟨u, e, h, k, l⟩ := x
  have p := there_pure ⟨false, e, h, k, l⟩
  have pl := loose_pure ⟨false, e, h, k, l⟩
  have p0 := lit_pure ⟨#[]⟩ (by decide)
  have e1 : setS ⟨u, e, h, k, l⟩ = if u = false then ⟨u, e, h, k, l⟩ else if (Sh.mk false e h k l).there = false then litS ⟨#[]⟩ else ⟨false, true, h, false, ⟨#[]⟩⟩ := rfl
  rw [e1]
  generalize (Sh.mk false e h k l).there = t at *
  rcases u with _ | _ <;> rcases t with _ | _
  all_goals exact pure_of_run mixed 100 (fun _ => [(9, C p), (11, C p0), (13, C pl)]) (fun _ => by kernel_rfl)
end Go.Proofs.Ytlbonbkaddeeeaa
