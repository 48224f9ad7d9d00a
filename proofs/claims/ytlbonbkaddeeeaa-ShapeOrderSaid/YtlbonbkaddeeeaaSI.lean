/-
  What is made of shapes: the walks, computed, of the functions of layer 5 and of the document's own.
-/
import Derived.Test.YtlbonbkaddeeeaaEvA
set_option linter.unusedSimpArgs false
set_option linter.unusedVariables false
namespace Go.Proofs.Ytlbonbkaddeeeaa
open Go.RowKit Go.Eng Go.Conch Go.Ev

theorem read_pure (x : Sh) : Pure Try.prog 65 #[x.val] (setS x).val := by
  obtain ⟨u, e, h, k, l⟩ := x
  have p := could_pure ⟨u, e, h, k, l⟩
  have pl := refloose_pure ⟨u, e, h, k, l⟩
  have p0 := reflit_pure ⟨#[]⟩ (by decide)
  have e1 : setS ⟨u, e, h, k, l⟩ = if u = false then ⟨u, e, h, k, l⟩ else if (Sh.mk u e h k l).there = false then litS ⟨#[]⟩ else ⟨false, true, h, false, ⟨#[]⟩⟩ := rfl
  rw [e1]
  generalize (Sh.mk u e h k l).there = t at *
  rcases u with _ | _ <;> rcases t with _ | _
  all_goals exact pure_of_run mixed 100 (fun _ => [(9, C p), (11, C p0), (13, C pl)]) (fun _ => by kernel_rfl)

def catS (a b : Sh) : Sh :=
  if a.none || b.none then Sh.zero
  else if a.k && (b.k && decide (a.lit.size + b.lit.size ≤ 64)) then litS (a.lit ++ b.lit)
  else ⟨false, a.e && b.e, a.has.or b.has, false, ⟨#[]⟩⟩

theorem add_bin (s t : ByteArray) (h : s.size + t.size ≤ 9223372036854775807) (x y : Operand) (W : World) : (do eqGuard .add 9 x y (.string s) (.string t); binOp .add 9 (.string s) (.string t) : Sem Value).run Try.prog W = .ok (.string (s ++ t)) W := by
  have h2 : ¬ (((s.size + t.size : Nat) : Int) > IntKind.i64.max) := by
    show ¬ (((s.size + t.size : Nat) : Int) > 9223372036854775807)
    omega
  simp only [eqGuard, binOp, Op.stringOp, if_neg h2]
  rfl
def AD {w : World} (s t : ByteArray) (h : s.size + t.size ≤ 9223372036854775807) : TI w := .bin .add 9 (.string s) (.string t) (.string (s ++ t)) (add_bin s t h)
theorem wrap_add (a b : Nat) (h : a + b ≤ 9223372036854775807) : IntKind.i64.wrap ((a : Int) + (b : Int)) = ((a + b : Nat) : Int) := by
  rw [IntWalk.i64_in _ (by omega)]
  omega

theorem cat_pure (x y : Sh) (hx : x.lit.size ≤ 4611686018427387903) (hy : y.lit.size ≤ 4611686018427387903) : Pure Try.prog 66 #[x.val, y.val] (catS x y).val := by
  have px := shnone_pure x
  have py := shnone_pure y
  obtain ⟨u, e, h, k, l⟩ := x
  obtain ⟨u2, e2, h2, k2, l2⟩ := y
  simp only at hx hy
  have pl := lit_pure (l ++ l2) (by rw [ByteArray.size_append]; omega)
  have po := or_pure h h2
  have hd : decide (IntKind.i64.wrap ((l.size : Int) + (l2.size : Int)) ≤ 64) = decide (l.size + l2.size ≤ 64) := by
    rw [wrap_add _ _ (by omega), decide_eq_decide]; omega
  have e1 : catS ⟨u, e, h, k, l⟩ ⟨u2, e2, h2, k2, l2⟩ = if (Sh.mk u e h k l).none || (Sh.mk u2 e2 h2 k2 l2).none then Sh.zero
    else if k && (k2 && decide (l.size + l2.size ≤ 64)) then litS (l ++ l2) else ⟨false, e && e2, h.or h2, false, ⟨#[]⟩⟩ := rfl
  rw [e1]
  generalize (Sh.mk u e h k l).none = n at *
  generalize (Sh.mk u2 e2 h2 k2 l2).none = n2 at *
  generalize hq : decide (l.size + l2.size ≤ 64) = q at *
  rcases n with _ | _ <;> rcases n2 with _ | _
  · rcases k with _ | _ <;> rcases k2 with _ | _ <;> rcases q with _ | _ <;> rcases e with _ | _
    all_goals exact pure_of_run mixed 100 (fun _ => [(6, C px), (9, C py), (26, LE .i64 3 _ 64 hd), (32, AD l l2 (by omega)), (33, C pl), (38, C po)]) (fun _ => by kernel_rfl)
  all_goals exact pure_of_run mixed 100 (fun _ => [(6, C px), (9, C py)]) (fun _ => by kernel_rfl)

theorem refcat_pure (x y : Sh) (hx : x.lit.size ≤ 4611686018427387903) (hy : y.lit.size ≤ 4611686018427387903) : Pure Try.prog 67 #[x.val, y.val] (catS x y).val := by
  have px := refshnone_pure x
  have py := refshnone_pure y
  obtain ⟨u, e, h, k, l⟩ := x
  obtain ⟨u2, e2, h2, k2, l2⟩ := y
  simp only at hx hy
  have pl := reflit_pure (l ++ l2) (by rw [ByteArray.size_append]; omega)
  have po := refor_pure h h2
  have hd : decide (IntKind.i64.wrap ((l.size : Int) + (l2.size : Int)) ≤ 64) = decide (l.size + l2.size ≤ 64) := by
    rw [wrap_add _ _ (by omega), decide_eq_decide]; omega
  have e1 : catS ⟨u, e, h, k, l⟩ ⟨u2, e2, h2, k2, l2⟩ = if (Sh.mk u e h k l).none || (Sh.mk u2 e2 h2 k2 l2).none then Sh.zero
    else if k && (k2 && decide (l.size + l2.size ≤ 64)) then litS (l ++ l2) else ⟨false, e && e2, h.or h2, false, ⟨#[]⟩⟩ := rfl
  rw [e1]
  generalize (Sh.mk u e h k l).none = n at *
  generalize (Sh.mk u2 e2 h2 k2 l2).none = n2 at *
  generalize hq : decide (l.size + l2.size ≤ 64) = q at *
  rcases n with _ | _ <;> rcases n2 with _ | _
  · rcases k with _ | _ <;> rcases k2 with _ | _ <;> rcases q with _ | _ <;> rcases e with _ | _
    all_goals exact pure_of_run mixed 100 (fun _ => [(6, C px), (9, C py), (26, LE .i64 3 _ 64 hd), (32, AD l l2 (by omega)), (33, C pl), (44, C po)]) (fun _ => by kernel_rfl)
  all_goals exact pure_of_run mixed 100 (fun _ => [(6, C px), (9, C py)]) (fun _ => by kernel_rfl)

def cutS (x : Sh) : Sh := if x.none || (x.k && decide (x.lit = ⟨#[]⟩)) then x else ⟨x.u, true, x.has, false, ⟨#[]⟩⟩
def refCutS (x : Sh) : Sh := if x.none || (x.k && decide (x.lit = ⟨#[]⟩)) then x else ⟨false, true, x.has, false, ⟨#[]⟩⟩

theorem cut_pure (x : Sh) : Pure Try.prog 68 #[x.val] (cutS x).val := by
  have px := shnone_pure x
  have pl := loose_pure x
  obtain ⟨u, e, h, k, l⟩ := x
  have e1 : cutS ⟨u, e, h, k, l⟩ = if (Sh.mk u e h k l).none || (k && decide (l = ⟨#[]⟩)) then ⟨u, e, h, k, l⟩ else ⟨u, true, h, false, ⟨#[]⟩⟩ := rfl
  rw [e1]
  generalize (Sh.mk u e h k l).none = n at *
  generalize hq : decide (l = ⟨#[]⟩) = q at *
  rcases n with _ | _ <;> rcases k with _ | _ <;> rcases q with _ | _
  all_goals exact pure_of_run mixed 100 (fun _ => [(4, C px), (11, ES l _ hq), (16, C pl)]) (fun _ => by kernel_rfl)
theorem refcut_pure (x : Sh) : Pure Try.prog 69 #[x.val] (refCutS x).val := by
  have px := refshnone_pure x
  obtain ⟨u, e, h, k, l⟩ := x
  have e1 : refCutS ⟨u, e, h, k, l⟩ = if (Sh.mk u e h k l).none || (k && decide (l = ⟨#[]⟩)) then ⟨u, e, h, k, l⟩ else ⟨false, true, h, false, ⟨#[]⟩⟩ := rfl
  rw [e1]
  generalize (Sh.mk u e h k l).none = n at *
  generalize hq : decide (l = ⟨#[]⟩) = q at *
  rcases n with _ | _ <;> rcases k with _ | _ <;> rcases q with _ | _
  all_goals exact pure_of_run mixed 100 (fun _ => [(4, C px), (11, ES l _ hq)]) (fun _ => by kernel_rfl)

def numS : Sh := ofS (ofBytes [45, 48, 49, 50, 51, 52, 53, 54, 55, 56, 57]) false
theorem num_pure : Pure Try.prog 41 #[] numS.val :=
  pure_of_run mixed 100 (fun _ => [(1, C (of_pure ⟨#[45, 48, 49, 50, 51, 52, 53, 54, 55, 56, 57]⟩ (by decide))), (2, C (ofs_pure (ofBytes [45, 48, 49, 50, 51, 52, 53, 54, 55, 56, 57]) false))]) (fun _ => by kernel_rfl)
theorem num_bytes : ofBytes [48, 49, 50, 51, 52, 53, 54, 55, 56, 57, 45] = ofBytes [45, 48, 49, 50, 51, 52, 53, 54, 55, 56, 57] := by decide +kernel
theorem refnum_pure : Pure Try.prog 86 #[] numS.val := by
  unfold numS
  rw [← num_bytes]
  exact pure_of_run mixed 100 (fun _ => [(1, C (refof_pure ⟨#[48, 49, 50, 51, 52, 53, 54, 55, 56, 57, 45]⟩ (by decide))), (2, C (refofs_pure (ofBytes [48, 49, 50, 51, 52, 53, 54, 55, 56, 57, 45]) false))]) (fun _ => by kernel_rfl)

def givenS (x : Sh) (c : Bool) : Sh := if c = false then ⟨false, x.e, x.has, x.k, x.lit⟩ else if x.k && decide (x.lit = ⟨#[]⟩) then Sh.zero else ⟨false, false, x.has, x.k, x.lit⟩
theorem given_pure (x : Sh) (c : Bool) : Pure Try.prog 73 #[x.val, .bool c] (givenS x c).val := by
  obtain ⟨u, e, h, k, l⟩ := x
  unfold givenS
  generalize hq : decide (l = ⟨#[]⟩) = q
  rcases c with _ | _ <;> rcases k with _ | _ <;> rcases q with _ | _
  all_goals exact pure_of_run mixed 100 (fun _ => [(14, ES l _ hq)]) (fun _ => by kernel_rfl)
theorem used_pure (x : Sh) (c : Bool) : Pure Try.prog 95 #[x.val, .bool c] (givenS x c).val := by
  obtain ⟨u, e, h, k, l⟩ := x
  unfold givenS
  generalize hq : decide (l = ⟨#[]⟩) = q
  rcases c with _ | _ <;> rcases k with _ | _ <;> rcases q with _ | _
  all_goals exact pure_of_run mixed 100 (fun _ => [(14, ES l _ hq)]) (fun _ => by kernel_rfl)
theorem refgiven_pure (x : Sh) (c : Bool) : Pure Try.prog 74 #[x.val, .bool c] (givenS x c).val :=
  pure_of_run mixed 100 (fun _ => [(7, C (used_pure x c))]) (fun _ => by kernel_rfl)

def elseS (x : Sh) (c : Bool) : Bool := x.u || (c && x.e)
theorem otherwise_pure (x : Sh) (c : Bool) : Pure Try.prog 93 #[x.val, .bool c] (.bool (elseS x c)) := by
  obtain ⟨u, e, h, k, l⟩ := x
  rcases u with _ | _ <;> rcases c with _ | _
  all_goals exact pure_of_run mixed 100 (fun _ => []) (fun _ => by kernel_rfl)
theorem other_pure (x : Sh) (c : Bool) : Pure Try.prog 94 #[x.val, .bool c] (.bool (elseS x c)) := by
  obtain ⟨u, e, h, k, l⟩ := x
  rcases u with _ | _ <;> rcases c with _ | _
  all_goals exact pure_of_run mixed 100 (fun _ => []) (fun _ => by kernel_rfl)

def defaultS (x w : Sh) (c : Bool) : Sh := if elseS x c then (givenS x c).join w else givenS x c
def refDefaultS (x w : Sh) (c : Bool) : Sh := if elseS x c then (givenS x c).refJoin w else givenS x c
theorem default_pure (x w : Sh) (c : Bool) : Pure Try.prog 70 #[x.val, w.val, .bool c] (defaultS x w c).val := by
  have po := otherwise_pure x c
  have pg := given_pure x c
  have pj := join_pure (givenS x c) w
  unfold defaultS
  generalize elseS x c = t at *
  rcases t with _ | _
  all_goals exact pure_of_run mixed 100 (fun _ => [(9, C po), (13, C pg), (16, C pg), (18, C pj)]) (fun _ => by kernel_rfl)
theorem refdefault_pure (x w : Sh) (c : Bool) : Pure Try.prog 71 #[x.val, w.val, .bool c] (refDefaultS x w c).val := by
  have po := other_pure x c
  have pg := used_pure x c
  have pj := refjoin_pure (givenS x c) w
  unfold refDefaultS
  generalize elseS x c = t at *
  rcases t with _ | _
  all_goals exact pure_of_run mixed 100 (fun _ => [(9, C po), (12, C pg), (17, C pg), (14, C pj)]) (fun _ => by kernel_rfl)
theorem assigned_pure (x w : Sh) (c : Bool) : Pure Try.prog 72 #[x.val, w.val, .bool c] (defaultS x w c).val :=
  pure_of_run mixed 100 (fun _ => [(10, C (default_pure x w c))]) (fun _ => by kernel_rfl)

def otherS (x w : Sh) (c : Bool) : Sh :=
  if elseS x c then (if (givenS x c).none then Sh.zero else w).join (litS ⟨#[]⟩) else if (givenS x c).none then Sh.zero else w
def refOtherS (x w : Sh) (c : Bool) : Sh :=
  if elseS x c then (if (givenS x c).there then w else Sh.zero).refJoin (litS ⟨#[]⟩) else if (givenS x c).there then w else Sh.zero
theorem altother_pure (x w : Sh) (c : Bool) : Pure Try.prog 75 #[x.val, w.val, .bool c] (otherS x w c).val := by
  have po := otherwise_pure x c
  have pg := given_pure x c
  have pn := shnone_pure (givenS x c)
  have p0 := lit_pure ⟨#[]⟩ (by decide)
  have pj := join_pure (if (givenS x c).none then Sh.zero else w) (litS ⟨#[]⟩)
  unfold otherS
  generalize elseS x c = t at *
  generalize (givenS x c).none = n at *
  rcases t with _ | _ <;> rcases n with _ | _
  all_goals exact pure_of_run mixed 100 (fun _ => [(10, C pg), (11, C pn), (16, C po), (18, C p0), (19, C pj)]) (fun _ => by kernel_rfl)
theorem refother_pure (x w : Sh) (c : Bool) : Pure Try.prog 76 #[x.val, w.val, .bool c] (refOtherS x w c).val := by
  have po := other_pure x c
  have pg := used_pure x c
  have pn := could_pure (givenS x c)
  have p0 := reflit_pure ⟨#[]⟩ (by decide)
  have pj := refjoin_pure (if (givenS x c).there then w else Sh.zero) (litS ⟨#[]⟩)
  unfold refOtherS
  generalize elseS x c = t at *
  generalize (givenS x c).there = n at *
  rcases t with _ | _ <;> rcases n with _ | _
  all_goals exact pure_of_run mixed 100 (fun _ => [(11, C pg), (12, C pn), (16, C po), (18, C p0), (19, C pj)]) (fun _ => by kernel_rfl)

theorem mayunset_pure (x : Sh) : Pure Try.prog 46 #[x.val] (.bool x.u) :=
  pure_of_run mixed 100 (fun _ => []) (fun _ => by kernel_rfl)

def blanksS : S4 := ofBytes [32, 9, 10]
def byS (f : Sh) : S4 := if f.u then (if f.k then ofBytes f.lit.data.toList else f.has).or blanksS else if f.k then ofBytes f.lit.data.toList else f.has
def splitS (x f : Sh) : Bool := if x.none then false else x.e || !decide (x.has.and (byS f) = S4.zero)
def refSplitS (x f : Sh) : Bool := if x.there then x.e || !decide (x.has.and (byS f) = S4.zero) else false
theorem maysplit_pure (x f : Sh) (hf : f.lit.size ≤ 9223372036854775807) : Pure Try.prog 43 #[x.val, f.val] (.bool (splitS x f)) := by
  have pn := shnone_pure x
  have pb := of_pure ⟨#[32, 9, 10]⟩ (by decide)
  obtain ⟨u2, e2, h2, k2, l2⟩ := f
  have po := of_pure l2 hf
  have e2' : byS ⟨u2, e2, h2, k2, l2⟩ = if u2 then (if k2 then ofBytes l2.data.toList else h2).or blanksS else if k2 then ofBytes l2.data.toList else h2 := rfl
  unfold splitS
  rw [e2']
  generalize ofBytes l2.data.toList = ol at *
  generalize hb : ofBytes (⟨#[32, 9, 10]⟩ : ByteArray).data.toList = ob at *
  have hbl : blanksS = ob := hb
  rw [hbl]
  have pr := or_pure (if k2 then ol else h2) ob
  generalize hbs : (if u2 then (if k2 then ol else h2).or ob else if k2 then ol else h2) = bs
  have pa := and_pure x.has bs
  generalize x.none = n at *
  generalize hq : decide (x.has.and bs = S4.zero) = q at *
  generalize hw : x.has.and bs = w at *
  obtain ⟨u, e, h, k, l⟩ := x
  subst hbs
  rcases n with _ | _ <;> rcases u2 with _ | _ <;> rcases k2 with _ | _ <;> rcases e with _ | _ <;> rcases q with _ | _
  all_goals exact pure_of_run mixed 100 (fun _ => [(7, C pn), (14, C po), (18, C pb), (19, C pr), (26, C pa), (28, NH w S4.zero hq)]) (fun _ => by kernel_rfl)
theorem refmaysplit_pure (x f : Sh) (hf : f.lit.size ≤ 9223372036854775807) : Pure Try.prog 77 #[x.val, f.val] (.bool (refSplitS x f)) := by
  have pn := could_pure x
  have pb := refof_pure ⟨#[32, 9, 10]⟩ (by decide)
  obtain ⟨u2, e2, h2, k2, l2⟩ := f
  have po := refof_pure l2 hf
  have e2' : byS ⟨u2, e2, h2, k2, l2⟩ = if u2 then (if k2 then ofBytes l2.data.toList else h2).or blanksS else if k2 then ofBytes l2.data.toList else h2 := rfl
  unfold refSplitS
  rw [e2']
  generalize ofBytes l2.data.toList = ol at *
  generalize hb : ofBytes (⟨#[32, 9, 10]⟩ : ByteArray).data.toList = ob at *
  have hbl : blanksS = ob := hb
  rw [hbl]
  have pr := refor_pure (if k2 then ol else h2) ob
  generalize hbs : (if u2 then (if k2 then ol else h2).or ob else if k2 then ol else h2) = bs
  have pa := refand_pure x.has bs
  have pz := none_pure (x.has.and bs)
  generalize x.there = n at *
  generalize decide (x.has.and bs = S4.zero) = q at *
  generalize hw : x.has.and bs = w at *
  obtain ⟨u, e, h, k, l⟩ := x
  subst hbs
  rcases n with _ | _ <;> rcases u2 with _ | _ <;> rcases k2 with _ | _ <;> rcases e with _ | _ <;> rcases q with _ | _
  all_goals exact pure_of_run mixed 100 (fun _ => [(7, C pn), (15, C po), (19, C pb), (20, C pr), (27, C pa), (28, C pz)]) (fun _ => by kernel_rfl)

def globsS : S4 := ofBytes [42, 63, 91]
def globS (x : Sh) : Bool := !decide (x.has.and globsS = S4.zero)
theorem mayglob_pure (x : Sh) : Pure Try.prog 45 #[x.val] (.bool (globS x)) := by
  have pb := of_pure ⟨#[42, 63, 91]⟩ (by decide)
  exact pure_of_run mixed 100 (fun _ => [(5, C pb), (6, C (and_pure x.has globsS)), (8, NH (x.has.and globsS) S4.zero rfl)]) (fun _ => by kernel_rfl)
theorem refmayglob_pure (x : Sh) : Pure Try.prog 78 #[x.val] (.bool (globS x)) := by
  have pb := refof_pure ⟨#[42, 63, 91]⟩ (by decide)
  exact pure_of_run mixed 100 (fun _ => [(5, C pb), (6, C (refand_pure x.has globsS)), (7, C (none_pure (x.has.and globsS)))]) (fun _ => by kernel_rfl)
def setU (x : Sh) : Sh := ⟨false, (tameS x).e, (tameS x).has, (tameS x).k, (tameS x).lit⟩
theorem lawset_pure (x : Sh) (hs : x.lit.size ≤ 9223372036854775807) : Pure Try.prog 48 #[x.val] (setU x).val :=
  pure_of_run mixed 100 (fun _ => [(4, C (tame_pure x hs))]) (fun _ => by kernel_rfl)
end Go.Proofs.Ytlbonbkaddeeeaa
