/-
  Shapes of values as plain data, and what the program's functions on them come to.
-/
import Derived.Test.YtlbonbkaddeeeaaSetsB
set_option linter.unusedSimpArgs false
set_option linter.unusedVariables false
namespace Go.Conch
open Go.RowKit

structure Sh where
  u : Bool
  e : Bool
  has : S4
  k : Bool
  lit : ByteArray
  deriving DecidableEq

/-- A shape as the program holds it. -/
abbrev Sh.val (x : Sh) : Value :=
  .agg #[.bool x.u, .bool x.e, .int .u64 x.has.a.toNat, .int .u64 x.has.b.toNat, .int .u64 x.has.c.toNat, .int .u64 x.has.d.toNat, .bool x.k, .string x.lit]

def Sh.zero : Sh := ⟨false, false, S4.zero, false, ⟨#[]⟩⟩
def allS : S4 := rangeS 1 255
def Sh.there (x : Sh) : Bool := x.k || (x.e || !decide (x.has = S4.zero))
def Sh.none (x : Sh) : Bool := !x.u && !x.there
def Sh.loose (x : Sh) : Sh := { x with k := false, lit := ⟨#[]⟩ }
def Sh.unset : Sh := { Sh.zero with u := true }
def ofS (a : S4) (e : Bool) : Sh := ⟨false, e, a.and allS, false, ⟨#[]⟩⟩
def anyS : Sh := { ofS allS true with u := true }
def subS (s t : S4) : Bool := decide (s.less t = S4.zero)
def Sh.may (x : Sh) (is : Bool) (v : ByteArray) : Bool :=
  if is = false then x.u else if x.k then decide (x.lit = v) else if v = ⟨#[]⟩ then x.e else subS (ofBytes v.data.toList) x.has
def Sh.within (a : Sh) (s : ByteArray) : Bool := !a.there || (decide (s = ⟨#[]⟩) && (a.e && decide (a.has = S4.zero)))
def Sh.leq (a b : Sh) : Bool :=
  if a.u && !b.u then false
  else if a.k && b.k then decide (a.lit = b.lit)
  else if a.k then b.may true a.lit
  else if b.k then a.within b.lit
  else (!a.e || b.e) && subS a.has b.has
def Sh.refLeq (a b : Sh) : Bool :=
  if a.u && !b.u then false
  else if !a.there then true
  else if b.k then (a.k && decide (a.lit = b.lit)) || (!a.k && (a.e && (decide (a.has = S4.zero) && decide (b.lit = ⟨#[]⟩))))
  else subS a.has b.has && (!a.e || b.e)
def Sh.join (a b : Sh) : Sh :=
  { (if !a.there then b else if b.there && !(a.k && (b.k && decide (a.lit = b.lit))) then ⟨false, a.e || b.e, a.has.or b.has, false, ⟨#[]⟩⟩ else a) with u := a.u || b.u }
def Sh.refJoin (a b : Sh) : Sh :=
  if a.none then b else if b.none then a
  else { (if !a.there then b else if !b.there then a else if a.k && (b.k && decide (a.lit = b.lit)) then a else ⟨false, a.e || b.e, a.has.or b.has, false, ⟨#[]⟩⟩) with u := a.u || b.u }
end Go.Conch
