/-
  The law ShapeOrder walked: the order of shapes is one, and any sequence of joins comes to rest.
-/
import Derived.Test.YtlbonbkaddeeeaaShJoins
import Derived.Test.YtlbonbkaddeeeaaEvC
set_option linter.unusedSimpArgs false
set_option linter.unusedVariables false
namespace Go.Conch
open Go.RowKit Go.Proofs.Ytlbonbkaddeeeaa
/-- Joined to one after the other. -/
def xs (L : Nat → Sh) (x : Sh) : Nat → Sh
  | 0 => x
  | k + 1 => (xs L x k).join (L k)
def stps (L : Nat → Sh) (x : Sh) (s : Nat) : Nat → Nat
  | 0 => s
  | k + 1 => if (xs L x k).join (L k) = xs L x k then stps L x s k else stps L x s k + 1
theorem ok_xs {L : Nat → Sh} (hL : ∀ k, Ok (L k)) {x : Sh} (hx : Ok x) : ∀ k, Ok (xs L x k)
  | 0 => hx
  | k + 1 => ok_join (ok_xs hL hx k) (hL k)
theorem stps_le (L : Nat → Sh) (x : Sh) (s : Nat) : ∀ k, stps L x s k ≤ s + k
  | 0 => Nat.le_refl _
  | k + 1 => by
    have := stps_le L x s k
    unfold stps
    split <;> omega
theorem xs_abs {L : Nat → Sh} (hL : ∀ k, Ok (L k)) {x : Sh} (hx : Ok x) (j : Nat) : ∀ k, j < k → Abs (xs L x k) (L j)
  | 0, h => absurd h (by omega)
  | k + 1, h => by
    by_cases e : j = k
    · subst e
      exact abs_r (ok_xs hL hx j) (hL j)
    · exact abs_keep (ok_xs hL hx k) (hL j) (hL k) (xs_abs hL hx j k (by omega))
/-- What absorbs each is at rest. -/
theorem xs_rest {L : Nat → Sh} (hL : ∀ k, Ok (L k)) {x : Sh} (hx : Ok x) (n : Nat) (h : ∀ j, j < n → Abs x (L j)) : ∀ k, k ≤ n → xs L x k = x
  | 0, _ => rfl
  | k + 1, hk => by
    unfold xs
    rw [xs_rest hL hx n h k (by omega)]
    exact abs_join hx (hL k) (h k (by omega))
theorem stps_rest {L : Nat → Sh} (hL : ∀ k, Ok (L k)) {x : Sh} (hx : Ok x) (n : Nat) (h : ∀ j, j < n → Abs x (L j)) (s : Nat) : ∀ k, k ≤ n → stps L x s k = s
  | 0, _ => rfl
  | k + 1, hk => by
    unfold stps
    rw [xs_rest hL hx n h k (by omega), if_pos (abs_join hx (hL k) (h k (by omega)))]
    exact stps_rest hL hx n h s k (by omega)
end Go.Conch
namespace Go.Proofs.Ytlbonbkaddeeeaa
open Go.RowKit Go.Eng Go.Conch Go.Ev

section
variable {w : World} (a0 b0 c0 a b c : Sh) (v : ByteArray) (i : Bool) (A : Option Addr) (len cap : Nat) (pa : Pure Try.prog 35 #[a0.val] a.val) (pb : Pure Try.prog 35 #[b0.val] b.val) (pc : Pure Try.prog 35 #[c0.val] c.val)
  (h1 : decide ((100 : Int) < (v.size : Int)) = false)
/-- What is compared ahead of the joins. -/
structure Cmp (p q r s t u : Bool) : Prop where
  e30 : a.leq b = p
  e35 : a.may i v = q
  e41 : b.may i v = (r || (p && q))
  e51 : b.leq c = s
  e56 : a.leq c = (t || (p && s))
  e63 : a.leq a = true
  e79 : (a.join b).leq c = (u || ((t || (p && s)) && s))
  la : a.lit.size ≤ 9223372036854775807
  lb : b.lit.size ≤ 9223372036854775807
  lj : (a.join b).lit.size ≤ 9223372036854775807
  lv : v.size ≤ 9223372036854775807
theorem order8 : Region.lexB .any (drawOf Try.prog 8 1) = true := by kernel_rfl
noncomputable def preR (p q r s t u : Bool) (F : Cmp a b c v i p q r s t u) : Items Try.prog w :=
  [(20, GT .i64 3 v.size 100 h1), (23, C pa), (25, C pb), (27, C pc),
   (30, CB (leq_pure a b F.la) F.e30), (35, CB (may_pure a i v F.lv) F.e35), (41, CB (may_pure b i v F.lv) F.e41),
   (47, CB (leq_pure a b F.la) F.e30), (51, CB (leq_pure b c F.lb) F.e51), (56, CB (leq_pure a c F.la) F.e56), (63, CB (leq_pure a a F.la) F.e63),
   (1000001, .order _ order8),
   (68, CB (leq_pure a c F.la) F.e56), (72, CB (leq_pure b c F.lb) F.e51), (77, C (join_pure a b)), (79, CB (leq_pure (a.join b) c F.lj) F.e79)]
noncomputable def atR (p q r s t u : Bool) (F : Cmp a b c v i p q r s t u) : Option (Code × Tm) :=
  stopAt Try.prog 8 [a0.val, b0.val, c0.val, .string v, .bool i, .slice A len cap] (preR (w := w) a0 b0 c0 a b c v i pa pb pc h1 p q r s t u F)

def loopsOf : Code → List Code
  | .seq a b => loopsOf a ++ loopsOf b
  | .cond _ a b => loopsOf a ++ loopsOf b
  | .block _ b => loopsOf b
  | .loop b => b :: loopsOf b
  | _ => []
noncomputable def loop8 (k : Nat) : Code := (loopsOf (bodyOf Try.prog 8)).getD k .skip
def blkS (x : Sh) : Blk := ⟨[.bool x.u, .bool x.e, .int .u64 x.has.a.toNat, .int .u64 x.has.b.toNat, .int .u64 x.has.c.toNat, .int .u64 x.has.d.toNat, .bool x.k, .string x.lit], 39, true⟩
def tmps8 (m : SV) (s q : Nat) : List SV :=
  [.v a0.val, .v b0.val, .v c0.val, .v (.string v), .v (.bool i), .v (.slice A len cap), .p 0 0, .p 1 0, .p 2 0, .v undef, .v undef, .v undef, .v (.bool false), .p 3 0, .v (.int .i64 (s : Int)), .v (.int .i64 (q : Int)), m] ++ List.replicate 98 .no
def st8 (m : SV) (x : Sh) (s q : Nat) : Tm := ⟨tmps8 a0 b0 c0 v i A len cap m s q, [blkS a, blkS b, blkS c, blkS x]⟩
def slots8o : List Nat := (List.range 99).map (· + 16)
def slots8i : List Nat := (List.range 98).map (· + 17)


/-- A round of the inner loop. -/
noncomputable def its8 (X Y M L : Sh) (s k : Nat) (ptr : Value) (bb : Bool) (hk : decide ((k : Int) < (len : Int)) = true) (h30 : decide ((k : Int) < 30) = true)
    (fx : ∀ W, Below w.heap.size w W → (Instr.indexAt 47 (.slice A len cap) (.int .i64 (k : Int))).run Try.prog W = .ok ptr W)
    (fl : ∀ W, Below w.heap.size w W → (Instr.loadAt 39 ptr).run Try.prog W = .ok M.val W)
    (pt : Pure Try.prog 35 #[M.val] L.val) (pj : Pure Try.prog 39 #[X.val, L.val] Y.val) (hb : decide (Y = X) = bb)
    (hs : IntKind.i64.wrap ((s : Int) + 1) = ((s + 1 : Nat) : Int)) (hk1 : IntKind.i64.wrap ((k : Int) + 1) = ((k + 1 : Nat) : Int)) : Items Try.prog w :=
  [(90, LT .i64 3 k len hk), (93, LT .i64 3 k 30 h30), (100, .sem _ ptr fx), (101, .sem _ M.val fl), (102, C pt), (103, C pj), (106, NX Y X hb), (108, PI .i64 3 s 1 ((s + 1 : Nat) : Int) hs), (96, PI .i64 3 k 1 ((k + 1 : Nat) : Int) hk1)]
theorem goes8 (X Y M L : Sh) (s q k : Nat) (ptr : Value) (bb : Bool) (hk : decide ((k : Int) < (len : Int)) = true) (h30 : decide ((k : Int) < 30) = true)
    (fx : ∀ W, Below w.heap.size w W → (Instr.indexAt 47 (.slice A len cap) (.int .i64 (k : Int))).run Try.prog W = .ok ptr W)
    (fl : ∀ W, Below w.heap.size w W → (Instr.loadAt 39 ptr).run Try.prog W = .ok M.val W)
    (pt : Pure Try.prog 35 #[M.val] L.val) (pj : Pure Try.prog 39 #[X.val, L.val] Y.val) (hb : decide (Y = X) = bb)
    (hs : IntKind.i64.wrap ((s : Int) + 1) = ((s + 1 : Nat) : Int)) (hk1 : IntKind.i64.wrap ((k : Int) + 1) = ((k + 1 : Nat) : Int)) :
    askC (runC Try.prog 100 (loop8 1) ⟨st8 a0 b0 c0 a b c v i A len cap (.v (.int .i64 (k : Int))) X s q, its8 (w := w) A len cap X Y M L s k ptr bb hk h30 fx fl pt pj hb hs hk1, []⟩) slots8i 4 =
      told (runC Try.prog 100 (loop8 1) ⟨st8 a0 b0 c0 a b c v i A len cap (.v (.int .i64 (k : Int))) X s q, its8 (w := w) A len cap X Y M L s k ptr bb hk h30 fx fl pt pj hb hs hk1, []⟩) .normal
        (st8 a0 b0 c0 a b c v i A len cap (.v (.int .i64 ((k + 1 : Nat) : Int))) Y (if bb then s else s + 1) q) := by
  cases bb <;> as_aux_lemma => kernel_rfl
theorem last8 (X : Sh) (s q k : Nat) (b1 b2 : Bool) (hk : decide ((k : Int) < (len : Int)) = b1) (h30 : decide ((k : Int) < 30) = b2) (h : b1 = false ∨ b2 = false) :
    askC (runC Try.prog 100 (loop8 1) ⟨st8 a0 b0 c0 a b c v i A len cap (.v (.int .i64 (k : Int))) X s q, ([(90, LT .i64 3 k len hk), (93, LT .i64 3 k 30 h30)] : Items Try.prog w), []⟩) slots8i 4 =
      told (runC Try.prog 100 (loop8 1) ⟨st8 a0 b0 c0 a b c v i A len cap (.v (.int .i64 (k : Int))) X s q, ([(90, LT .i64 3 k len hk), (93, LT .i64 3 k 30 h30)] : Items Try.prog w), []⟩) (.exit 2)
        (st8 a0 b0 c0 a b c v i A len cap (.v (.int .i64 (k : Int))) X s q) := by
  rcases h with h | h <;> subst h
  · cases b2 <;> as_aux_lemma => kernel_rfl
  · cases b1 <;> as_aux_lemma => kernel_rfl

/-- What the list that came in holds. -/
structure Held (n : Nat) (ptr : Nat → Value) (M L : Nat → Sh) : Prop where
  n30 : n ≤ 30
  nl : n ≤ len
  all : n = len ∨ n = 30
  fx : ∀ k, k < n → ∀ W, Below w.heap.size w W → (Instr.indexAt 47 (.slice A len cap) (.int .i64 (k : Int))).run Try.prog W = .ok (ptr k) W
  fl : ∀ k, k < n → ∀ W, Below w.heap.size w W → (Instr.loadAt 39 (ptr k)).run Try.prog W = .ok (M k).val W
  pt : ∀ k, Pure Try.prog 35 #[(M k).val] (L k).val
noncomputable def stI (L : Nat → Sh) (x : Sh) (s q k : Nat) : Tm := st8 a0 b0 c0 a b c v i A len cap (.v (.int .i64 (k : Int))) (xs L x k) (stps L x s k) q
noncomputable def inn8 (n : Nat) (ptr : Nat → Value) (M L : Nat → Sh) (H : Held (w := w) A len cap n ptr M L) (x : Sh) (s q : Nat) (hs : s ≤ 1000) (t0 : Tm)
    (h0 : forget slots8i t0 = st8 a0 b0 c0 a b c v i A len cap (.v (.int .i64 (0 : Nat))) x s q) : RoundsC Try.prog w 100 (loop8 1) t0 where
  N := n
  S := stI a0 b0 c0 a b c v i A len cap L x s q
  its := fun k hk => its8 (w := w) A len cap (xs L x k) ((xs L x k).join (L k)) (M k) (L k) (stps L x s k) k (ptr k) (decide ((xs L x k).join (L k) = xs L x k)) (decide_eq_true (by have := H.nl; omega)) (decide_eq_true (by have := H.n30; omega)) (H.fx k hk) (H.fl k hk) (H.pt k) (join_pure _ _) rfl
    (wrap_up _ (by have := stps_le L x s k; have := H.n30; omega)) (wrap_up _ (by have := H.n30; omega))
  itl := [(90, LT .i64 3 n len rfl), (93, LT .i64 3 n 30 rfl)]
  h0 := slots8i
  hs := slots8i
  he := slots8i
  L := 4
  x := .exit 2
  F := stI a0 b0 c0 a b c v i A len cap L x s q n
  start := h0
  len := fun _ => rfl
  round := fun k hk => by
    have h := goes8 (w := w) a0 b0 c0 a b c v i A len cap (xs L x k) ((xs L x k).join (L k)) (M k) (L k) (stps L x s k) q k (ptr k) (decide ((xs L x k).join (L k) = xs L x k)) (decide_eq_true (by have := H.nl; omega)) (decide_eq_true (by have := H.n30; omega)) (H.fx k hk) (H.fl k hk) (H.pt k) (join_pure _ _) rfl
      (wrap_up _ (by have := stps_le L x s k; have := H.n30; omega)) (wrap_up _ (by have := H.n30; omega))
    have e : (if decide ((xs L x k).join (L k) = xs L x k) = true then stps L x s k else stps L x s k + 1) = stps L x s (k + 1) := by
      show _ = if (xs L x k).join (L k) = xs L x k then stps L x s k else stps L x s k + 1
      by_cases h2 : (xs L x k).join (L k) = xs L x k <;> simp [h2]
    rw [e] at h
    exact h
  leaves := rfl
  last := last8 a0 b0 c0 a b c v i A len cap (xs L x n) (stps L x s n) q n _ _ rfl rfl (by
    rcases H.all with h | h
    · exact .inl (decide_eq_false (by omega))
    · exact .inr (decide_eq_false (by omega)))

def t8 (x : Sh) (s q : Nat) : Tm := setsTm (st8 a0 b0 c0 a b c v i A len cap (.v (.int .i64 (0 : Nat))) x s q) [(83, .v (.int .i64 (q : Int))), (84, .v (.bool true))]
theorem t8_start (x : Sh) (s q : Nat) : forget slots8i (t8 a0 b0 c0 a b c v i A len cap x s q) = st8 a0 b0 c0 a b c v i A len cap (.v (.int .i64 (0 : Nat))) x s q := by kernel_rfl
noncomputable def itO (n : Nat) (ptr : Nat → Value) (M L : Nat → Sh) (H : Held (w := w) A len cap n ptr M L) (x : Sh) (s q : Nat) (hs : s ≤ 1000) : Items Try.prog w :=
  [(1000000, (inn8 (w := w) a0 b0 c0 a b c v i A len cap n ptr M L H x s q hs _ (t8_start a0 b0 c0 a b c v i A len cap x s q)).item mixed)]
def Out8 (n : Nat) (ptr : Nat → Value) (M L : Nat → Sh) (H : Held (w := w) A len cap n ptr M L) (x : Sh) (s q : Nat) (hs : s ≤ 1000) : Prop :=
  askC (runC Try.prog 100 (loop8 0) ⟨st8 a0 b0 c0 a b c v i A len cap .no x s q, itO (w := w) a0 b0 c0 a b c v i A len cap n ptr M L H x s q hs, []⟩) slots8o 4 =
    told (runC Try.prog 100 (loop8 0) ⟨st8 a0 b0 c0 a b c v i A len cap .no x s q, itO (w := w) a0 b0 c0 a b c v i A len cap n ptr M L H x s q hs, []⟩) .normal
      (st8 a0 b0 c0 a b c v i A len cap .no (xs L x n) (stps L x s n) (q + 1))
theorem out8_0 (n : Nat) (ptr : Nat → Value) (M L : Nat → Sh) (H : Held (w := w) A len cap n ptr M L) (x : Sh) (s : Nat) (hs : s ≤ 1000) : Out8 (w := w) a0 b0 c0 a b c v i A len cap n ptr M L H x s 0 hs := by unfold Out8; kernel_rfl
theorem out8_1 (n : Nat) (ptr : Nat → Value) (M L : Nat → Sh) (H : Held (w := w) A len cap n ptr M L) (x : Sh) (s : Nat) (hs : s ≤ 1000) : Out8 (w := w) a0 b0 c0 a b c v i A len cap n ptr M L H x s 1 hs := by unfold Out8; kernel_rfl
theorem out8_2 (n : Nat) (ptr : Nat → Value) (M L : Nat → Sh) (H : Held (w := w) A len cap n ptr M L) (x : Sh) (s : Nat) (hs : s ≤ 1000) : Out8 (w := w) a0 b0 c0 a b c v i A len cap n ptr M L H x s 2 hs := by unfold Out8; kernel_rfl
theorem out8_all (n : Nat) (ptr : Nat → Value) (M L : Nat → Sh) (H : Held (w := w) A len cap n ptr M L) (x : Sh) (s : Nat) (hs : s ≤ 1000) : ∀ q, q < 3 → Out8 (w := w) a0 b0 c0 a b c v i A len cap n ptr M L H x s q hs
  | 0, _ => out8_0 a0 b0 c0 a b c v i A len cap n ptr M L H x s hs
  | 1, _ => out8_1 a0 b0 c0 a b c v i A len cap n ptr M L H x s hs
  | 2, _ => out8_2 a0 b0 c0 a b c v i A len cap n ptr M L H x s hs
  | q + 3, h => absurd h (by omega)
def xq (L : Nat → Sh) (n : Nat) (x : Sh) : Nat → Sh
  | 0 => x
  | q + 1 => xs L (xq L n x q) n
def sq (L : Nat → Sh) (n : Nat) (x : Sh) : Nat → Nat
  | 0 => 0
  | q + 1 => stps L (xq L n x q) (sq L n x q) n
theorem sq_le (L : Nat → Sh) (n : Nat) (x : Sh) : ∀ q, sq L n x q ≤ q * n
  | 0 => Nat.zero_le _
  | q + 1 => by
    have := sq_le L n x q
    have h2 := stps_le L (xq L n x q) (sq L n x q) n
    show stps L (xq L n x q) (sq L n x q) n ≤ (q + 1) * n
    rw [Nat.add_mul]
    omega
theorem sq_lt (L : Nat → Sh) (n : Nat) (hn : n ≤ 30) (x : Sh) (q : Nat) (hq : q < 3) : sq L n x q ≤ 1000 := by
  have h1 := sq_le L n x q
  have h2 : q * n ≤ 2 * 30 := Nat.mul_le_mul (by omega) hn
  omega
theorem end8 (x : Sh) (s : Nat) : askC (runC Try.prog 100 (loop8 0) ⟨st8 a0 b0 c0 a b c v i A len cap .no x s 3, ([] : Items Try.prog w), []⟩) slots8o 4 =
    told (runC Try.prog 100 (loop8 0) ⟨st8 a0 b0 c0 a b c v i A len cap .no x s 3, ([] : Items Try.prog w), []⟩) (.exit 0) (st8 a0 b0 c0 a b c v i A len cap .no x s 3) := by kernel_rfl
noncomputable def outer8 (n : Nat) (ptr : Nat → Value) (M L : Nat → Sh) (H : Held (w := w) A len cap n ptr M L) (t0 : Tm)
    (h0 : forget slots8o t0 = st8 a0 b0 c0 a b c v i A len cap .no a 0 0) : RoundsC Try.prog w 100 (loop8 0) t0 where
  N := 3
  S := fun q => st8 a0 b0 c0 a b c v i A len cap .no (xq L n a q) (sq L n a q) q
  its := fun q hq => itO (w := w) a0 b0 c0 a b c v i A len cap n ptr M L H (xq L n a q) (sq L n a q) q (sq_lt L n H.n30 a q hq)
  itl := []
  h0 := slots8o
  hs := slots8o
  he := slots8o
  L := 4
  x := .exit 0
  F := st8 a0 b0 c0 a b c v i A len cap .no (xq L n a 3) (sq L n a 3) 3
  start := h0
  len := fun _ => rfl
  round := fun q hq => out8_all a0 b0 c0 a b c v i A len cap n ptr M L H (xq L n a q) (sq L n a q) (sq_lt L n H.n30 a q hq) q hq
  leaves := rfl
  last := end8 a0 b0 c0 a b c v i A len cap (xq L n a 3) (sq L n a 3)

set_option maxHeartbeats 8000000 in
theorem start8 (p q r s t u : Bool) (F : Cmp a b c v i p q r s t u) :
    forget slots8o (tmOf (atR (w := w) a0 b0 c0 a b c v i A len cap pa pb pc h1 p q r s t u F)) = st8 a0 b0 c0 a b c v i A len cap .no a 0 0 := by
  cases p <;> cases q <;> cases r <;> cases s <;> cases t <;> cases u <;> as_aux_lemma => kernel_rfl
theorem sq_end (n : Nat) (hn : n ≤ 30) (L : Nat → Sh) (hL : ∀ k, Ok (L k)) (oa : Ok a) : sq L n a 3 ≤ 30 := by
  have o1 : Ok (xs L a n) := ok_xs hL oa n
  have h1 : ∀ j, j < n → Abs (xs L a n) (L j) := fun j hj => xs_abs hL oa j n hj
  have e2 : xs L (xs L a n) n = xs L a n := xs_rest hL o1 n h1 n (Nat.le_refl _)
  have e3 : sq L n a 3 = stps L a 0 n := by
    show stps L (xs L (xs L a n) n) (stps L (xs L a n) (stps L a 0 n) n) n = _
    rw [e2, stps_rest hL o1 n h1 _ n (Nat.le_refl _), stps_rest hL o1 n h1 _ n (Nat.le_refl _)]
  rw [e3]
  have := stps_le L a 0 n
  omega
set_option maxHeartbeats 8000000 in
theorem run8 (pa : Pure Try.prog 35 #[a0.val] a.val) (pb : Pure Try.prog 35 #[b0.val] b.val) (pc : Pure Try.prog 35 #[c0.val] c.val) (h1 : decide ((100 : Int) < (v.size : Int)) = false) (p q r s t u : Bool) (F : Cmp a b c v i p q r s t u) (n : Nat) (ptr : Nat → Value) (M L : Nat → Sh) (H : Held (w := w) A len cap n ptr M L) (h30 : decide (((sq L n a 3 : Nat) : Int) ≤ 30) = true) :
    Calls Try.prog 8 #[a0.val, b0.val, c0.val, .string v, .bool i, .slice A len cap] w fun e w' => e = .returned (.bool true) ∧ Below w.heap.size w w' := by
  have st := start8 (w := w) a0 b0 c0 a b c v i A len cap pa pb pc h1 p q r s t u F
  refine calls_of_run (args := [a0.val, b0.val, c0.val, .string v, .bool i, .slice A len cap]) mixed 100 w
    (preR (w := w) a0 b0 c0 a b c v i pa pb pc h1 p q r s t u F ++ [(1000000, (outer8 (w := w) a0 b0 c0 a b c v i A len cap n ptr M L H _ st).item mixed), (111, LE .i64 3 (sq L n a 3 : Nat) 30 h30), (113, C awake4_pure)]) ?_
  cases p <;> cases q <;> cases r <;> cases s <;> cases t <;> cases u <;> as_aux_lemma => kernel_rfl
end

theorem cmp_of {a b c : Sh} (oa : Ok a) (ob : Ok b) (oc : Ok c) (v : ByteArray) (hv : v.size ≤ 9223372036854775807) (i : Bool) : Cmp a b c v i (a.leq b) (a.may i v) (b.may i v) (b.leq c) (a.leq c) ((a.join b).leq c) := by
  have z1 := ok_size oa
  have z2 := ok_size ob
  have z3 := ok_size (ok_join oa ob)
  have e56 : a.leq c = (a.leq c || (a.leq b && b.leq c)) := by
    cases h1 : a.leq b with
    | false => simp
    | true =>
      cases h2 : b.leq c with
      | false => simp
      | true =>
        have : a.leq c = true := (leq_sem oa oc).2 fun is t h => (leq_sem ob oc).1 h2 is t ((leq_sem oa ob).1 h1 is t h)
        rw [this]; rfl
  refine ⟨rfl, rfl, ?_, rfl, e56, (leq_sem oa oa).2 fun _ _ h => h, ?_, by omega, by omega, by omega, hv⟩
  · cases h1 : a.leq b with
    | false => simp
    | true =>
      cases h2 : a.may i v with
      | false => simp
      | true => rw [(leq_sem oa ob).1 h1 i v h2]; rfl
  · rw [← e56]
    cases h1 : a.leq c with
    | false => simp
    | true =>
      cases h2 : b.leq c with
      | false => simp
      | true => rw [(leq_iff (ok_join oa ob) oc).2 (join_least oa ob oc ((leq_iff oa oc).1 h1) ((leq_iff ob oc).1 h2))]; rfl

set_option maxRecDepth 100000 in
theorem shapeorder_calls (a0 : Sh) (ha : a0.lit.size ≤ 9223372036854775807) (b0 : Sh) (hb : b0.lit.size ≤ 9223372036854775807) (c0 : Sh) (hc : c0.lit.size ≤ 9223372036854775807) (v : ByteArray) (hv : v.size ≤ 9223372036854775807) (i : Bool)
    (A : Option Addr) (len cap : Nat) (w : World) (ptr : Nat → Value) (M : Nat → Sh) (hM : ∀ k, (M k).lit.size ≤ 9223372036854775807)
    (fx : ∀ k, k < len → ∀ W, Below w.heap.size w W → (Instr.indexAt 47 (.slice A len cap) (.int .i64 (k : Int))).run Try.prog W = .ok (ptr k) W)
    (fl : ∀ k, k < len → ∀ W, Below w.heap.size w W → (Instr.loadAt 39 (ptr k)).run Try.prog W = .ok (M k).val W) :
    Calls Try.prog 8 #[a0.val, b0.val, c0.val, .string v, .bool i, .slice A len cap] w fun e w' => e = .returned (.bool true) ∧ Below w.heap.size w w' := by
  cases h1 : decide ((100 : Int) < (v.size : Int)) with
  | true => exact calls_of_run (args := [a0.val, b0.val, c0.val, .string v, .bool i, .slice A len cap]) mixed 100 w [(20, GT .i64 3 v.size 100 h1), (21, C awake4_pure)] (by kernel_rfl)
  | false =>
    have H : Held (w := w) A len cap (min len 30) ptr M (fun k => tameS (M k)) :=
      ⟨by omega, by omega, by omega, fun k hk => fx k (by omega), fun k hk => fl k (by omega), fun k => tame_pure (M k) (hM k)⟩
    exact run8 a0 b0 c0 (tameS a0) (tameS b0) (tameS c0) v i A len cap (tame_pure a0 ha) (tame_pure b0 hb) (tame_pure c0 hc) h1 _ _ _ _ _ _ (cmp_of (ok_tame a0) (ok_tame b0) (ok_tame c0) v hv i) (min len 30) ptr M _ H
      (decide_eq_true (by have := sq_end (tameS a0) (min len 30) (by omega) (fun k => tameS (M k)) (fun k => ok_tame _) (ok_tame a0); omega))
end Go.Proofs.Ytlbonbkaddeeeaa
