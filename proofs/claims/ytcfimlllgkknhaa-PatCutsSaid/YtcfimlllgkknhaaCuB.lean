/-
  PatCuts, walked: what is cut, the two loops, and what is asked of them.
-/
import Derived.Test.YtcfimlllgkknhaaCuA
set_option linter.unusedSimpArgs false
set_option linter.unusedVariables false
namespace Go.Proofs.Ytcfimlllgkknhaa
open Go.RowKit Go.Eng Go.Ev Go.Proofs.YtcfimlllgkknhaaW.PrintWords Go.Proofs.Ytcfimlllgkknhaa.PPatCuts

theorem match_at {W : World} {s : ByteArray} {A : Option Addr} {c : Nat} {l : List Bool} {t : ByteArray} {r : Bool} (hC : Kd.C Kd.bool W A l.length l) (hc : l.length ≤ c) (h : ∃ k, pat_Match.f k s l t = some r) :
    PureAt Try.prog W 10 #[.agg #[.string s, .slice A l.length c], .string t] (.bool r) := fun x => by
  obtain ⟨k, hk⟩ := h
  exact pat_Match.calls k s A c l t r _ (Kd.C_below hC (later_below W x)) hc hk
theorem cut_at {W : World} {s : ByteArray} {A : Option Addr} {c : Nat} {l : List Bool} {t : ByteArray} {front long : Bool} {r : ByteArray} (hC : Kd.C Kd.bool W A l.length l) (hc : l.length ≤ c) (h : ∃ k, pat_Cut.f k s l t front long = some r) :
    PureAt Try.prog W 14 #[.agg #[.string s, .slice A l.length c], .string t, .bool front, .bool long] (.string r) := fun x => by
  obtain ⟨k, hk⟩ := h
  exact pat_Cut.calls k s A c l t front long r _ (Kd.C_below hC (later_below W x)) hc hk
theorem awake_at {W : World} (h : ∃ k, conchlaw6_awake.f k = some true) : PureAt Try.prog W 9 #[] (.bool true) := fun x => by
  obtain ⟨k, hk⟩ := h
  exact conchlaw6_awake.calls k true _ hk

theorem slice0_sem (s : ByteArray) (b : Nat) (h2 : b ≤ s.size) (W : World) : (Instr.sliceAt 9 (.string s) none (some (.int .i64 (b : Int))) none).run Try.prog W = .ok (.string (s.extract 0 b)) W := by
  rw [run_sliceAt_string W 9 _ _ _ _ Try.underlying9]
  simp [Instr.slice, run_underlying Try.underlying9, Instr.sliceBounds, run_sliceBound, h2]
def SL0 {w : World} (s : ByteArray) (b : Nat) (h2 : b ≤ s.size) : TI w := .sem (Instr.sliceAt 9 (.string s) none (some (.int .i64 (b : Int))) none) (.string (s.extract 0 b)) (fun W _ => slice0_sem s b h2 W)
theorem sliceh_sem (s : ByteArray) (a : Nat) (h2 : a ≤ s.size) (W : World) : (Instr.sliceAt 9 (.string s) (some (.int .i64 (a : Int))) none none).run Try.prog W = .ok (.string (s.extract a s.size)) W := by
  rw [run_sliceAt_string W 9 _ _ _ _ Try.underlying9]
  have e1 : ¬ ((a : Int) < 0) := by omega
  simp [Instr.slice, run_underlying Try.underlying9, Instr.sliceBounds, run_sliceBound, h2]
def SLh {w : World} (s : ByteArray) (a : Nat) (h2 : a ≤ s.size) : TI w := .sem (Instr.sliceAt 9 (.string s) (some (.int .i64 (a : Int))) none none) (.string (s.extract a s.size)) (fun W _ => sliceh_sem s a h2 W)

/-- Whether one of the first k places has it. -/
def anyK (M : Nat → Bool) : Nat → Bool
  | 0 => false
  | k + 1 => anyK M k || M k
/-- What the law asks, and what comes of it. -/
structure Asked (sp : ByteArray) (L : List Bool) (st A B G D : ByteArray) (M1 M2 : Nat → Bool) : Prop where
  len : st.size ≤ 10
  m1 : ∀ i, i ≤ st.size → ∃ k, pat_Match.f k sp L (st.extract 0 i) = some (M1 i)
  m2 : ∀ i, i ≤ st.size → ∃ k, pat_Match.f k sp L (st.extract i st.size) = some (M2 i)
  a : ∃ k, pat_Cut.f k sp L st true false = some A
  b : ∃ k, pat_Cut.f k sp L st true true = some B
  c : ∃ k, pat_Cut.f k sp L st false false = some G
  d : ∃ k, pat_Cut.f k sp L st false true = some D
  aw : ∃ k, conchlaw6_awake.f k = some true
  la : A.size ≤ st.size
  lb : B.size ≤ A.size
  lc : G.size ≤ st.size
  ld : D.size ≤ G.size
  eA : st.extract (st.size - A.size) st.size = A
  eB : st.extract (st.size - B.size) st.size = B
  eC : st.extract 0 G.size = G
  eD : st.extract 0 D.size = D
  hit1 : ∀ i, i ≤ st.size → M1 i = true → st.size - A.size ≤ i ∧ i ≤ st.size - B.size
  any1 : M1 (st.size - A.size) = anyK M1 (st.size + 1)
  all1 : anyK M1 (st.size + 1) = true → M1 (st.size - B.size) = true
  non1 : anyK M1 (st.size + 1) = false → A = st ∧ B = st
  hit2 : ∀ i, i ≤ st.size → M2 i = true → D.size ≤ i ∧ i ≤ G.size
  any2 : M2 G.size = anyK M2 (st.size + 1)
  all2 : anyK M2 (st.size + 1) = true → M2 D.size = true
  non2 : anyK M2 (st.size + 1) = false → G = st ∧ D = st

def no (n : Nat) : List SV := List.replicate n .no
def tmQ (sp st : ByteArray) (Ao : Option Addr) (n co : Nat) (a b c d z i j : SV) : Tm :=
  ⟨no 5 ++ [.p 0 0, .v (.string st), a, b, c, d, z, i, .no, j] ++ no 227, [⟨[.string sp, .slice Ao n co], 25, false⟩]⟩
noncomputable def body6 (n : Nat) : Code := Ev.spine n (bodyOf Try.prog 6)
noncomputable def loopOf6 (n : Nat) : Code := match body6 n with
  | .seq (.seq _ (.block _ (.loop b))) _ => b
  | _ => .skip
def hs4 : List Nat := [4] ++ (List.range 80).map (· + 24)
def hs8 : List Nat := [12, 13] ++ (List.range 34).map (· + 104)
def hs8r : List Nat := [13] ++ (List.range 34).map (· + 104)
def hs9 : List Nat := (List.range 40).map (· + 138)
def hs11 : List Nat := [14, 15] ++ (List.range 28).map (· + 178)
def hs11r : List Nat := [15] ++ (List.range 28).map (· + 178)

theorem order18 : Region.lexB .any (drawOf Try.prog 6 3) = true := by kernel_rfl
theorem order28 : Region.lexB .any (drawOf Try.prog 6 5) = true := by kernel_rfl

section
variable {W : World} {sp : ByteArray} {L : List Bool} {st A B G D : ByteArray} {M1 M2 : Nat → Bool} {Ao : Option Addr} {co : Nat}
  (hC : Kd.C Kd.bool W Ao L.length L) (hc : L.length ≤ co) (H : Asked sp L st A B G D M1 M2)
def sA (A : ByteArray) : SV := .v (.string A)
def zB (b : Bool) : SV := .v (.bool b)
def iN (n : Nat) : SV := .v (.int .i64 (n : Int))

def its4 (hC : Kd.C Kd.bool W Ao L.length L) (hc : L.length ≤ co) (H : Asked sp L st A B G D M1 M2) : Items Try.prog W :=
  [(32, Go.Proofs.Ytcfimlllgkknhaa.C (cut_at hC hc H.a)), (35, Go.Proofs.Ytcfimlllgkknhaa.C (cut_at hC hc H.b)), (38, Go.Proofs.Ytcfimlllgkknhaa.C (cut_at hC hc H.c)), (41, Go.Proofs.Ytcfimlllgkknhaa.C (cut_at hC hc H.d)),
   (46, GT .i64 3 (A.size : Int) (st.size : Int) (c := false) (decide_eq_false (by have := H.la; omega))), (52, GT .i64 3 (B.size : Int) (A.size : Int) (c := false) (decide_eq_false (by have := H.lb; omega))),
   (59, GT .i64 3 (D.size : Int) (G.size : Int) (c := false) (decide_eq_false (by have := H.ld; omega))), (66, GT .i64 3 (G.size : Int) (st.size : Int) (c := false) (decide_eq_false (by have := H.lc; omega))),
   (73, MI .i64 3 (st.size : Int) (A.size : Int) ((st.size - A.size : Nat) : Int) (by have := H.la; have := H.len; rw [IntKind.wrap_i64]; omega)), (74, SLh st (st.size - A.size) (by omega)), (76, NS (st.extract (st.size - A.size) st.size) A (b := true) (decide_eq_true H.eA)),
   (83, MI .i64 3 (st.size : Int) (B.size : Int) ((st.size - B.size : Nat) : Int) (by have := H.la; have := H.lb; have := H.len; rw [IntKind.wrap_i64]; omega)), (84, SLh st (st.size - B.size) (by omega)), (86, NS (st.extract (st.size - B.size) st.size) B (b := true) (decide_eq_true H.eB)),
   (92, SL0 st G.size H.lc), (94, NS (st.extract 0 G.size) G (b := true) (decide_eq_true H.eC)), (100, SL0 st D.size (by have := H.lc; have := H.ld; omega)), (102, NS (st.extract 0 D.size) D (b := true) (decide_eq_true H.eD))]
set_option maxRecDepth 100000 in
theorem run4 : Go.Ev.ask (withN (runS Try.prog 10 5 (body6 3) ⟨tmQ sp st Ao L.length co .no .no .no .no .no .no .no, its4 hC hc H, []⟩)) hs4 =
    Go.Ev.told (withN (runS Try.prog 10 5 (body6 3) ⟨tmQ sp st Ao L.length co .no .no .no .no .no .no .no, its4 hC hc H, []⟩)) .normal (tmQ sp st Ao L.length co (sA A) (sA B) (sA G) (sA D) (zB false) .no .no) := by kernel_rfl

/-! the first loop -/
def itsT8 (hC : Kd.C Kd.bool W Ao L.length L) (hc : L.length ≤ co) (H : Asked sp L st A B G D M1 M2) (k : Nat) (hk : k ≤ st.size) (hm : M1 k = true) : Items Try.prog W :=
  [(107, LE .i64 3 (k : Int) (st.size : Int) (c := true) (decide_eq_true (by omega))), (113, SL0 st k hk), (114, CB (match_at hC hc (H.m1 k hk)) hm),
   (124, MI .i64 3 (st.size : Int) (k : Int) ((st.size - k : Nat) : Int) (by have := H.len; rw [IntKind.wrap_i64]; omega)), (127, GT .i64 3 ((st.size - k : Nat) : Int) (A.size : Int) (c := false) (decide_eq_false (by have := (H.hit1 k hk hm).1; omega))),
   (132, MI .i64 3 (st.size : Int) (k : Int) ((st.size - k : Nat) : Int) (by have := H.len; rw [IntKind.wrap_i64]; omega)), (135, LT .i64 3 ((st.size - k : Nat) : Int) (B.size : Int) (c := false) (decide_eq_false (by have := (H.hit1 k hk hm).2; have := H.la; have := H.lb; omega))),
   (109, PI .i64 3 (k : Int) 1 ((k + 1 : Nat) : Int) (by have := H.len; rw [IntKind.wrap_i64]; omega))]
def itsF8 (hC : Kd.C Kd.bool W Ao L.length L) (hc : L.length ≤ co) (H : Asked sp L st A B G D M1 M2) (k : Nat) (hk : k ≤ st.size) (hm : M1 k = false) : Items Try.prog W :=
  [(107, LE .i64 3 (k : Int) (st.size : Int) (c := true) (decide_eq_true (by omega))), (113, SL0 st k hk), (114, CB (match_at hC hc (H.m1 k hk)) hm),
   (109, PI .i64 3 (k : Int) 1 ((k + 1 : Nat) : Int) (by have := H.len; rw [IntKind.wrap_i64]; omega))]
noncomputable def its8 (hC : Kd.C Kd.bool W Ao L.length L) (hc : L.length ≤ co) (H : Asked sp L st A B G D M1 M2) (k : Nat) (hk : k ≤ st.size) : Items Try.prog W :=
  if hm : M1 k = true then itsT8 hC hc H k hk hm else itsF8 hC hc H k hk (by simpa using hm)
theorem goesT8 (k : Nat) (hk : k ≤ st.size) (z : Bool) (hm : M1 k = true) :
    Go.Ev.ask (runC Try.prog 10 (loopOf6 8) ⟨tmQ sp st Ao L.length co (sA A) (sA B) (sA G) (sA D) (zB z) (iN k) .no, itsT8 hC hc H k hk hm, []⟩) hs8r = Go.Ev.told (runC Try.prog 10 (loopOf6 8) ⟨tmQ sp st Ao L.length co (sA A) (sA B) (sA G) (sA D) (zB z) (iN k) .no, itsT8 hC hc H k hk hm, []⟩) .normal (tmQ sp st Ao L.length co (sA A) (sA B) (sA G) (sA D) (zB (z || true)) (iN (k + 1)) .no) := by
  cases z <;> kernel_rfl
theorem goesF8 (k : Nat) (hk : k ≤ st.size) (z : Bool) (hm : M1 k = false) :
    Go.Ev.ask (runC Try.prog 10 (loopOf6 8) ⟨tmQ sp st Ao L.length co (sA A) (sA B) (sA G) (sA D) (zB z) (iN k) .no, itsF8 hC hc H k hk hm, []⟩) hs8r = Go.Ev.told (runC Try.prog 10 (loopOf6 8) ⟨tmQ sp st Ao L.length co (sA A) (sA B) (sA G) (sA D) (zB z) (iN k) .no, itsF8 hC hc H k hk hm, []⟩) .normal (tmQ sp st Ao L.length co (sA A) (sA B) (sA G) (sA D) (zB (z || false)) (iN (k + 1)) .no) := by
  cases z <;> kernel_rfl
theorem goes8 (k : Nat) (hk : k ≤ st.size) (z : Bool) :
    Go.Ev.ask (runC Try.prog 10 (loopOf6 8) ⟨tmQ sp st Ao L.length co (sA A) (sA B) (sA G) (sA D) (zB z) (iN k) .no, its8 hC hc H k hk, []⟩) hs8r = Go.Ev.told (runC Try.prog 10 (loopOf6 8) ⟨tmQ sp st Ao L.length co (sA A) (sA B) (sA G) (sA D) (zB z) (iN k) .no, its8 hC hc H k hk, []⟩) .normal (tmQ sp st Ao L.length co (sA A) (sA B) (sA G) (sA D) (zB (z || M1 k)) (iN (k + 1)) .no) := by
  by_cases hm : M1 k = true
  · rw [show its8 hC hc H k hk = itsT8 hC hc H k hk hm from dif_pos hm, show zB (z || M1 k) = zB (z || true) from by rw [hm]]
    exact goesT8 hC hc H k hk z hm
  · have hm' : M1 k = false := by simpa using hm
    rw [show its8 hC hc H k hk = itsF8 hC hc H k hk hm' from dif_neg hm, show zB (z || M1 k) = zB (z || false) from by rw [hm']]
    exact goesF8 hC hc H k hk z hm'
noncomputable def all8 (z : Bool) (hz : anyK M1 (st.size + 1) = z) : Rounds Try.prog W 10 (loopOf6 8) (tmQ sp st Ao L.length co (sA A) (sA B) (sA G) (sA D) (zB false) (iN 0) .no) where
  N := st.size + 1
  S := fun k => tmQ sp st Ao L.length co (sA A) (sA B) (sA G) (sA D) (zB (anyK M1 k)) (iN k) .no
  F := tmQ sp st Ao L.length co (sA A) (sA B) (sA G) (sA D) (zB z) (iN (st.size + 1)) .no
  fin := by rw [hz]
  its := fun k hk => its8 hC hc H k (by omega)
  itl := [(107, LE .i64 3 ((st.size + 1 : Nat) : Int) (st.size : Int) (c := false) (decide_eq_false (by omega)))]
  h0 := []
  hs := hs8r
  he := hs8
  start := by kernel_rfl
  round := fun k hk => goes8 hC hc H k (by omega) (anyK M1 k)
  leaves := by kernel_rfl
  last := by kernel_rfl
set_option maxRecDepth 100000 in
theorem run8 (z : Bool) (hz : anyK M1 (st.size + 1) = z) : Go.Ev.ask (withN (runS Try.prog 10 1 (body6 8) ⟨tmQ sp st Ao L.length co (sA A) (sA B) (sA G) (sA D) (zB false) .no .no, [(1000000, (all8 hC hc H z hz).item mixed)], []⟩)) [] =
    Go.Ev.told (withN (runS Try.prog 10 1 (body6 8) ⟨tmQ sp st Ao L.length co (sA A) (sA B) (sA G) (sA D) (zB false) .no .no, [(1000000, (all8 hC hc H z hz).item mixed)], []⟩)) .normal (tmQ sp st Ao L.length co (sA A) (sA B) (sA G) (sA D) (zB z) .no .no) := by kernel_rfl

/-! what is asked behind it -/
noncomputable def itsT9 (hC : Kd.C Kd.bool W Ao L.length L) (hc : L.length ≤ co) (H : Asked sp L st A B G D M1 M2) (hz : anyK M1 (st.size + 1) = true) : Items Try.prog W :=
  [(1000001, .order _ order18), (145, MI .i64 3 (st.size : Int) (A.size : Int) ((st.size - A.size : Nat) : Int) (by have := H.la; have := H.len; rw [IntKind.wrap_i64]; omega)), (146, SL0 st (st.size - A.size) (by omega)),
   (147, CB (match_at hC hc (H.m1 (st.size - A.size) (by omega))) (H.any1.trans hz)), (148, NB true true (same _)),
   (158, MI .i64 3 (st.size : Int) (B.size : Int) ((st.size - B.size : Nat) : Int) (by have := H.la; have := H.lb; have := H.len; rw [IntKind.wrap_i64]; omega)), (159, SL0 st (st.size - B.size) (by omega)),
   (160, CB (match_at hC hc (H.m1 (st.size - B.size) (by omega))) (H.all1 hz))]
noncomputable def itsF9 (hC : Kd.C Kd.bool W Ao L.length L) (hc : L.length ≤ co) (H : Asked sp L st A B G D M1 M2) (hz : anyK M1 (st.size + 1) = false) : Items Try.prog W :=
  [(1000001, .order _ order18), (145, MI .i64 3 (st.size : Int) (A.size : Int) ((st.size - A.size : Nat) : Int) (by have := H.la; have := H.len; rw [IntKind.wrap_i64]; omega)), (146, SL0 st (st.size - A.size) (by omega)),
   (147, CB (match_at hC hc (H.m1 (st.size - A.size) (by omega))) (H.any1.trans hz)), (148, NB false false (same _)),
   (170, NS A st (b := true) (decide_eq_true (H.non1 hz).1)), (174, NS B st (b := true) (decide_eq_true (H.non1 hz).2))]
set_option maxRecDepth 100000 in
theorem runT9 (hz : anyK M1 (st.size + 1) = true) : Go.Ev.ask (withN (runS Try.prog 10 2 (body6 9) ⟨tmQ sp st Ao L.length co (sA A) (sA B) (sA G) (sA D) (zB true) .no .no, itsT9 hC hc H hz, []⟩)) hs9 =
    Go.Ev.told (withN (runS Try.prog 10 2 (body6 9) ⟨tmQ sp st Ao L.length co (sA A) (sA B) (sA G) (sA D) (zB true) .no .no, itsT9 hC hc H hz, []⟩)) .normal (tmQ sp st Ao L.length co (sA A) (sA B) (sA G) (sA D) (zB false) .no .no) := by kernel_rfl
set_option maxRecDepth 100000 in
theorem runF9 (hz : anyK M1 (st.size + 1) = false) : Go.Ev.ask (withN (runS Try.prog 10 2 (body6 9) ⟨tmQ sp st Ao L.length co (sA A) (sA B) (sA G) (sA D) (zB false) .no .no, itsF9 hC hc H hz, []⟩)) hs9 =
    Go.Ev.told (withN (runS Try.prog 10 2 (body6 9) ⟨tmQ sp st Ao L.length co (sA A) (sA B) (sA G) (sA D) (zB false) .no .no, itsF9 hC hc H hz, []⟩)) .normal (tmQ sp st Ao L.length co (sA A) (sA B) (sA G) (sA D) (zB false) .no .no) := by kernel_rfl

/-! the second loop -/
def itsT11 (hC : Kd.C Kd.bool W Ao L.length L) (hc : L.length ≤ co) (H : Asked sp L st A B G D M1 M2) (k : Nat) (hk : k ≤ st.size) (hm : M2 k = true) : Items Try.prog W :=
  [(181, LE .i64 3 (k : Int) (st.size : Int) (c := true) (decide_eq_true (by omega))), (187, SLh st k hk), (188, CB (match_at hC hc (H.m2 k hk)) hm),
   (198, GT .i64 3 (k : Int) (G.size : Int) (c := false) (decide_eq_false (by have := (H.hit2 k hk hm).2; omega))), (203, LT .i64 3 (k : Int) (D.size : Int) (c := false) (decide_eq_false (by have := (H.hit2 k hk hm).1; omega))),
   (183, PI .i64 3 (k : Int) 1 ((k + 1 : Nat) : Int) (by have := H.len; rw [IntKind.wrap_i64]; omega))]
def itsF11 (hC : Kd.C Kd.bool W Ao L.length L) (hc : L.length ≤ co) (H : Asked sp L st A B G D M1 M2) (k : Nat) (hk : k ≤ st.size) (hm : M2 k = false) : Items Try.prog W :=
  [(181, LE .i64 3 (k : Int) (st.size : Int) (c := true) (decide_eq_true (by omega))), (187, SLh st k hk), (188, CB (match_at hC hc (H.m2 k hk)) hm),
   (183, PI .i64 3 (k : Int) 1 ((k + 1 : Nat) : Int) (by have := H.len; rw [IntKind.wrap_i64]; omega))]
noncomputable def its11 (hC : Kd.C Kd.bool W Ao L.length L) (hc : L.length ≤ co) (H : Asked sp L st A B G D M1 M2) (k : Nat) (hk : k ≤ st.size) : Items Try.prog W :=
  if hm : M2 k = true then itsT11 hC hc H k hk hm else itsF11 hC hc H k hk (by simpa using hm)
theorem goesT11 (k : Nat) (hk : k ≤ st.size) (z : Bool) (hm : M2 k = true) :
    Go.Ev.ask (runC Try.prog 10 (loopOf6 11) ⟨tmQ sp st Ao L.length co (sA A) (sA B) (sA G) (sA D) (zB z) .no (iN k), itsT11 hC hc H k hk hm, []⟩) hs11r = Go.Ev.told (runC Try.prog 10 (loopOf6 11) ⟨tmQ sp st Ao L.length co (sA A) (sA B) (sA G) (sA D) (zB z) .no (iN k), itsT11 hC hc H k hk hm, []⟩) .normal (tmQ sp st Ao L.length co (sA A) (sA B) (sA G) (sA D) (zB (z || true)) .no (iN (k + 1))) := by
  cases z <;> kernel_rfl
theorem goesF11 (k : Nat) (hk : k ≤ st.size) (z : Bool) (hm : M2 k = false) :
    Go.Ev.ask (runC Try.prog 10 (loopOf6 11) ⟨tmQ sp st Ao L.length co (sA A) (sA B) (sA G) (sA D) (zB z) .no (iN k), itsF11 hC hc H k hk hm, []⟩) hs11r = Go.Ev.told (runC Try.prog 10 (loopOf6 11) ⟨tmQ sp st Ao L.length co (sA A) (sA B) (sA G) (sA D) (zB z) .no (iN k), itsF11 hC hc H k hk hm, []⟩) .normal (tmQ sp st Ao L.length co (sA A) (sA B) (sA G) (sA D) (zB (z || false)) .no (iN (k + 1))) := by
  cases z <;> kernel_rfl
theorem goes11 (k : Nat) (hk : k ≤ st.size) (z : Bool) :
    Go.Ev.ask (runC Try.prog 10 (loopOf6 11) ⟨tmQ sp st Ao L.length co (sA A) (sA B) (sA G) (sA D) (zB z) .no (iN k), its11 hC hc H k hk, []⟩) hs11r = Go.Ev.told (runC Try.prog 10 (loopOf6 11) ⟨tmQ sp st Ao L.length co (sA A) (sA B) (sA G) (sA D) (zB z) .no (iN k), its11 hC hc H k hk, []⟩) .normal (tmQ sp st Ao L.length co (sA A) (sA B) (sA G) (sA D) (zB (z || M2 k)) .no (iN (k + 1))) := by
  by_cases hm : M2 k = true
  · rw [show its11 hC hc H k hk = itsT11 hC hc H k hk hm from dif_pos hm, show zB (z || M2 k) = zB (z || true) from by rw [hm]]
    exact goesT11 hC hc H k hk z hm
  · have hm' : M2 k = false := by simpa using hm
    rw [show its11 hC hc H k hk = itsF11 hC hc H k hk hm' from dif_neg hm, show zB (z || M2 k) = zB (z || false) from by rw [hm']]
    exact goesF11 hC hc H k hk z hm'
noncomputable def all11 (z : Bool) (hz : anyK M2 (st.size + 1) = z) : Rounds Try.prog W 10 (loopOf6 11) (tmQ sp st Ao L.length co (sA A) (sA B) (sA G) (sA D) (zB false) .no (iN 0)) where
  N := st.size + 1
  S := fun k => tmQ sp st Ao L.length co (sA A) (sA B) (sA G) (sA D) (zB (anyK M2 k)) .no (iN k)
  F := tmQ sp st Ao L.length co (sA A) (sA B) (sA G) (sA D) (zB z) .no (iN (st.size + 1))
  fin := by rw [hz]
  its := fun k hk => its11 hC hc H k (by omega)
  itl := [(181, LE .i64 3 ((st.size + 1 : Nat) : Int) (st.size : Int) (c := false) (decide_eq_false (by omega)))]
  h0 := []
  hs := hs11r
  he := hs11
  start := by kernel_rfl
  round := fun k hk => goes11 hC hc H k (by omega) (anyK M2 k)
  leaves := by kernel_rfl
  last := by kernel_rfl
set_option maxRecDepth 100000 in
theorem run11 (z : Bool) (hz : anyK M2 (st.size + 1) = z) : Go.Ev.ask (withN (runS Try.prog 10 1 (body6 11) ⟨tmQ sp st Ao L.length co (sA A) (sA B) (sA G) (sA D) (zB false) .no .no, [(1000000, (all11 hC hc H z hz).item mixed)], []⟩)) [] =
    Go.Ev.told (withN (runS Try.prog 10 1 (body6 11) ⟨tmQ sp st Ao L.length co (sA A) (sA B) (sA G) (sA D) (zB false) .no .no, [(1000000, (all11 hC hc H z hz).item mixed)], []⟩)) .normal (tmQ sp st Ao L.length co (sA A) (sA B) (sA G) (sA D) (zB z) .no .no) := by kernel_rfl

/-! the end -/
noncomputable def itsT12 (hC : Kd.C Kd.bool W Ao L.length L) (hc : L.length ≤ co) (H : Asked sp L st A B G D M1 M2) (hz : anyK M2 (st.size + 1) = true) : Items Try.prog W :=
  [(1000001, .order _ order28), (211, SLh st G.size H.lc), (212, CB (match_at hC hc (H.m2 G.size H.lc)) (H.any2.trans hz)), (213, EB true true (same _)),
   (222, SLh st D.size (by have := H.lc; have := H.ld; omega)), (223, CB (match_at hC hc (H.m2 D.size (by have := H.lc; have := H.ld; omega))) (H.all2 hz)), (240, Go.Proofs.Ytcfimlllgkknhaa.C (awake_at H.aw))]
noncomputable def itsF12 (hC : Kd.C Kd.bool W Ao L.length L) (hc : L.length ≤ co) (H : Asked sp L st A B G D M1 M2) (hz : anyK M2 (st.size + 1) = false) : Items Try.prog W :=
  [(1000001, .order _ order28), (211, SLh st G.size H.lc), (212, CB (match_at hC hc (H.m2 G.size H.lc)) (H.any2.trans hz)), (213, EB false false (same _)),
   (231, ES G st (b := true) (decide_eq_true (H.non2 hz).1)), (235, ES D st (b := true) (decide_eq_true (H.non2 hz).2)), (240, Go.Proofs.Ytcfimlllgkknhaa.C (awake_at H.aw))]
end

set_option maxRecDepth 100000 in
theorem rest3 (w : World) (raw t sp st : ByteArray) (L : List Bool) (A B G D : ByteArray) (M1 M2 : Nat → Bool) (H : Asked sp L st A B G D M1 M2) : Rest3 w raw t sp st L := by
  intro gp Ao co W Fr M hz hd h5 h6
  have hC := M.hC
  have hc := M.cap
  have R0 : Rep W (fun _ => gp) (sparse 242 [(5, .p 0 0), (6, .v (.string st))] [⟨[.string sp, .slice Ao L.length co], 25, false⟩]) Fr W :=
    Rep.sparse hz hd (by
      intro p hp
      simp only [List.mem_cons, List.mem_nil_iff, or_false] at hp
      rcases hp with rfl | rfl
      · exact h5
      · exact h6) (by
      intro p hp
      simp only [List.mem_cons, List.mem_nil_iff, or_false] at hp
      rcases hp with rfl | rfl
      · exact Nat.lt_succ_self 0
      · trivial) (by
      intro j b hj
      match j, hj with
      | 0, hj => cases hj; exact M.hp) rfl (fun i j hi hj e => by
      have hi' : i < 1 := hi
      have hj' : j < 1 := hj
      omega)
  have R : Rep W (fun _ => gp) (tmQ sp st Ao L.length co .no .no .no .no .no .no .no) Fr W := by
    have e : sparse 242 [(5, .p 0 0), (6, .v (.string st))] [⟨[.string sp, .slice Ao L.length co], 25, false⟩] = tmQ sp st Ao L.length co .no .no .no .no .no .no .no := by kernel_rfl
    rw [← e]
    exact R0
  have fin : ∀ W', Below W.heap.size W W' → Below w.heap.size w W' := fun W' h => M.below.trans (h.mono M.below.size)
  clear R0 M
  show (body6 3).wp Try.prog _ Fr W
  refine wp_spine mixed (c := body6 3) (n := 5) hs4 (run4 hC hc H) R fun ν1 A1 W1 x1 R1 => ?_
  rw [show Ev.spine 5 (body6 3) = body6 8 from by kernel_rfl]
  refine wp_spine mixed (c := body6 8) (n := 1) [] (run8 hC hc H _ rfl) R1 fun ν2 A2 W2 x2 R2 => ?_
  rw [show Ev.spine 1 (body6 8) = body6 9 from by kernel_rfl]
  have next : ∀ ν3 A3 W3, Rep W ν3 (tmQ sp st Ao L.length co (sA A) (sA B) (sA G) (sA D) (zB false) .no .no) A3 W3 → (body6 11).wp Try.prog (bodyPost Try.prog Try.f6 fun e w' => e = .returned (.bool true) ∧ Below w.heap.size w w') A3 W3 := by
    intro ν3 A3 W3 R3
    refine wp_spine mixed (c := body6 11) (n := 1) [] (run11 hC hc H _ rfl) R3 fun ν4 A4 W4 x4 R4 => ?_
    rw [show Ev.spine 1 (body6 11) = body6 12 from by kernel_rfl]
    cases hz2 : anyK M2 (st.size + 1)
    · rw [hz2] at R4
      refine wp_ends mixed (fuel := 10) (its := itsF12 hC hc H hz2) (tm' := endOf (runC Try.prog 10 (body6 12) ⟨tmQ sp st Ao L.length co (sA A) (sA B) (sA G) (sA D) (zB false) .no .no, itsF12 hC hc H hz2, []⟩)) (by kernel_rfl) (v := .bool true) (by kernel_rfl) R4 fun W' hW => ⟨rfl, fin W' hW⟩
    · rw [hz2] at R4
      refine wp_ends mixed (fuel := 10) (its := itsT12 hC hc H hz2) (tm' := endOf (runC Try.prog 10 (body6 12) ⟨tmQ sp st Ao L.length co (sA A) (sA B) (sA G) (sA D) (zB true) .no .no, itsT12 hC hc H hz2, []⟩)) (by kernel_rfl) (v := .bool true) (by kernel_rfl) R4 fun W' hW => ⟨rfl, fin W' hW⟩
  cases hz1 : anyK M1 (st.size + 1)
  · rw [hz1] at R2
    refine wp_spine mixed (c := body6 9) (n := 2) hs9 (runF9 hC hc H hz1) R2 fun ν3 A3 W3 x3 R3 => ?_
    rw [show Ev.spine 2 (body6 9) = body6 11 from by kernel_rfl]
    exact next ν3 A3 W3 R3
  · rw [hz1] at R2
    refine wp_spine mixed (c := body6 9) (n := 2) hs9 (runT9 hC hc H hz1) R2 fun ν3 A3 W3 x3 R3 => ?_
    rw [show Ev.spine 2 (body6 9) = body6 11 from by kernel_rfl]
    exact next ν3 A3 W3 R3
end Go.Proofs.Ytcfimlllgkknhaa
