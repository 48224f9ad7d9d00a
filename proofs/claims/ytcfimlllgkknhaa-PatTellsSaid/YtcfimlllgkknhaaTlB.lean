import Derived.Test.YtcfimlllgkknhaaTlA
set_option linter.unusedSimpArgs false
set_option linter.unusedVariables false
namespace Go.Proofs.Ytcfimlllgkknhaa
open Go.RowKit Go.Eng Go.Ev Go.Proofs.YtcfimlllgkknhaaW.PrintWords Go.Proofs.Ytcfimlllgkknhaa.PPatTells

def bodyR : Code → Code := fun b => match Ev.spine 2 b with
  | .seq (.seq _ (.block _ (.loop (.seq _ (.seq (.block _ (.seq _ (.seq _ (.seq _ (.cond _ a _))))) _))))) _ => a
  | _ => .skip
set_option maxHeartbeats 4000000 in
set_option maxRecDepth 100000 in
theorem region10 (s : ByteArray) (A : Option Addr) (n c : Nat) (L : List Bool) (gp : Nat) (W : World) (x0 x1 x2 x3 x5 x6 x7 x8 x9 x10 x11 x12 x13 x14 x15 x16 x17 x18 x19 x20 x21 x22 x23 x24 x25 x26 x27 x28 x29 x30 x31 x32 x33 x34 x35 x36 x37 x38 x39 x40 x41 x42 x43 x44 x45 x46 x47 x48 x49 x50 x51 x52 x53 x54 x55 x56 x57 x58 x59 x60 x61 x62 x63 x64 x65 x66 x67 x68 : Value) (Q : Exit → Act → World → Prop) (e3 : ∃ k, pat_Raw.f k s = some (s, L)) (hp : W.heap[gp]? = some (.cells #[.string s, .slice A n c] 25 (0, 0)))
    (w : World) (hw : w.heap.size ≤ gp) (hb : Below w.heap.size w W)
    (K : ∀ (Ao : Option Addr) (co : Nat) (W' : World) (y65 y66 y67 : Value), W'.heap[gp]? = some (.cells #[.string s, .slice Ao L.length co] 25 (0, 0)) → Kd.C Kd.bool W' Ao L.length L → L.length ≤ co → Below w.heap.size w W' → Q .normal ⟨#[x0, x1, x2, x3, .pointer (some ⟨gp, 0, none⟩), x5, x6, x7, x8, x9, x10, x11, x12, x13, x14, x15, x16, x17, x18, x19, x20, x21, x22, x23, x24, x25, x26, x27, x28, x29, x30, x31, x32, x33, x34, x35, x36, x37, x38, x39, x40, x41, x42, x43, x44, x45, x46, x47, x48, x49, x50, x51, x52, x53, x54, x55, x56, x57, x58, x59, x60, x61, x62, x63, x64, y65, y66, y67, x68], []⟩ W') :
    r10.wp Try.prog Q ⟨#[x0, x1, x2, x3, .pointer (some ⟨gp, 0, none⟩), x5, x6, x7, x8, x9, x10, x11, x12, x13, x14, x15, x16, x17, x18, x19, x20, x21, x22, x23, x24, x25, x26, x27, x28, x29, x30, x31, x32, x33, x34, x35, x36, x37, x38, x39, x40, x41, x42, x43, x44, x45, x46, x47, x48, x49, x50, x51, x52, x53, x54, x55, x56, x57, x58, x59, x60, x61, x62, x63, x64, x65, x66, x67, x68], []⟩ W := by
  obtain ⟨k, e3⟩ := e3
  have e1 : r10 = bodyR (bodyOf Try.prog 4) := by kernel_rfl
  have e2 : Try.f4.body = some (bodyOf Try.prog 4) := by kernel_rfl
  rw [e1]
  clear e1
  generalize bodyOf Try.prog 4 = b at e2
  have e8 : Try.f4.body = some _ := rfl
  obtain rfl := Option.some.inj (e8.symm.trans e2)
  clear e8 e2
  simp only [bodyR, Ev.spine]
  have E3 := Aside0.mk e3
  have HP := Aside0.mk (And.intro hp (And.intro hw hb))
  have HK := Aside0.mk K
  have c0 : W.cell? ⟨gp, 0, none⟩ = some (.string s) := by simp [World.cell?, hp]
  clear e3 hp hw hb K
  go_wp2_with fail
  rename_i K' hK'
  have HK' := Aside0.mk hK'
  clear hK'
  refine (pat_Raw.calls k s s L _ E3.out).mono ?_
  rintro e w2 ⟨v, rfl, hR, hb2⟩
  obtain ⟨Ao, co, rfl⟩ := Kd.R_slice hR
  have hp2 := blk_below HP.out.1 hb2
  have c1 : w2.cell? ⟨gp, 0, none⟩ = some (.string s) := by simp [World.cell?, hp2]
  have c2 : w2.cell? ⟨gp, 1, none⟩ = some (.slice A n c) := by simp [World.cell?, hp2]
  have f1 : w2.frozen? ⟨gp, 0, none⟩ = false := by simp [World.frozen?, hp2]
  have f2 : w2.frozen? ⟨gp, 1, none⟩ = false := by simp [World.frozen?, hp2]
  have HR := Aside0.mk hR
  have HB2 := Aside0.mk hb2
  have HP2 := Aside0.mk hp2
  clear hR hb2 hp2 c0
  refine HK'.out _ _ ?_
  clear HK'
  go_wp2
  have hp2 := HP2.out
  have hp3 := blk_set hp2 0 (.string s)
  have hp4 := blk_set hp3 1 (.slice Ao L.length co)
  have R3 := Kd.R_set HR.out hp2 (by intro q hq; have h4 : q = 4 := (by simpa [Kd.bool, Kd.scalar] using hq); omega) 0 (.string s)
  have R4 := Kd.R_set R3 hp3 (by intro q hq; have h4 : q = 4 := (by simpa [Kd.bool, Kd.scalar] using hq); omega) 1 (.slice Ao L.length co)
  have B2 : Below w.heap.size w w2 := HP.out.2.2.trans (HB2.out.mono HP.out.2.2.size)
  exact HK.out Ao co _ _ _ _ hp4 (Kd.R_reads' R4).2.2 (Kd.R_reads' R4).2.1 ((B2.setCell HP.out.2.1 _).setCell HP.out.2.1 _)
theorem arr69 (a : Array Value) (h : a.size = 69) : ∃ x0 x1 x2 x3 x4 x5 x6 x7 x8 x9 x10 x11 x12 x13 x14 x15 x16 x17 x18 x19 x20 x21 x22 x23 x24 x25 x26 x27 x28 x29 x30 x31 x32 x33 x34 x35 x36 x37 x38 x39 x40 x41 x42 x43 x44 x45 x46 x47 x48 x49 x50 x51 x52 x53 x54 x55 x56 x57 x58 x59 x60 x61 x62 x63 x64 x65 x66 x67 x68, a = #[x0, x1, x2, x3, x4, x5, x6, x7, x8, x9, x10, x11, x12, x13, x14, x15, x16, x17, x18, x19, x20, x21, x22, x23, x24, x25, x26, x27, x28, x29, x30, x31, x32, x33, x34, x35, x36, x37, x38, x39, x40, x41, x42, x43, x44, x45, x46, x47, x48, x49, x50, x51, x52, x53, x54, x55, x56, x57, x58, x59, x60, x61, x62, x63, x64, x65, x66, x67, x68] := by
  obtain ⟨l⟩ := a
  match l, h with
  | x0 :: x1 :: x2 :: x3 :: x4 :: x5 :: x6 :: x7 :: x8 :: x9 :: x10 :: x11 :: x12 :: x13 :: x14 :: x15 :: x16 :: x17 :: x18 :: x19 :: x20 :: x21 :: x22 :: x23 :: x24 :: x25 :: x26 :: x27 :: x28 :: x29 :: x30 :: x31 :: x32 :: x33 :: x34 :: x35 :: x36 :: x37 :: x38 :: x39 :: x40 :: x41 :: x42 :: x43 :: x44 :: x45 :: x46 :: x47 :: x48 :: x49 :: x50 :: x51 :: x52 :: x53 :: x54 :: x55 :: x56 :: x57 :: x58 :: x59 :: x60 :: x61 :: x62 :: x63 :: x64 :: x65 :: x66 :: x67 :: x68 :: [], _ => exact ⟨x0, x1, x2, x3, x4, x5, x6, x7, x8, x9, x10, x11, x12, x13, x14, x15, x16, x17, x18, x19, x20, x21, x22, x23, x24, x25, x26, x27, x28, x29, x30, x31, x32, x33, x34, x35, x36, x37, x38, x39, x40, x41, x42, x43, x44, x45, x46, x47, x48, x49, x50, x51, x52, x53, x54, x55, x56, x57, x58, x59, x60, x61, x62, x63, x64, x65, x66, x67, x68, rfl⟩

/-- What is asked of the pattern and the text, at any of these. -/
def Law (fr lg : Bool) : Prop := ∀ (s : ByteArray) (L : List Bool) (t : ByteArray), s.size ≤ 60 → t.size ≤ 60 → ∃ (m a : Bool) (r : ByteArray), (∃ k, pat_Match.f k s L t = some m) ∧ (∃ k, conchref1_Match.f k s L t = some m) ∧ (∃ k, pat_Active.f k s L = some a) ∧ (∃ k, conchref1_Active.f k s L = some a) ∧
  (∃ k, pat_Cut.f k s L t fr lg = some r) ∧ (∃ k, conchref1_Cut.f k s L t fr lg = some r)
def Few : Prop := ∀ s : ByteArray, s.size ≤ 60 → (∃ r : ByteArray, r.size ≤ 60 ∧ ∃ k, conchlaw6_Tame.f k s = some r) ∧ (∃ r : ByteArray, r.size ≤ 60 ∧ ∃ k, conchlaw6_letters.f k s = some r) ∧ (∃ k, pat_Raw.f k s = some (s, List.replicate s.size true))

/-- In front of the round i. -/
structure Inv (w : World) (fr lg : Bool) (i : Nat) (s t : ByteArray) (A : Option Addr) (L : List Bool) (c gp : Nat) (a : Act) (W : World) : Prop where
  hs : s.size ≤ 60
  ht : t.size ≤ 60
  cap : L.length ≤ c
  hg : w.heap.size ≤ gp
  hp : W.heap[gp]? = some (.cells #[.string s, .slice A L.length c] 25 (0, 0))
  below : Below w.heap.size w W
  size : a.tmps.size = 69
  defers : a.defers = []
  t1 : a.tmps[1]? = some (.string t)
  t2 : a.tmps[2]? = some (.bool fr)
  t3 : a.tmps[3]? = some (.bool lg)
  t4 : a.tmps[4]? = some (.pointer (some ⟨gp, 0, none⟩))
  t9 : a.tmps[9]? = some (.int .i64 (i : Int))
theorem Inv.rep {w : World} {fr lg : Bool} {i : Nat} {s t : ByteArray} {A : Option Addr} {L : List Bool} {c gp : Nat} {a : Act} {W : World} (I : Inv w fr lg i s t A L c gp a W) (w0 : World) (own : Bool) (hb : Below w0.heap.size w0 W) (ho : own = true → w0.heap.size ≤ gp) :
    Rep w0 (fun _ => gp) (tmT own s t A L.length c fr lg (iN i)) a W := by
  have R0 : Rep w0 (fun _ => gp) (sparse 69 [(1, .v (.string t)), (2, .v (.bool fr)), (3, .v (.bool lg)), (4, .p 0 0), (9, iN i)] [⟨[.string s, .slice A L.length c], 25, own⟩]) a W :=
    Rep.sparse I.size I.defers (by
      intro p hp
      simp only [List.mem_cons, List.mem_nil_iff, or_false] at hp
      rcases hp with rfl | rfl | rfl | rfl | rfl
      · exact I.t1
      · exact I.t2
      · exact I.t3
      · exact I.t4
      · exact I.t9) (by
      intro p hp
      simp only [List.mem_cons, List.mem_nil_iff, or_false] at hp
      rcases hp with rfl | rfl | rfl | rfl | rfl
      · trivial
      · trivial
      · trivial
      · exact Nat.lt_succ_self 0
      · trivial) hb (by
      intro j b hj
      match j, hj with
      | 0, hj => cases hj; exact I.hp) (by
      intro j b hj ho'
      match j, hj with
      | 0, hj => cases hj; exact ho ho') (fun i j hi hj e => by
      have hi' : i < 1 := hi
      have hj' : j < 1 := hj
      omega)
  have e : sparse 69 [(1, .v (.string t)), (2, .v (.bool fr)), (3, .v (.bool lg)), (4, .p 0 0), (9, iN i)] [⟨[.string s, .slice A L.length c], 25, own⟩] = tmT own s t A L.length c fr lg (iN i) := by kernel_rfl
  rw [← e]
  exact R0
/-- Out of a state, the front of a round again. -/
theorem inv_of {w w0 : World} {own fr lg : Bool} {i : Nat} {s t : ByteArray} {A : Option Addr} {L : List Bool} {c gp : Nat} {a : Act} {W : World} {ν : Nat → Nat} (R : Rep w0 ν (tmT own s t A L.length c fr lg (iN i)) a W) (hν : ν 0 = gp) (hs : s.size ≤ 60) (ht : t.size ≤ 60) (cap : L.length ≤ c)
    (hg : w.heap.size ≤ gp) (below : Below w.heap.size w W) : Inv w fr lg i s t A L c gp a W := by
  subst hν
  exact ⟨hs, ht, cap, hg, R.heap 0 _ rfl, below, R.size, R.defers, R.slot 1 _ rfl rfl, R.slot 2 _ rfl rfl, R.slot 3 _ rfl rfl, R.slot 4 _ rfl rfl, R.slot 9 _ rfl rfl⟩
def InvE (w : World) (fr lg : Bool) (i : Nat) (a : Act) (W : World) : Prop := ∃ s t A L c gp, Inv w fr lg i s t A L c gp a W ∧ (i ≤ 1 → Kd.C Kd.bool w A L.length L) ∧ (i ≤ 2 → Kd.C Kd.bool W A L.length L)

theorem fin5 {w : World} {fr lg : Bool} {i : Nat} {s t : ByteArray} {A : Option Addr} {L : List Bool} {c gp : Nat} {a : Act} {W : World} (hi : i < 3) (I : Inv w fr lg i s t A L c gp a W) (h1 : i + 1 ≤ 1 → Kd.C Kd.bool w A L.length L) (h2 : i + 1 ≤ 2 → Kd.C Kd.bool W A L.length L)
    (Q : Exit → Act → World → Prop) (hQ : ∀ a W, InvE w fr lg (i + 1) a W → Q .normal a W) : r5.wp Try.prog Q a W := by
  refine wp_piece mixed (e := .normal) trivial (run5 false s t A L.length c fr lg i hi) (I.rep W false (Below.refl _ _) (fun h => by cases h)) fun ν1 a1 W1 x1 R1 => ?_
  exact hQ a1 W1 ⟨s, t, A, L, c, gp, inv_of R1 (x1 0 (Nat.lt_succ_self 0)) I.hs I.ht I.cap I.hg (I.below.trans (R1.below.mono I.below.size)), h1, fun h => Kd.C_below (h2 h) R1.below⟩

set_option maxRecDepth 100000 in
theorem round (w : World) (fr lg : Bool) (H : Law fr lg) (F : Few) (i : Nat) (hi : i < 3) (Q : Exit → Act → World → Prop) (hQ : ∀ a W, InvE w fr lg (i + 1) a W → Q .normal a W) (a : Act) (W : World) (hI : InvE w fr lg i a W) : loop4.wp Try.prog Q a W := by
  obtain ⟨s, t, A, L, c, gp, I, cw, cW⟩ := hI
  have hx1 : ∀ {ν' : Nat → Nat} {n : Nat}, Ext n (fun _ => gp) ν' → 0 < n → ν' 0 = gp := fun h hn => h 0 hn
  rw [loop4_is]
  refine wp_seq (wp_piece mixed (e := .normal) trivial (runA false s t A L.length c fr lg i hi) (I.rep W false (Below.refl _ _) (fun h => by cases h)) fun ν1 a1 W1 q1 R1 => ?_)
  have I1 : Inv w fr lg i s t A L c gp a1 W1 := inv_of R1 (hx1 q1 (Nat.lt_succ_self 0)) I.hs I.ht I.cap I.hg (I.below.trans (R1.below.mono I.below.size))
  have cW1 : Kd.C Kd.bool W1 A L.length L := Kd.C_below (cW (by omega)) R1.below
  clear R1 q1 I cW
  refine wp_seq (wp_block ?_)
  obtain ⟨m, ac, r, m1, m2, a1', a2', c1, c2⟩ := H s L t I1.hs I1.ht
  refine wp_seq (wp_piece mixed (e := .normal) trivial (run6 cW1 I1.cap (iN i) m1 m2 a1' a2' c1 c2) (I1.rep W1 false (Below.refl _ _) (fun h => by cases h)) fun ν2 a2 W2 q2 R2 => ?_)
  have I2 : Inv w fr lg i s t A L c gp a2 W2 := inv_of R2 (hx1 q2 (Nat.lt_succ_self 0)) I1.hs I1.ht I1.cap I1.hg (I1.below.trans (R2.below.mono I1.below.size))
  clear R2 q2 I1 cW1
  obtain ⟨⟨s', hs', e1⟩, -, -⟩ := F s I2.hs
  obtain ⟨-, ⟨t', ht', e2⟩, -⟩ := F t I2.ht
  obtain ⟨-, -, e3⟩ := F s' hs'
  refine wp_seq (wp_piece mixed (e := .normal) trivial (run8 s t A L.length c fr lg s' t' e1 e2 (iN i)) (I2.rep w true I2.below (fun _ => I2.hg)) fun ν3 a3 W3 q3 R3 => ?_)
  have g3 := hx1 q3 (Nat.lt_succ_self 0)
  by_cases h1 : i = 1
  · subst h1
    refine wp_seq (wp_piece mixed (e := .normal) trivial (run9' s' t' A L.length c fr lg) R3 fun ν4 a4 W4 q4 R4 => ?_)
    have g4 : ν4 0 = gp := (q4 0 (Nat.lt_succ_self 0)).trans g3
    have e64 : a4.tmps[64]? = some (.bool true) := R4.slot 64 _ rfl rfl
    refine wp_cond_true (by
      show a4.tmps.getD 64 undef = _
      rw [Array.getD_eq_getD_getElem?, e64]; rfl) ?_
    have hp4 : W4.heap[gp]? = some (.cells #[.string s', .slice A L.length c] 25 (0, 0)) := by
      have := R4.heap 0 _ rfl
      rw [g4] at this
      exact this
    have k1 : a4.tmps[1]? = some (.string t') := R4.slot 1 _ rfl rfl
    have k2 : a4.tmps[2]? = some (.bool fr) := R4.slot 2 _ rfl rfl
    have k3 : a4.tmps[3]? = some (.bool lg) := R4.slot 3 _ rfl rfl
    have k4 : a4.tmps[4]? = some (.pointer (some ⟨gp, 0, none⟩)) := by
      have := R4.slot 4 _ rfl rfl
      rw [this]
      show some (Value.pointer (some ⟨ν4 0, 0, none⟩)) = _
      rw [g4]
    have k9 : a4.tmps[9]? = some (.int .i64 ((1 : Nat) : Int)) := R4.slot 9 _ rfl rfl
    have kz : a4.tmps.size = 69 := R4.size
    have kd : a4.defers = [] := R4.defers
    have kb := R4.below
    clear R4 q4 R3 q3 e64
    obtain ⟨tmps4, defers4⟩ := a4
    simp only at kd kz k1 k2 k3 k4 k9
    subst kd
    obtain ⟨x0, x1, x2, x3, x4, x5, x6, x7, x8, x9, x10, x11, x12, x13, x14, x15, x16, x17, x18, x19, x20, x21, x22, x23, x24, x25, x26, x27, x28, x29, x30, x31, x32, x33, x34, x35, x36, x37, x38, x39, x40, x41, x42, x43, x44, x45, x46, x47, x48, x49, x50, x51, x52, x53, x54, x55, x56, x57, x58, x59, x60, x61, x62, x63, x64, x65, x66, x67, x68, rfl⟩ := arr69 tmps4 kz
    have k1' : x1 = .string t' := Option.some.inj k1
    have k2' : x2 = .bool fr := Option.some.inj k2
    have k3' : x3 = .bool lg := Option.some.inj k3
    have k4' : x4 = .pointer (some ⟨gp, 0, none⟩) := Option.some.inj k4
    have k9' : x9 = .int .i64 ((1 : Nat) : Int) := Option.some.inj k9
    subst k1' k2' k3' k4' k9'
    refine region10 s' A L.length c _ gp W4 x0 (.string t') (.bool fr) (.bool lg) x5 x6 x7 x8 (.int .i64 ((1 : Nat) : Int)) x10 x11 x12 x13 x14 x15 x16 x17 x18 x19 x20 x21 x22 x23 x24 x25 x26 x27 x28 x29 x30 x31 x32 x33 x34 x35 x36 x37 x38 x39 x40 x41 x42 x43 x44 x45 x46 x47 x48 x49 x50 x51 x52 x53 x54 x55 x56 x57 x58 x59 x60 x61 x62 x63 x64 x65 x66 x67 x68 _ e3 hp4 w I2.hg kb fun Ao co W5 y65 y66 y67 h5 hC5 hc5 b5 => ?_
    have I5 : Inv w fr lg 1 s' t' Ao (List.replicate s'.size true) co gp ⟨#[x0, .string t', .bool fr, .bool lg, .pointer (some ⟨gp, 0, none⟩), x5, x6, x7, x8, .int .i64 ((1 : Nat) : Int), x10, x11, x12, x13, x14, x15, x16, x17, x18, x19, x20, x21, x22, x23, x24, x25, x26, x27, x28, x29, x30, x31, x32, x33, x34, x35, x36, x37, x38, x39, x40, x41, x42, x43, x44, x45, x46, x47, x48, x49, x50, x51, x52, x53, x54, x55, x56, x57, x58, x59, x60, x61, x62, x63, x64, y65, y66, y67, x68], []⟩ W5 := ⟨hs', ht', hc5, I2.hg, h5, b5, rfl, rfl, rfl, rfl, rfl, rfl, rfl⟩
    exact fin5 hi I5 (fun h => by omega) (fun _ => hC5) Q hQ
  · refine wp_piece mixed (e := .normal) trivial (run9 true s' t' A L.length c fr lg i h1) R3 fun ν4 a4 W4 q4 R4 => ?_
    have I4 : Inv w fr lg i s' t' A L c gp a4 W4 := inv_of R4 ((q4 0 (Nat.lt_succ_self 0)).trans g3) hs' ht' I2.cap I2.hg R4.below
    exact fin5 hi I4 (fun h => cw (by omega)) (fun h => Kd.C_below (cw (by omega)) R4.below) Q hQ
end Go.Proofs.Ytcfimlllgkknhaa

