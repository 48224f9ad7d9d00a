/-
  WorkPlays, walked: up to its script.
-/
import Derived.Test.YtpanndfhgpbahaaWm
import Derived.Deep.RegionWith
import Derived.Deep.DeepCutAuto
set_option linter.unusedSimpArgs false
set_option linter.unusedVariables false
namespace Go.Proofs.Ytpanndfhgpbahaa
open Go.RowKit Go.Maps Go.ChangeMaps Go.MapKept

/-- A Work stays as another map is written. -/
theorem ws_grown {B : Nat} {W W' : World} {gp gm gb m n : Nat} {a : Nat → Int} (h : WS B W gp gm m n a) (hg : W.grownBy W' (some gb)) (hb : ∃ es ck, W.heap[gb]? = some (Obj.map es ck)) (hne : gm ≠ gb) : WS B W' gp gm m n a :=
  ⟨st_grown h.st hg hb, h.heap, h.inj, hm_keeps h.map (fun es ck hk => (hg.block gm (Array.getElem?_eq_some_iff.1 hk).1 (fun e => hne (by injection e))).trans hk), h.rng, h.hgm⟩
theorem owns_map {W : World} {gb m : Nat} {R : Value → Option (DataW Unit × List MemPlace)} {D : DataW Unit} (h : W.ownsMap Try.prog 3 R gb m D) : ∃ es ck, W.heap[gb]? = some (Obj.map es ck) := by
  obtain ⟨es, ck, h1, -⟩ := h
  exact ⟨es, ck, h1⟩
theorem hb_oth {W W' : World} {gb gm m cnt : Nat} {S : Int → Prop} (h : HasB W gb m S cnt) (ho : Oth gm W W') (hne : gb ≠ gm) : HasB W' gb m S cnt := by
  obtain ⟨D, ⟨es, ck, h1, h2⟩, hM⟩ := h
  exact ⟨D, ⟨es, ck, ho gb es ck hne h1, h2⟩, hM⟩
theorem marks_same {D : DataW Unit} {S T : Int → Prop} {cnt : Nat} (h : Marks D S cnt) (e : ∀ y, S y ↔ T y) : Marks D T cnt := ⟨h.size, fun x hx hs => h.yes x hx ((e x).2 hs), fun x hx hs => h.no x hx fun g => hs ((e x).1 g)⟩
/-- What the script finds: a Work and a map of marks, of the same numbers. -/
structure PS (B : Nat) (W : World) (gp gm gb m mb n : Nat) (a : Nat → Int) : Prop where
  ws : WS B W gp gm m n a
  marks : HasB W gb mb (fun y => ∃ i, i < n ∧ a i = y) n
  ne : gm ≠ gb
  hgb : B ≤ gb
/-- The script, from its loop on. -/
def Rest (w : World) (A1 A2 : Option Addr) (n1 c1 n2 c2 : Nat) (code : Code) (post : Exit → Act → World → Prop) : Prop := True

theorem ws_drew {B : Nat} {W : World} {gp gm m n : Nat} {a : Nat → Int} (h : WS B W gp gm m n a) : WS B W.drew gp gm m n a := ⟨h.st.drew, h.heap, h.inj, h.map, h.rng, h.hgm⟩
theorem push2_in {B : Nat} {w : World} {gp gm m n : Nat} {a : Nat → Int} (h : WS B w gp gm m n a) (x : Int) (hx : InR x) (hn : n < 1000000) (hm : m < 1000000) (hB : B ≤ w.heap.size) (hi : ∃ i, i < n ∧ a i = x) :
    Calls Try.prog 9 #[.pointer (some ⟨gp, 0, none⟩), .int .i64 x] w fun e w' => e = .returned (.bool false) ∧ Below B w w' ∧ Oth gm w w' ∧ WS B w' gp gm m n a :=
  (wPush2 h x hx hn hm hB).mono fun e w' ⟨hb, ho, hh⟩ => by
    rcases hh with ⟨-, h1, h2⟩ | ⟨h1, -⟩
    · exact ⟨h1, hb, ho, h2⟩
    · exact absurd hi h1
theorem push2_new {B : Nat} {w : World} {gp gm m n : Nat} {a : Nat → Int} (h : WS B w gp gm m n a) (x : Int) (hx : InR x) (hn : n < 1000000) (hm : m < 1000000) (hB : B ≤ w.heap.size) (hi : ¬ ∃ i, i < n ∧ a i = x) :
    Calls Try.prog 9 #[.pointer (some ⟨gp, 0, none⟩), .int .i64 x] w fun e w' => e = .returned (.bool true) ∧ Below B w w' ∧ Oth gm w w' ∧ ∃ b, WS B w' gp gm (m + 1) (n + 1) b ∧ ∀ y, (∃ i, i < n + 1 ∧ b i = y) ↔ (y = x ∨ ∃ i, i < n ∧ a i = y) :=
  (wPush2 h x hx hn hm hB).mono fun e w' ⟨hb, ho, hh⟩ => by
    rcases hh with ⟨h1, -⟩ | ⟨-, h1, h2⟩
    · exact absurd h1 hi
    · exact ⟨h1, hb, ho, h2⟩
/-- Behind a Push of x: what is in, and the marks of before. -/
def Pushed (B : Nat) (w wx : World) (gp gm gb m mb k : Nat) (b : Nat → Int) (x : Int) : Prop :=
  ∃ (m' k' : Nat) (b' : Nat → Int), m' ≤ m + 1 ∧ WS B wx gp gm m' k' b' ∧ (∀ y, (∃ q, q < k' ∧ b' q = y) ↔ (y = x ∨ ∃ q, q < k ∧ b q = y)) ∧
    (((∃ q, q < k ∧ b q = x) ∧ k' = k) ∨ ((¬ ∃ q, q < k ∧ b q = x) ∧ k' = k + 1)) ∧ HasB wx gb mb (fun y => ∃ q, q < k ∧ b q = y) k ∧ Below B w wx
theorem pushed_in {B : Nat} {w w3 w4 : World} {gp gm gb m mb k : Nat} {b : Nat → Int} {x : Int} (hin : ∃ q, q < k ∧ b q = x) (hb : HasB w3 gb mb (fun y => ∃ q, q < k ∧ b q = y) k) (ho : Oth gm w3 w4) (hne : gb ≠ gm) (hB3 : Below B w w3) (hB : Below B w3 w4) (ws : WS B w4 gp gm m k b) : Pushed B w w4 gp gm gb m mb k b x :=
  ⟨m, k, b, by omega, ws, fun y => ⟨.inr, fun h => h.elim (fun e => by rw [e]; exact hin) id⟩, .inl ⟨hin, rfl⟩, hb_oth hb ho hne, hB3.trans hB⟩
theorem pushed_new {B : Nat} {w w3 w4 : World} {gp gm gb m mb k : Nat} {b b' : Nat → Int} {x : Int} (hin : ¬ ∃ q, q < k ∧ b q = x) (hb : HasB w3 gb mb (fun y => ∃ q, q < k ∧ b q = y) k) (ho : Oth gm w3 w4) (hne : gb ≠ gm) (hB3 : Below B w w3) (hB : Below B w3 w4) (ws : WS B w4 gp gm (m + 1) (k + 1) b') (hm : ∀ y, (∃ q, q < k + 1 ∧ b' q = y) ↔ (y = x ∨ ∃ q, q < k ∧ b q = y)) : Pushed B w w4 gp gm gb m mb k b x :=
  ⟨m + 1, k + 1, b', by omega, ws, hm, .inr ⟨hin, rfl⟩, hb_oth hb ho hne, hB3.trans hB⟩
/-- Behind a Pop that gave x. -/
def Popped (B : Nat) (w wx : World) (gp gm gb m mb k : Nat) (b : Nat → Int) (x : Int) : Prop :=
  ∃ (k' : Nat) (b' : Nat → Int), WS B wx gp gm m k' b' ∧ (∀ y, (∃ q, q < k' ∧ b' q = y) ↔ (y ≠ x ∧ ∃ q, q < k ∧ b q = y)) ∧
    (((∃ q, q < k ∧ b q = x) ∧ k' = k - 1) ∨ ((¬ ∃ q, q < k ∧ b q = x) ∧ k' = k)) ∧ HasB wx gb mb (fun y => ∃ q, q < k ∧ b q = y) k ∧ (∀ y, (∃ q, q < k ∧ b q = y) → x ≤ y) ∧ InR x ∧ Below B w wx
theorem bool_elem {v : Value} {y : DataW Unit × List MemPlace} (h : plainElem (H := Unit) Try.prog 4 v = some y) : ∃ c, v = .bool c := by
  unfold plainElem at h
  rw [Try.underlying4] at h
  cases v <;> simp at h
  exact ⟨_, rfl⟩
/-- A step of a range over a map of marks. -/
theorem wpList_next_marks {w : World} {ops : Array Oper} {rest : List Oper} {o : Oper} {a : Act} {Q : Exit → Act → World → Prop} (hg : o.guard = none) (it : Operand) (hop : o.op = Op.next it false)
    (b r n : Nat) (D : DataW Unit) (left : Lit → Bool) (cnt : Nat) (hit : a.eval it = .pointer (some ⟨r, 0, none⟩)) (h : w.ranges Try.prog 3 (plainElem Try.prog 4) b r n D left cnt)
    (hDone : wpList Try.prog ops Q rest (a.put o.dst (.tuple #[.bool false])) w)
    (hMore : ∀ (x : Int) (c : Bool) (w' : World) (cnt' : Nat), InR x → left (.int .i64 x) = true → w'.ranges Try.prog 3 (plainElem Try.prog 4) b r n D (fun z => left z && !z.sameKey (.int .i64 x)) cnt' → cnt' < cnt →
      w.grownBy w' (some r) → (Instr.entry (.pointer (some ⟨r, 0, none⟩))).run Try.prog w' = .ok (.tuple #[.int .i64 x, .bool c]) w' → wpList Try.prog ops Q rest (a.put o.dst (.tuple #[.bool true, .int .i64 x, .bool c])) w') :
    wpList Try.prog ops Q (o :: rest) a w :=
  wpList_next_ranges w hg it hop 3 keyed3 (plainElem Try.prog 4) (Value.int .i64) Value.bool (fun key kl hkey => by obtain ⟨x, rfl, _⟩ := Maps.keyOf_int_inv Try.underlying3 hkey; exact ⟨x, rfl⟩) (fun v y hv => bool_elem hv)
    b r n D left cnt hit h (fun _ _ => hDone) (fun x c kl y w' cnt' hkey hlk hv hat hrg hlt hgr hsz hen => by
      obtain ⟨x', ex, rfl, hwx⟩ := Maps.keyOf_int_inv Try.underlying3 hkey
      cases ex
      exact hMore x c w' cnt' (int_bounds' hwx) hlk hrg hlt hgr hen)
theorem marks_has {D : DataW Unit} {S : Int → Prop} {cnt : Nat} (h : Marks D S cnt) {x : Int} (hx : InR x) (hh : has D (.int .i64 x) = true) : S x := by
  by_cases hs : S x
  · exact hs
  · rw [h.no x hx hs] at hh
    cases hh
set_option maxHeartbeats 8000000 in
set_option maxRecDepth 100000 in
theorem plays_calls (w : World) (A : Option Addr) (n c : Nat) (xs : Nat → Int) (hx : Ints w A n xs) (hr : ∀ i, i < n → InR (xs i)) (hn : n ≤ 60) (A2 : Option Addr) (n2 c2 : Nat) (ys : Nat → Int) (hy : Ints w A2 n2 ys) (hry : ∀ i, i < n2 → InR (ys i)) :
    Calls Try.prog 3 #[.slice A n c, .slice A2 n2 c2] w fun e w' => e = .returned (.bool true) ∧ Below w.heap.size w w' := by
  have hx' := Aside0.mk hx
  have hr' := Aside0.mk hr
  have hy' := Aside0.mk hy
  have hry' := Aside0.mk hry
  have P1 := Aside0.mk (new_st w A n c xs hx hr (by omega))
  have hz0 : ¬ (60 : Int) < (n : Int) := by omega
  have mk := fun w => run_makeMap (P := Try.prog) 26 w
  clear hx hr hy hry
  go_enter Try.func3, Try.ntmps3
  go_wp2_with (first
    | (go_at_call 6; (with_reducible refine P1.out.mono ?_); rintro e w1 ⟨gp, gm, m, k, a, rfl, ws1, hb1, hm1, hk1, mem1⟩; have WS1 := Aside0.mk ws1; have HB1 := Aside0.mk hb1; have MEM1 := Aside0.mk mem1; clear ws1 hb1 mem1))
  have gml : gm < w1.heap.size := by
    obtain ⟨D, ho, -⟩ := WS1.out.map
    exact ho.lt
  have W2 : WS w.heap.size (w1.alloc (.map #[] 0)) gp gm m k a := by
    have hg := World.grownBy_alloc w1 (.map #[] 0) none
    refine ⟨?_, WS1.out.heap, WS1.out.inj, hm_keeps WS1.out.map (fun es ck hk => (Below.heap_alloc w1 _ gm gml).trans hk), WS1.out.rng, WS1.out.hgm⟩
    obtain ⟨hB, v, hv, hr⟩ := WS1.out.st
    refine ⟨hB, v, (Below.heap_alloc w1 _ gp (Array.getElem?_eq_some_iff.1 hv).1).trans hv, ?_⟩
    rcases hr with h1 | ⟨g, c, cur, rfl, hg', hc, h2⟩
    · exact .inl h1
    · exact .inr ⟨g, c, cur, rfl, hg', (Below.heap_alloc w1 _ g (Array.getElem?_eq_some_iff.1 hc).1).trans hc, h2⟩
  have W2' := Aside0.mk W2
  have M2 : HasB (w1.alloc (.map #[] 0)) w1.heap.size 0 (fun _ => False) 0 := ⟨_, World.ownsMap_made w1 Try.prog 3 (plainElem Try.prog 4), rfl, fun x _ h => h.elim, fun x _ _ => rfl⟩
  have M2' := Aside0.mk M2
  have B2 : Below w.heap.size w (w1.alloc (.map #[] 0)) := HB1.out.alloc HB1.out.size _
  have B2' := Aside0.mk B2
  clear W2 M2 B2 WS1 P1
  go_loopg [24] n (fun kx s24 wr => ∃ (j cnt : Nat), s24 = .int .i64 j ∧ j ≤ n ∧ n - j ≤ kx ∧ Aside0 (WS w.heap.size wr gp gm m k a) ∧ Aside0 (Below w.heap.size w wr) ∧ Aside0 (HasB wr w1.heap.size j (fun y => ∃ i, i < j ∧ xs i = y) cnt))
  case atStart =>
    refine ⟨0, 0, rfl, by omega, by omega, W2', B2', ⟨?_⟩⟩
    obtain ⟨D, ho, hM⟩ := M2'.out
    exact ⟨D, ho, marks_same hM fun y => ⟨fun h => h.elim, fun ⟨i, h, _⟩ => by omega⟩⟩
  case round =>
    obtain ⟨j, cnt, rfl, hj, hk, HW, HB, HM⟩ := hrel
    clear W2' M2' B2' mk
    by_cases h : j < n
    · have hz : (j : Int) < (n : Int) := by omega
      obtain ⟨ad, rfl, hsp, hlt, hc⟩ := hx'.out j h
      obtain ⟨blk, off, spot⟩ := ad
      simp only at hsp hlt hc
      subst hsp
      have hc' : wr.cell? ⟨blk, off + j, none⟩ = some (.int .i64 (xs j)) := (HB.out.cell (p := ⟨blk, off + j, none⟩) hlt).trans hc
      clear hc
      obtain ⟨D, ho, hM⟩ := HM.out
      have hom := Aside0.mk ho
      have hMx := Aside0.mk hM
      have hkey := Aside0.mk (key_of (hr'.out j h))
      have hval : plainElem (H := Unit) Try.prog 4 (.bool true) = some (zT, []) := plainElem_bool Try.underlying4 true
      clear ho hM
      go_wp2_with (at_mapUpdate; refine wpList_mapUpdate_own _ rfl _ _ _ 26 rfl 3 4 keyed3 Try.underlying26 _ w1.heap.size j D rfl hom.out (by unfold maxLen; omega) _ _ (.int .i64 (xs j)) rfl rfl hkey.out zT [] hval ?_)
      intro w3 ho3 hg3
      have ho3' := Aside0.mk ho3
      have hg3' := Aside0.mk hg3
      clear ho3 hg3
      have W3 := Aside0.mk (ws_grown HW.out hg3'.out (owns_map hom.out) (by omega))
      have B3 : Aside0 (Below w.heap.size w wr) := HB
      go_wp2
      go_roundg (n - (j + 1))
      case measure => omega
      case rel =>
        have same : ∀ y, (y = xs j ∨ ∃ i, i < j ∧ xs i = y) ↔ ∃ i, i < j + 1 ∧ xs i = y := fun y => by
          constructor
          · rintro (rfl | ⟨i, hi, e⟩)
            · exact ⟨j, by omega, rfl⟩
            · exact ⟨i, by omega, e⟩
          · rintro ⟨i, hi, e⟩
            by_cases e2 : i = j
            · exact .inl (by rw [← e, e2])
            · exact .inr ⟨i, by omega, e⟩
        have put := hb_put (hom.out.tidy keyed3) hMx.out (xs j) (hr'.out j h)
        by_cases hin : ∃ i, i < j ∧ xs i = xs j
        · exact ⟨j + 1, cnt, by go_num, by omega, Nat.le_refl _, W3, ⟨HB.out.grown hg3'.out HB.out.size (fun q hq => by injection hq with hq; rw [← hq]; exact HB1.out.size)⟩, ⟨_, ho3'.out, marks_same (put.1 hin) same⟩⟩
        · exact ⟨j + 1, cnt + 1, by go_num, by omega, Nat.le_refl _, W3, ⟨HB.out.grown hg3'.out HB.out.size (fun q hq => by injection hq with hq; rw [← hq]; exact HB1.out.size)⟩, ⟨_, ho3'.out, marks_same (put.2 hin) same⟩⟩
    · have hz : ¬ (j : Int) < (n : Int) := by omega
      have e : j = n := by omega
      subst e
      obtain ⟨D, ho, hM⟩ := HM.out
      have hcnt := marks_card ho hM HW.out.inj (fun y => (MEM1.out y).symm) HW.out.rng
      subst hcnt
      have PS0 : PS w.heap.size wr gp gm w1.heap.size m j cnt a := ⟨HW.out, ⟨D, ho, marks_same hM fun y => (MEM1.out y).symm⟩, by omega, HB1.out.size⟩
      have PS0' := Aside0.mk PS0
      clear PS0 ho hM HW HM
      go_wp2
      have hjn := hn
      generalize hgb : w1.heap.size = gb at PS0'
      clear hx' hr' MEM1 gml
      go_loopg [9] 100 (fun kx s9 wr => ∃ (i m mb k : Nat) (a : Nat → Int), s9 = .int .i64 i ∧ i ≤ 100 ∧ 100 - i ≤ kx ∧ m ≤ 60 + i ∧ mb ≤ 60 + i ∧ k ≤ 60 + i ∧ Aside0 (PS w.heap.size wr gp gm gb m mb k a) ∧ Aside0 (Below w.heap.size w wr))
      case atStart => exact ⟨0, m, j, cnt, a, rfl, by omega, by omega, by omega, by omega, by omega, PS0', HB⟩
      case round =>
        obtain ⟨i, m2, mb, k, b, rfl, hi, hk2, hm2, hmb, hk3, HP, HB2⟩ := hrel
        clear PS0' HB
        by_cases h1 : i < n2
        · have hz1 : (i : Int) < (n2 : Int) := by omega
          by_cases h2 : i < 100
          · have hz2 : (i : Int) < 100 := by omega
            obtain ⟨ad, rfl, hsp, hlt, hc⟩ := hy'.out i h1
            obtain ⟨blk, off, spot⟩ := ad
            simp only at hsp hlt hc
            subst hsp
            have hc' : wr.cell? ⟨blk, off + i, none⟩ = some (.int .i64 (ys i)) := (HB2.out.cell (p := ⟨blk, off + i, none⟩) hlt).trans hc
            clear hc
            obtain ⟨D, ho, hM⟩ := HP.out.marks
            have hom := Aside0.mk ho
            have hMx := Aside0.mk hM
            have L1 := Aside0.mk (wLen_st HP.out.ws)
            clear ho hM
            go_upto_region 18 with (first
              | (go_at_call 7; (with_reducible refine L1.out.mono ?_); rintro e w3 ⟨rfl, rfl⟩)
              | (at_len; refine wpList_len_own _ rfl _ 26 rfl 3 4 Try.underlying26 _ gb mb D rfl hom.out ?_; rw [hMx.out.size]))
            · go_cut [10, 11] (fun s10 s11 wx => ∃ x : Int, s10 = .int .i64 x ∧ s11 = .bool (decide (0 < k)) ∧ (k = 0 → x = 0) ∧ Aside0 (Popped w.heap.size w wx gp gm gb m2 mb k b x) ∧ Aside0 (0 < k → ∃ q, q < k ∧ b q = x))
              case first =>
                cases k with
                | zero =>
                  have P1 := Aside0.mk (wPop_none HP.out.ws)
                  have HH : Popped w.heap.size w w3 gp gm gb m2 mb 0 b 0 := ⟨0, b, HP.out.ws, fun y => ⟨fun ⟨q, hq, _⟩ => by omega, fun ⟨_, q, hq, _⟩ => by omega⟩, .inr ⟨fun ⟨q, hq, _⟩ => by omega, rfl⟩, HP.out.marks, fun y ⟨q, hq, _⟩ => by omega, ⟨by omega, by omega⟩, HB2.out⟩
                  have HH' := Aside0.mk HH
                  clear HH
                  go_wp2_with (first | (go_at_call 8; (with_reducible refine P1.out.mono ?_); rintro e w4 ⟨rfl, rfl⟩))
                  go_meet
                  exact ⟨0, rfl, rfl, fun _ => rfl, HH', ⟨fun h => by omega⟩⟩
                | succ N =>
                  have P1 := Aside0.mk (wPop2 HP.out.ws (by omega) HB2.out.size)
                  go_wp2_with (first | (go_at_call 8; (with_reducible refine P1.out.mono ?_); rintro e w4 ⟨hb4, ho4, rfl, b4, ws4, mem4⟩; have HH' := Aside0.mk (show Popped w.heap.size w w4 gp gm gb m2 mb (N + 1) b (b 0) from ⟨N, b4, ws4, mem4, .inl ⟨⟨0, by omega, rfl⟩, rfl⟩, hb_oth HP.out.marks ho4 HP.out.ne.symm, fun y ⟨q, hq, e⟩ => by rw [← e]; exact heap_min HP.out.ws.heap q hq, HP.out.ws.rng 0 (by omega), HB2.out.trans hb4⟩); clear hb4 ho4 ws4 mem4))
                  go_meet
                  exact ⟨b 0, rfl, rfl, fun h => by omega, HH', ⟨fun _ => ⟨0, by omega, rfl⟩⟩⟩
              case rest =>
                obtain ⟨x, rfl, rfl, hx0, HH, HI⟩ := hcut
                obtain ⟨k', b', ws', mem', hk', ⟨D2, ho2, hM2⟩, hmin, hxr, hBw⟩ := HH.out
                have WS' := Aside0.mk ws'
                have MEM' := Aside0.mk mem'
                have HK' := Aside0.mk hk'
                have HMIN := Aside0.mk hmin
                have HXR := Aside0.mk hxr
                have HBW := Aside0.mk hBw
                have hom2 := Aside0.mk ho2
                have hMx2 := Aside0.mk hM2
                have hne := Aside0.mk HP.out.ne
                have hgB := Aside0.mk HP.out.hgb
                clear ws' mem' hk' hmin hxr hBw ho2 hM2 HH hc' L1 hom hMx HP
                go_upto_region 19 with fail
                go_cut [11, 78] (fun s11 s78 wx => s78 = .bool false ∧ wx = wc)
                case first =>
                  by_cases hk0 : 0 < k
                  · have hd : decide (0 < k) = true := by simp [hk0]
                    rw [hd]
                    have hz : (0 : Int) < (k : Int) := by omega
                    have lk := (hb_look ⟨D2, hom2.out, hMx2.out⟩ HXR.out).1 (HI.out hk0)
                    clear hd
                    go_wp2_with (at_len; refine wpList_len_own _ rfl _ 26 rfl 3 4 Try.underlying26 _ gb mb D2 rfl hom2.out ?_; rw [hMx2.out.size])
                    go_meet
                    exact ⟨rfl, rfl⟩
                  · have hd : decide (0 < k) = false := by simp [hk0]
                    rw [hd]
                    have hz : ¬ (0 : Int) < (k : Int) := by omega
                    obtain rfl : x = 0 := hx0 (by omega)
                    clear hd
                    go_wp2_with (at_len; refine wpList_len_own _ rfl _ 26 rfl 3 4 Try.underlying26 _ gb mb D2 rfl hom2.out ?_; rw [hMx2.out.size])
                    go_meet
                    exact ⟨rfl, rfl⟩
                case rest =>
                  obtain ⟨rfl, rfl⟩ := hcut
                  go_wp2_with (at_range; refine wpList_range_own _ rfl _ 26 rfl 3 4 keyed3 Try.underlying26 _ gb mb D2 rfl hom2.out ?_; intro w0 hrg0 hg0 hs0; have RG0 := Aside0.mk hrg0; have HG0 := Aside0.mk hg0; clear hrg0 hg0 hs0)
                  go_frame
                  go_loopg [12] k (fun kx s12 wr => ∃ (left : Lit → Bool) (cnt : Nat), cnt ≤ kx ∧ Aside0 (wr.ranges Try.prog 3 (plainElem Try.prog 4) gb wc.heap.size mb D2 left cnt) ∧ Aside0 (∀ kl, left kl = true → has D2 kl = true) ∧ Aside0 (wc.grownBy wr none))
                  case atStart => exact ⟨_, _, by rw [hMx2.out.size]; exact Nat.le_refl _, RG0, ⟨fun _ h => h⟩, HG0⟩
                  case round =>
                    obtain ⟨left, cnt, hcnt, HRG, HLF, HGW⟩ := hrel
                    clear RG0 HG0
                    have hkey := Aside0.mk (key_of HXR.out)
                    go_wp2_with (first
                      | (at_next; refine wpList_next_marks rfl _ rfl gb wc.heap.size mb D2 left cnt rfl HRG.out ?_ ?_; rotate_left; intro x2 b2 w2 cnt2 hx2 hl2 hr2 hlt2 hg2 hen2; have hnx : ¬ x2 < x := Int.not_lt.2 (HMIN.out x2 (marks_has hMx2.out hx2 (HLF.out _ hl2))); have HR2 := Aside0.mk hr2; have HG2 := Aside0.mk hg2; clear hx2 hl2 hr2 hg2; rotate_left)
                      | (at_delete; refine wpList_delete_own _ rfl _ _ 26 3 rfl 4 keyed3 Try.underlying26 _ gb mb D2 rfl HRG.out.owns _ (.int .i64 x) rfl hkey.out ?_; intro w6 ho6 ht6; have HO6 := Aside0.mk ho6; have HT6 := Aside0.mk ht6; clear ho6 ht6))
                    · have W6 := Aside0.mk (ws_grown (ws_grown WS'.out (HGW.out.but (some gb)) (owns_map hom2.out) hne.out) HT6.out.grown (owns_map HRG.out.owns) hne.out)
                      have BB : Below w.heap.size w w6 := (HBW.out.grown (HGW.out.but (some gb)) HBW.out.size (fun q hq => by injection hq with hq; rw [← hq]; exact hgB.out)).grown HT6.out.grown (Nat.le_trans HBW.out.size HGW.out.size) (fun q hq => by injection hq with hq; rw [← hq]; exact hgB.out)
                      have BB' := Aside0.mk BB
                      clear BB
                      go_roundg (100 - (i + 1))
                      case measure => omega
                      case rel =>
                        have del := hb_del (hom2.out.tidy keyed3) hMx2.out x HXR.out
                        rcases HK'.out with ⟨hin, rfl⟩ | ⟨hin, rfl⟩
                        · exact ⟨i + 1, m2, mb, _, b', by go_num, by omega, Nat.le_refl _, by omega, by omega, by omega, ⟨⟨W6.out, ⟨_, HO6.out, marks_same (del.1 hin) fun y => (MEM'.out y).symm⟩, hne.out, hgB.out⟩⟩, BB'⟩
                        · exact ⟨i + 1, m2, mb, _, b', by go_num, by omega, Nat.le_refl _, by omega, by omega, by omega, ⟨⟨W6.out, ⟨_, HO6.out, marks_same (del.2 hin) fun y => (MEM'.out y).symm⟩, hne.out, hgB.out⟩⟩, BB'⟩
                    · go_roundg cnt2
                      case measure => omega
                      case rel =>
                        exact ⟨_, cnt2, Nat.le_refl _, HR2, ⟨fun kl h => HLF.out kl (by simp at h; exact h.1)⟩, ⟨HGW.out.andThen HG2.out (fun q hq => by cases hq; exact .inl (Nat.le_refl _))⟩⟩
            · go_cut [102] (fun s102 wx => s102 = .bool false ∧ Aside0 (Pushed w.heap.size w wx gp gm gb m2 mb k b (ys i)))
              case first =>
                have c3 : w3.drew.cell? ⟨blk, off + i, none⟩ = some (.int .i64 (ys i)) := hc'
                have hne := HP.out.ne.symm
                by_cases hin : ∃ q, q < k ∧ b q = ys i
                · have lk := (hb_look (W := w3.drew) HP.out.marks (hry'.out i h1)).1 hin
                  have A3 := Aside0.mk (push2_in (ws_drew HP.out.ws) (ys i) (hry'.out i h1) (by omega) (by omega) HB2.out.size hin)
                  have HIN := Aside0.mk hin
                  clear hin
                  go_region_with (go_at_call 9; (with_reducible refine A3.out.mono ?_); rintro e w4 ⟨rfl, hb4, ho4, ws4⟩; have c4 : w4.cell? ⟨blk, off + i, none⟩ = some (.int .i64 (ys i)) := ((hb4.cell (p := ⟨blk, off + i, none⟩) hlt).trans hc'); have lk4 := (hb_look (hb_oth (W := w3.drew) HP.out.marks ho4 HP.out.ne.symm) (hry'.out i h1)).1 HIN.out; have HH4 := Aside0.mk (pushed_in (w3 := w3.drew) HIN.out HP.out.marks ho4 HP.out.ne.symm (HB2.out.drew) hb4 ws4); clear hb4 ho4 ws4)
                  all_goals (go_wp2_with fail; go_meet; exact ⟨rfl, HH4⟩)
                · have lk := (hb_look (W := w3.drew) HP.out.marks (hry'.out i h1)).2 hin
                  have A3 := Aside0.mk (push2_new (ws_drew HP.out.ws) (ys i) (hry'.out i h1) (by omega) (by omega) HB2.out.size hin)
                  have HIN := Aside0.mk hin
                  clear hin
                  go_region_with (go_at_call 9; (with_reducible refine A3.out.mono ?_); rintro e w4 ⟨rfl, hb4, ho4, b4, ws4, mem4⟩; have c4 : w4.cell? ⟨blk, off + i, none⟩ = some (.int .i64 (ys i)) := ((hb4.cell (p := ⟨blk, off + i, none⟩) hlt).trans hc'); have lk4 := (hb_look (hb_oth (W := w3.drew) HP.out.marks ho4 HP.out.ne.symm) (hry'.out i h1)).2 HIN.out; have HH4 := Aside0.mk (pushed_new (w3 := w3.drew) HIN.out HP.out.marks ho4 HP.out.ne.symm (HB2.out.drew) hb4 ws4 mem4); clear hb4 ho4 ws4 mem4)
                  all_goals (go_wp2_with fail; go_meet; exact ⟨rfl, HH4⟩)
              case rest =>
                obtain ⟨rfl, HA⟩ := hcut
                obtain ⟨m', k', b', hm', ws', mem', hk', ⟨D2, ho2, hM2⟩, hBw⟩ := HA.out
                have WS' := Aside0.mk ws'
                have MEM' := Aside0.mk mem'
                have HK' := Aside0.mk hk'
                have HBW := Aside0.mk hBw
                have hom2 := Aside0.mk ho2
                have hMx2 := Aside0.mk hM2
                have cc : wc.cell? ⟨blk, off + i, none⟩ = some (.int .i64 (ys i)) := (hBw.cell (p := ⟨blk, off + i, none⟩) hlt).trans ((HB2.out.cell (p := ⟨blk, off + i, none⟩) hlt).symm.trans hc')
                have hkey := Aside0.mk (key_of (hry'.out i h1))
                have hval : plainElem (H := Unit) Try.prog 4 (.bool true) = some (zT, []) := plainElem_bool Try.underlying4 true
                have hne := Aside0.mk HP.out.ne
                have hgB := Aside0.mk HP.out.hgb
                clear ws' mem' hk' hBw ho2 hM2 HA hc' L1 hom hMx HP
                go_wp2_with (at_mapUpdate; refine wpList_mapUpdate_own _ rfl _ _ _ 26 rfl 3 4 keyed3 Try.underlying26 _ gb mb D2 rfl hom2.out (by unfold maxLen; omega) _ _ (.int .i64 (ys i)) rfl rfl hkey.out zT [] hval ?_)
                intro w5 ho5 hg5
                have ho5' := Aside0.mk ho5
                have hg5' := Aside0.mk hg5
                clear ho5 hg5
                have W5 := Aside0.mk (ws_grown WS'.out hg5'.out (owns_map hom2.out) hne.out)
                go_wp2
                go_roundg (100 - (i + 1))
                case measure => omega
                case rel =>
                  have put := hb_put (hom2.out.tidy keyed3) hMx2.out (ys i) (hry'.out i h1)
                  have BB : Below w.heap.size w w5 := HBW.out.grown hg5'.out HBW.out.size (fun q hq => by injection hq with hq; rw [← hq]; exact hgB.out)
                  rcases HK'.out with ⟨hin, rfl⟩ | ⟨hin, rfl⟩
                  · exact ⟨i + 1, m', mb + 1, _, b', by go_num, by omega, Nat.le_refl _, by omega, by omega, by omega, ⟨⟨W5.out, ⟨_, ho5'.out, marks_same (put.1 hin) fun y => (MEM'.out y).symm⟩, hne.out, hgB.out⟩⟩, ⟨BB⟩⟩
                  · exact ⟨i + 1, m', mb + 1, _, b', by go_num, by omega, Nat.le_refl _, by omega, by omega, by omega, ⟨⟨W5.out, ⟨_, ho5'.out, marks_same (put.2 hin) fun y => (MEM'.out y).symm⟩, hne.out, hgB.out⟩⟩, ⟨BB⟩⟩
          · have hz2 : ¬ (i : Int) < 100 := by omega
            obtain ⟨D, ho, hM⟩ := HP.out.marks
            have hom := Aside0.mk ho
            have hMx := Aside0.mk hM
            have L1 := Aside0.mk (wLen_st HP.out.ws)
            have L2 := Aside0.mk (awake_st wr)
            clear ho hM
            go_wp2_with (first
              | (go_at_call 7; (with_reducible refine L1.out.mono ?_); rintro e w3 ⟨rfl, rfl⟩)
              | (at_len; refine wpList_len_own _ rfl _ 26 rfl 3 4 Try.underlying26 _ gb mb D rfl hom.out ?_; rw [hMx.out.size])
              | (go_at_call 5; (with_reducible refine L2.out.mono ?_); rintro e w3 ⟨rfl, hb3⟩; have HB3 := Aside0.mk hb3; clear hb3))
            (try simp only [Exit.inBlock, Exit.then])
            go_ret
            exact ⟨rfl, HB2.out.trans (HB3.out.mono HB2.out.size)⟩
        · have hz1 : ¬ (i : Int) < (n2 : Int) := by omega
          obtain ⟨D, ho, hM⟩ := HP.out.marks
          have hom := Aside0.mk ho
          have hMx := Aside0.mk hM
          have L1 := Aside0.mk (wLen_st HP.out.ws)
          have L2 := Aside0.mk (awake_st wr)
          clear ho hM
          go_wp2_with (first
            | (go_at_call 7; (with_reducible refine L1.out.mono ?_); rintro e w3 ⟨rfl, rfl⟩)
            | (at_len; refine wpList_len_own _ rfl _ 26 rfl 3 4 Try.underlying26 _ gb mb D rfl hom.out ?_; rw [hMx.out.size])
            | (go_at_call 5; (with_reducible refine L2.out.mono ?_); rintro e w3 ⟨rfl, hb3⟩; have HB3 := Aside0.mk hb3; clear hb3))
          (try simp only [Exit.inBlock, Exit.then])
          go_ret
          exact ⟨rfl, HB2.out.trans (HB3.out.mono HB2.out.size)⟩
end Go.Proofs.Ytpanndfhgpbahaa
