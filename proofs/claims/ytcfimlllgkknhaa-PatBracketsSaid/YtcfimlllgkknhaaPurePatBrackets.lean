import Derived.Test.YtcfimlllgkknhaaPPatBracketsx8
/-
A row in brackets takes its own bytes and a range's bytes.
-/
namespace Go.Proofs.Ytcfimlllgkknhaa.Pure
open Go.RowKit Go.Proofs.Ytcfimlllgkknhaa.PPatBrackets Go.Proofs.YtcfimlllgkknhaaW.PrintWords Go.Proofs.YtcfimlllgkknhaaW.PrintLast

theorem w1 : wrap64 1 = 1 := by kernel_rfl
theorem w2 : wrap64 2 = 2 := by kernel_rfl
theorem w3 : wrap64 3 = 3 := by kernel_rfl
theorem w4 : wrap64 4 = 4 := by kernel_rfl
theorem w5 : wrap64 5 = 5 := by kernel_rfl
theorem w6 : wrap64 6 = 6 := by kernel_rfl
theorem w7 : wrap64 7 = 7 := by kernel_rfl
theorem sz (m l h : UInt8) : (ByteArray.mk #[m, l, 45, h]).size = 4 := rfl

theorem has_row (k : Nat) (kind d : Int) (m l h c : UInt8) (no lit : Bool) (hl : l ≠ 45) :
    pat_item_has.f (k + 20) kind d ⟨#[m, l, 45, h]⟩ [true, true, true, true] no lit (c.toNat : Int) = some (decide (m.toNat = c.toNat) || (decide (l.toNat ≤ c.toNat) && decide (c.toNat ≤ h.toNat))) := by
  have hl' : ¬ (l.toNat : Int) = 45 := fun e => hl (UInt8.toNat_inj.mp (Int.ofNat.inj e))
  have b1 : bt ⟨#[m, l, 45, h]⟩ 1 = l.toNat := by kernel_rfl
  have b0 : bt ⟨#[m, l, 45, h]⟩ 0 = m.toNat := by kernel_rfl
  have b2 : bt ⟨#[m, l, 45, h]⟩ 2 = 45 := by kernel_rfl
  have b3 : bt ⟨#[m, l, 45, h]⟩ 3 = h.toNat := by kernel_rfl
  have r2 : rdOf false [true, true, true, true] 2 = true := by kernel_rfl
  unfold pat_item_has.f
  by_cases e1 : m.toNat = c.toNat
  · simp [pat_item_has.l0, pat_item_has.j1, w1, w2, sz, b1, hl', b0, e1]
  · have e1' : ¬ (m.toNat : Int) = c.toNat := fun e => e1 (Int.ofNat.inj e)
    by_cases e2 : l.toNat ≤ c.toNat
    · by_cases e3 : c.toNat ≤ h.toNat
      · simp [pat_item_has.l0, pat_item_has.j1, pat_item_has.j2, w1, w2, w3, sz, b1, hl', b0, b2, b3, r2, e1, e1', e2, e3]
      · simp [pat_item_has.l0, pat_item_has.j1, pat_item_has.j2, w1, w2, w3, w4, sz, b1, hl', b0, b2, b3, r2, e1, e1', e2, e3]
    · simp [pat_item_has.l0, pat_item_has.j1, pat_item_has.j2, w1, w2, w3, w4, sz, b1, hl', b0, b2, r2, e1, e1', e2]

/-- What a row says of a byte. -/
def inn (m l h c : UInt8) : Bool := decide (m.toNat = c.toNat) || (decide (l.toNat ≤ c.toNat) && decide (c.toNat ≤ h.toNat))

theorem one_row (k : Nat) (d : Int) (m l h c : UInt8) (no lit : Bool) (hl : l ≠ 45) :
    pat_item_one.f (k + 21) 91 d ⟨#[m, l, 45, h]⟩ [true, true, true, true] no lit (c.toNat : Int) = some (inn m l h c != no) := by
  have := has_row k 91 d m l h c no lit hl
  simp [pat_item_one.f, pat_item_one.j0, this, inn]

/-- The step that a row is. -/
def st (m l h : UInt8) (no : Bool) : S42 := ⟨91, 0, ⟨#[m, l, 45, h]⟩, [true, true, true, true], no, false⟩

theorem live_f (s : ByteArray) (n : Nat) (i : Int) (h0 : 0 ≤ i) (h1 : i < n) : pat_live.f s (List.replicate n true) i = some true := by
  unfold pat_live.f
  have e : i.toNat < n := by omega
  simp [h0, h1, rdOf, List.getD, e]

theorem set_p (k : Nat) (m l h : UInt8) (hm : m ≠ 33) (hl : l ≠ 93) (hh : h ≠ 93) :
    pat_set.f (k + 20) ⟨#[91, m, l, 45, h, 93]⟩ [true, true, true, true, true, true] 0 = some (91, 0, ⟨#[m, l, 45, h]⟩, [true, true, true, true], false, false, 6) := by
  have hm' : ¬ (m.toNat : Int) = 33 := fun e => hm (UInt8.toNat_inj.mp (Int.ofNat.inj e))
  have hl' : ¬ (l.toNat : Int) = 93 := fun e => hl (UInt8.toNat_inj.mp (Int.ofNat.inj e))
  have hh' : ¬ (h.toNat : Int) = 93 := fun e => hh (UInt8.toNat_inj.mp (Int.ofNat.inj e))
  have b1 : bt ⟨#[91, m, l, 45, h, 93]⟩ 1 = m.toNat := by kernel_rfl
  have b2 : bt ⟨#[91, m, l, 45, h, 93]⟩ 2 = l.toNat := by kernel_rfl
  have b3 : bt ⟨#[91, m, l, 45, h, 93]⟩ 3 = 45 := by kernel_rfl
  have b4 : bt ⟨#[91, m, l, 45, h, 93]⟩ 4 = h.toNat := by kernel_rfl
  have b5 : bt ⟨#[91, m, l, 45, h, 93]⟩ 5 = 93 := by kernel_rfl
  have sz6 : (ByteArray.mk #[91, m, l, 45, h, 93]).size = 6 := rfl
  have ex : (ByteArray.mk #[91, m, l, 45, h, 93]).extract 1 5 = ⟨#[m, l, 45, h]⟩ := by kernel_rfl
  have lv := live_f ⟨#[91, m, l, 45, h, 93]⟩ 6
  rw [show List.replicate 6 true = [true, true, true, true, true, true] from rfl] at lv
  have l1 := lv 1 (by decide) (by decide)
  have l2 := lv 2 (by decide) (by decide)
  have l3 := lv 3 (by decide) (by decide)
  have l4 := lv 4 (by decide) (by decide)
  have l5 := lv 5 (by decide) (by decide)
  simp [pat_set.f, pat_set.j0, pat_set.j1, pat_set.l0, pat_set.j3, pat_set.l1, w1, w2, w3, w4, w5, w6, sz6, b1, b2, b3, b4, b5, hm', hl', hh', ex, l1, l2, l3, l4, l5]

theorem set_q (k : Nat) (m l h : UInt8) (hl : l ≠ 93) (hh : h ≠ 93) :
    pat_set.f (k + 20) ⟨#[91, 33, m, l, 45, h, 93]⟩ [true, true, true, true, true, true, true] 0 = some (91, 0, ⟨#[m, l, 45, h]⟩, [true, true, true, true], true, false, 7) := by
  have hl' : ¬ (l.toNat : Int) = 93 := fun e => hl (UInt8.toNat_inj.mp (Int.ofNat.inj e))
  have hh' : ¬ (h.toNat : Int) = 93 := fun e => hh (UInt8.toNat_inj.mp (Int.ofNat.inj e))
  have b1 : bt ⟨#[91, 33, m, l, 45, h, 93]⟩ 1 = 33 := by kernel_rfl
  have b3 : bt ⟨#[91, 33, m, l, 45, h, 93]⟩ 3 = l.toNat := by kernel_rfl
  have b4 : bt ⟨#[91, 33, m, l, 45, h, 93]⟩ 4 = 45 := by kernel_rfl
  have b5 : bt ⟨#[91, 33, m, l, 45, h, 93]⟩ 5 = h.toNat := by kernel_rfl
  have b6 : bt ⟨#[91, 33, m, l, 45, h, 93]⟩ 6 = 93 := by kernel_rfl
  have sz7 : (ByteArray.mk #[91, 33, m, l, 45, h, 93]).size = 7 := rfl
  have ex : (ByteArray.mk #[91, 33, m, l, 45, h, 93]).extract 2 6 = ⟨#[m, l, 45, h]⟩ := by kernel_rfl
  have lv := live_f ⟨#[91, 33, m, l, 45, h, 93]⟩ 7
  rw [show List.replicate 7 true = [true, true, true, true, true, true, true] from rfl] at lv
  have l1 := lv 1 (by decide) (by decide)
  have l2 := lv 2 (by decide) (by decide)
  have l3 := lv 3 (by decide) (by decide)
  have l4 := lv 4 (by decide) (by decide)
  have l5 := lv 5 (by decide) (by decide)
  have l6 := lv 6 (by decide) (by decide)
  simp [pat_set.f, pat_set.j0, pat_set.j1, pat_set.l0, pat_set.j3, pat_set.l1, w1, w2, w3, w4, w5, w6, w7, sz7, b1, b3, b4, b5, b6, hl', hh', ex, l1, l2, l3, l4, l5, l6]

theorem items_p (k : Nat) (m l h : UInt8) (hm : m ≠ 33) (hl : l ≠ 93) (hh : h ≠ 93) :
    pat_items.f (k + 30) ⟨#[91, m, l, 45, h, 93]⟩ [true, true, true, true, true, true] = some [st m l h false] := by
  have b0 : bt ⟨#[91, m, l, 45, h, 93]⟩ 0 = 91 := by kernel_rfl
  have sz6 : (ByteArray.mk #[91, m, l, 45, h, 93]).size = 6 := rfl
  have lv := live_f ⟨#[91, m, l, 45, h, 93]⟩ 6 0 (by decide) (by decide)
  rw [show List.replicate 6 true = [true, true, true, true, true, true] from rfl] at lv
  have hs := fun k => set_p k m l h hm hl hh
  rw [pat_items.f, pat_items.l0]
  simp [sz6, b0, lv]
  rw [pat_items.j1]
  simp [hs, w6]
  rw [pat_items.l0]
  simp [sz6, st]

theorem items_q (k : Nat) (m l h : UInt8) (hl : l ≠ 93) (hh : h ≠ 93) :
    pat_items.f (k + 30) ⟨#[91, 33, m, l, 45, h, 93]⟩ [true, true, true, true, true, true, true] = some [st m l h true] := by
  have b0 : bt ⟨#[91, 33, m, l, 45, h, 93]⟩ 0 = 91 := by kernel_rfl
  have sz7 : (ByteArray.mk #[91, 33, m, l, 45, h, 93]).size = 7 := rfl
  have lv := live_f ⟨#[91, 33, m, l, 45, h, 93]⟩ 7 0 (by decide) (by decide)
  rw [show List.replicate 7 true = [true, true, true, true, true, true, true] from rfl] at lv
  have hs := fun k => set_q k m l h hl hh
  rw [pat_items.f, pat_items.l0]
  simp [sz7, b0, lv]
  rw [pat_items.j1]
  simp [hs, w7]
  rw [pat_items.l0]
  simp [sz7, st]

theorem rd_st (x : S42) : rd_T42 [x] 0 = x := rfl

theorem active_st (k : Nat) (m l h : UInt8) (no : Bool) : pat_Active.l0 (k + 1) [st m l h no] ([st m l h no].length : Int) 0 = some true := by
  rw [pat_Active.l0, rd_st]
  simp [st]

theorem matched_none (k : Nat) (m l h : UInt8) (no : Bool) : pat_matched.f (k + 30) [st m l h no] ⟨#[]⟩ = some false := by
  have sz0 : (ByteArray.mk #[]).size = 0 := rfl
  rw [pat_matched.f]
  simp [w1, sz0]
  rw [pat_matched.l0]
  simp [w1, sz0, rd_st, st]
  rw [pat_matched.l1]
  simp [w1, sz0, rdOf]
  rw [pat_matched.l1]
  simp [w1]
  rw [pat_matched.l0]
  simp [sz0, rdOf]

theorem matched_one (k : Nat) (m l h c : UInt8) (no : Bool) (hl : l ≠ 45) : pat_matched.f (k + 40) [st m l h no] ⟨#[c]⟩ = some (inn m l h c != no) := by
  have sz1 : (ByteArray.mk #[c]).size = 1 := rfl
  have bc : bt ⟨#[c]⟩ 0 = c.toNat := by kernel_rfl
  have ho := fun k => one_row k 0 m l h c no false hl
  generalize (inn m l h c != no) = b at ho ⊢
  rw [pat_matched.f]
  simp [w2, sz1]
  rw [pat_matched.l0]
  simp [w2, sz1, rd_st, st]
  rw [pat_matched.l1]
  simp [w1, sz1, rdOf, bc, ho]
  cases b
  · simp
    rw [pat_matched.l1]
    simp [rdOf, w2]
    rw [pat_matched.l1]
    simp [w1]
    rw [pat_matched.l0]
    simp [sz1, rdOf]
  · simp
    rw [pat_matched.l1]
    simp [rdOf, w2]
    rw [pat_matched.l1]
    simp [w1]
    rw [pat_matched.l0]
    simp [sz1, rdOf]

theorem matched_two (k : Nat) (m l h c : UInt8) (no : Bool) (hl : l ≠ 45) : pat_matched.f (k + 40) [st m l h no] ⟨#[c, c]⟩ = some false := by
  have sz2 : (ByteArray.mk #[c, c]).size = 2 := rfl
  have bc : bt ⟨#[c, c]⟩ 0 = c.toNat := by kernel_rfl
  have ho := fun k => one_row k 0 m l h c no false hl
  generalize (inn m l h c != no) = b at ho
  rw [pat_matched.f]
  simp [w3, sz2]
  rw [pat_matched.l0]
  simp [w3, sz2, rd_st, st]
  rw [pat_matched.l1]
  simp [w1, sz2, rdOf, bc, ho]
  cases b
  · simp
    rw [pat_matched.l1]
    simp [rdOf, w2]
    rw [pat_matched.l1]
    simp [rdOf, w3]
    rw [pat_matched.l1]
    simp [w1]
    rw [pat_matched.l0]
    simp [sz2, rdOf]
  · simp
    rw [pat_matched.l1]
    simp [rdOf, w2]
    rw [pat_matched.l1]
    simp [rdOf, w3]
    rw [pat_matched.l1]
    simp [w1]
    rw [pat_matched.l0]
    simp [sz2, rdOf]

theorem raw_p (k : Nat) (m l h : UInt8) : pat_Raw.f (k + 20) ⟨#[91, m, l, 45, h, 93]⟩ = some (⟨#[91, m, l, 45, h, 93]⟩, [true, true, true, true, true, true]) := by
  have sz6 : (ByteArray.mk #[91, m, l, 45, h, 93]).size = 6 := rfl
  simp [pat_Raw.f, pat_Raw.l0, sz6, w1, w2, w3, w4, w5, w6]

theorem raw_q (k : Nat) (m l h : UInt8) : pat_Raw.f (k + 20) ⟨#[91, 33, m, l, 45, h, 93]⟩ = some (⟨#[91, 33, m, l, 45, h, 93]⟩, [true, true, true, true, true, true, true]) := by
  have sz7 : (ByteArray.mk #[91, 33, m, l, 45, h, 93]).size = 7 := rfl
  simp [pat_Raw.f, pat_Raw.l0, sz7, w1, w2, w3, w4, w5, w6, w7]

theorem awake_f : conchlaw6_awake.f 60 = some true := by kernel_rfl

theorem awake_k (k : Nat) : conchlaw6_awake.f (60 + k) = some true := by
  induction k with
  | zero => exact awake_f
  | succ k ih => exact conchlaw6_awake.mono (60 + k) true ih

theorem u8_of (a : Int) (h : (Lit.int .u8 a).wf = true) : ∃ x : UInt8, a = (x.toNat : Int) := by
  have hb : IntKind.u8.min ≤ a ∧ a ≤ IntKind.u8.max := by simpa [Lit.wf] using h
  rw [show IntKind.u8.min = 0 from by kernel_rfl, show IntKind.u8.max = 255 from by kernel_rfl] at hb
  refine ⟨UInt8.ofNat a.toNat, ?_⟩
  have : a.toNat < 256 := by omega
  rw [UInt8.toNat_ofNat_of_lt' this]
  omega

theorem nums4 (m l h : UInt8) : strOfNums [(m.toNat : Int), (l.toNat : Int), 45, (h.toNat : Int)] = ⟨#[m, l, 45, h]⟩ := by
  simp [strOfNums]
theorem nums1 (c : UInt8) : strOfNums [(c.toNat : Int)] = ⟨#[c]⟩ := by
  simp [strOfNums]

theorem brackets (m l h c : UInt8) (hm : m ≠ 33) (hl : l ≠ 93) (hl' : l ≠ 45) (hh : h ≠ 93) :
    conchlaw6_PatBrackets.j1 100 c.toNat ⟨#[m, l, 45, h]⟩ (inn m l h c) = some true := by
  rw [conchlaw6_PatBrackets.j1]
  have sz4 := sz m l h
  have e1 : (⟨#[91]⟩ : ByteArray) ++ ⟨#[m, l, 45, h]⟩ = ⟨#[91, m, l, 45, h]⟩ := by kernel_rfl
  have e2 : (⟨#[91, m, l, 45, h]⟩ : ByteArray) ++ ⟨#[93]⟩ = ⟨#[91, m, l, 45, h, 93]⟩ := by kernel_rfl
  have e3 : (⟨#[91, 33]⟩ : ByteArray) ++ ⟨#[m, l, 45, h]⟩ = ⟨#[91, 33, m, l, 45, h]⟩ := by kernel_rfl
  have e4 : (⟨#[91, 33, m, l, 45, h]⟩ : ByteArray) ++ ⟨#[93]⟩ = ⟨#[91, 33, m, l, 45, h, 93]⟩ := by kernel_rfl
  have e5 : (⟨#[c]⟩ : ByteArray) ++ ⟨#[c]⟩ = ⟨#[c, c]⟩ := by kernel_rfl
  have s1 : (ByteArray.mk #[91, m, l, 45, h]).size = 5 := rfl
  have s2 : (ByteArray.mk #[91, 33, m, l, 45, h]).size = 6 := rfl
  have s3 : (ByteArray.mk #[c]).size = 1 := rfl
  have m1 : pat_Match.f 99 ⟨#[91, m, l, 45, h, 93]⟩ [true, true, true, true, true, true] ⟨#[c]⟩ = some (inn m l h c) := by
    rw [pat_Match.f, items_p 69 m l h hm hl hh, Option.bind_some, matched_one 59 m l h c false hl']
    simp
  have m2 : pat_Match.f 99 ⟨#[91, 33, m, l, 45, h, 93]⟩ [true, true, true, true, true, true, true] ⟨#[c]⟩ = some (!inn m l h c) := by
    rw [pat_Match.f, items_q 69 m l h hl hh, Option.bind_some, matched_one 59 m l h c true hl']
    simp
  have m3 : pat_Match.f 99 ⟨#[91, m, l, 45, h, 93]⟩ [true, true, true, true, true, true] ⟨#[c, c]⟩ = some false := by
    rw [pat_Match.f, items_p 69 m l h hm hl hh, Option.bind_some, matched_two 59 m l h c false hl']
    simp
  have m4 : pat_Match.f 99 ⟨#[91, 33, m, l, 45, h, 93]⟩ [true, true, true, true, true, true, true] ⟨#[]⟩ = some false := by
    rw [pat_Match.f, items_q 69 m l h hl hh, Option.bind_some, matched_none 69 m l h true]
    simp
  have a1 : pat_Active.f 99 ⟨#[91, m, l, 45, h, 93]⟩ [true, true, true, true, true, true] = some true := by
    rw [pat_Active.f, items_p 69 m l h hm hl hh, Option.bind_some, active_st]
  have a2 : pat_Active.f 99 ⟨#[91, 33, m, l, 45, h, 93]⟩ [true, true, true, true, true, true, true] = some true := by
    rw [pat_Active.f, items_q 69 m l h hl hh, Option.bind_some, active_st]
  have aw : conchlaw6_awake.f 99 = some true := awake_k 39
  have rp := raw_p 79 m l h
  have rq := raw_q 79 m l h
  simp [sz4, e1, e2, e3, e4, e5, s1, s2, s3, nums1, m1, m2, m3, m4, a1, a2, aw, rp, rq]

theorem PatBrackets : conchlaw6_PatBrackets.Pure := by
  intro a0 a1 a2 a3 h0 h1 h2 h3
  obtain ⟨l, rfl⟩ := u8_of a0 h0
  obtain ⟨h, rfl⟩ := u8_of a1 h1
  obtain ⟨m, rfl⟩ := u8_of a2 h2
  obtain ⟨c, rfl⟩ := u8_of a3 h3
  refine ⟨101, ?_⟩
  have aw : conchlaw6_awake.f 100 = some true := awake_k 40
  have ne : ∀ (x : UInt8) (n : Nat), n < 256 → ¬ ((x.toNat : Int) = (n : Int)) → x ≠ UInt8.ofNat n := by
    intro x n hn hx e
    apply hx
    rw [e, UInt8.toNat_ofNat_of_lt' hn]
  rw [conchlaw6_PatBrackets.f]
  have hj : ∀ b, conchlaw6_PatBrackets.j0 101 l.toNat h.toNat m.toNat c.toNat true = some b → b = true := by
    intro b hb
    rw [conchlaw6_PatBrackets.j0, if_pos rfl, aw] at hb
    simpa using hb.symm
  have hj1 : conchlaw6_PatBrackets.j0 101 l.toNat h.toNat m.toNat c.toNat true = some true := by
    rw [conchlaw6_PatBrackets.j0, if_pos rfl, aw]
    rfl
  by_cases q1 : (m.toNat : Int) = 33
  · rw [if_pos q1, hj1]
  rw [if_neg q1]
  by_cases q2 : (m.toNat : Int) = 93
  · rw [if_pos q2, hj1]
  rw [if_neg q2]
  by_cases q3 : (m.toNat : Int) = 45
  · rw [if_pos q3, hj1]
  rw [if_neg q3]
  by_cases q4 : (l.toNat : Int) = 33
  · rw [if_pos q4, hj1]
  rw [if_neg q4]
  by_cases q5 : (l.toNat : Int) = 93
  · rw [if_pos q5, hj1]
  rw [if_neg q5]
  by_cases q6 : (l.toNat : Int) = 45
  · rw [if_pos q6, hj1]
  rw [if_neg q6]
  by_cases q7 : (h.toNat : Int) = 93
  · rw [q7]
    rw [q7] at hj1
    exact hj1
  · have e7 : ((h.toNat : Int) == 93) = false := by simpa using q7
    rw [e7, conchlaw6_PatBrackets.j0, if_neg (by simp), Option.bind_some, nums4]
    have hb := brackets m l h c (ne m 33 (by decide) q1) (ne l 93 (by decide) q5) (ne l 45 (by decide) q6) (ne h 93 (by decide) q7)
    by_cases c1 : (c.toNat : Int) = m.toNat
    · rw [if_pos c1]
      have : inn m l h c = true := by simp [inn, Int.ofNat.inj c1.symm]
      rw [this] at hb
      exact hb
    · rw [if_neg c1]
      have c1' : ¬ m.toNat = c.toNat := fun e => c1 (by rw [e])
      by_cases c2 : (c.toNat : Int) ≥ l.toNat
      · rw [if_pos c2]
        have c2' : l.toNat ≤ c.toNat := by omega
        have : inn m l h c = decide ((c.toNat : Int) ≤ h.toNat) := by simp [inn, c1', c2']
        rw [this] at hb
        exact hb
      · rw [if_neg c2]
        have c2' : ¬ l.toNat ≤ c.toNat := by omega
        have : inn m l h c = false := by simp [inn, c1', c2']
        rw [this] at hb
        exact hb

end Go.Proofs.Ytcfimlllgkknhaa.Pure
