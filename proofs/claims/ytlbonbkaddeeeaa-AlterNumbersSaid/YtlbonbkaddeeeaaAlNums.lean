/-
  The law AlterNumbers walked: each number's digits may be what a number may be; by the usual bytes it never splits, and is no pattern; where digits part fields it may.
-/
import Derived.Test.YtlbonbkaddeeeaaDig
import Derived.Test.YtlbonbkaddeeeaaShLits
set_option linter.unusedSimpArgs false
set_option linter.unusedVariables false
namespace Go.Proofs.Ytlbonbkaddeeeaa
open Go.RowKit Go.Eng Go.Conch Go.Ev

theorem num_ok : Ok numS := by
  refine ⟨by decide +kernel, fun h => ?_, fun _ => rfl⟩
  have : numS.k = false := by decide +kernel
  rw [this] at h; cases h
theorem num_dig : ∀ c ∈ bs digT, numS.has.mem c.toNat = true := by decide +kernel
theorem num_may {s : ByteArray} (h : s ≠ tz) (hs : ∀ c ∈ bs s, c ∈ bs digT ∨ c = 45) : numS.may true s = true := by
  rw [may_some (by decide +kernel) h]
  refine ofBytes_sub.2 fun c hc => ?_
  rcases hs c hc with h1 | h1
  · exact num_dig c h1
  · rw [h1]; decide +kernel
theorem one_text (n : Nat) (hn : n < 256) (W : World) (g : Nat) (hg : W.heap[g]? = some (.cells [Value.int .u8 (n : Int)].toArray 5 (0, 0))) :
    (convert 49 9 (.slice (some ⟨g, 0, none⟩) 1 1)).run Try.prog W = .ok (.string ⟨[UInt8.ofNat n].toArray⟩) W := by
  have hs : Try.prog.underlying 49 = some (.slice 5) := by kernel_rfl
  refine own_text (n := 1) (base := 0) (l := [UInt8.ofNat n]) hs Try.underlying5 Try.underlying9 ⟨rfl, .inr ⟨g, 1, #[.int .u8 (n : Int)], rfl, Nat.zero_le _, hg, Nat.le_refl _, by unfold maxLen; omega, rfl, ?_⟩⟩
  have e9 : (UInt8.ofNat n).toNat = n := by simp; omega
  simp [e9]
def OT {w : World} (n : Nat) (hn : n < 256) : TI w := .conv 49 9 [.int .u8 (n : Int)] 5 0 1 1 (.string ⟨[UInt8.ofNat n].toArray⟩) (fun W g hg => one_text n hn W g hg)

theorem wrap_u8 (x : Int) (y : Nat) (h : x = (y : Int)) (hy : y < 256) : IntKind.u8.wrap x = (y : Int) := by
  rw [h]
  simp only [IntKind.wrap_u8]
  omega

def blT : ByteArray := ⟨#[32, 9, 10]⟩
set_option maxRecDepth 100000 in
theorem alternumbers_pure (n : Int) (h1 : -9223372036854775808 ≤ n) (h2 : n ≤ 9223372036854775807) (d : Int) (d1 : 0 ≤ d) (d2 : d ≤ 255) : Pure Try.prog 9 #[.int .i64 n, .int .u8 d] (.bool true) := by
  obtain ⟨s, ps, s1, s2, s3⟩ := digits_pure n h1 h2
  obtain ⟨d, rfl⟩ : ∃ k : Nat, d = (k : Int) := ⟨d.toNat, by omega⟩
  have hk : 48 + d % 10 < 256 := by omega
  have hb : (UInt8.ofNat (48 + d % 10)).toNat = 48 + d % 10 := by simp; omega
  have hin : UInt8.ofNat (48 + d % 10) ∈ bs digT := by
    have e : ∀ k : Fin 10, UInt8.ofNat (48 + k.val) ∈ bs digT := by decide +kernel
    exact e ⟨d % 10, by omega⟩
  have e16 : numS.may true s = true := num_may s1 s3
  have e19 : numS.may true tz = false := by decide +kernel
  have e24 : numS.may false tz = false := by decide +kernel
  have e30 : splitS numS (litS blT) = false := by decide +kernel
  have hc0 : (ofBytes (bs (⟨[UInt8.ofNat (48 + d % 10)].toArray⟩ : ByteArray))).mem 0 = false := by
    rw [mem_ofBytes _ _ (by omega), decide_eq_false_iff_not]
    rintro ⟨b, h3, h4⟩
    have : b = UInt8.ofNat (48 + d % 10) := by simpa using h3
    rw [this, hb] at h4; omega
  have e37 : splitS numS (litS ⟨[UInt8.ofNat (48 + d % 10)].toArray⟩) = true :=
    sound_split num_ok (ok_lit _) (v := ⟨[UInt8.ofNat (48 + d % 10)].toArray⟩) (t := ⟨[UInt8.ofNat (48 + d % 10)].toArray⟩) (is := true)
      (num_may (one_byte _) fun c hc => .inl (by have : c = UInt8.ofNat (48 + d % 10) := by simpa using hc
                                                 rw [this]; exact hin)) (lits_may hc0) (.inr ⟨UInt8.ofNat (48 + d % 10), by simp, by simp⟩)
  have e41 : globS numS = false := by decide +kernel
  have zb : (litS blT).lit.size ≤ 64 := ok_size (ok_lit _)
  have zc := ok_size (ok_lit ⟨[UInt8.ofNat (48 + d % 10)].toArray⟩)
  have zt : (tz : ByteArray).size = 0 := rfl
  have zs : (⟨[UInt8.ofNat (48 + d % 10)].toArray⟩ : ByteArray).size = 1 := rfl
  have zl : blT.size = 3 := rfl
  have m1 := may_pure numS true s (by omega)
  have m2 := may_pure numS true tz (by omega)
  have m3 := may_pure numS false tz (by omega)
  have m4 := maysplit_pure numS (litS blT) (by omega)
  have m5 := maysplit_pure numS (litS ⟨[UInt8.ofNat (48 + d % 10)].toArray⟩) (by omega)
  refine pure_of_run mixed 100 (fun w => [(7, C num_pure), (9, RI .u8 5 d 10 ((d % 10 : Nat) : Int) (by omega) (by rw [Int.tmod_eq_emod_of_nonneg (by omega)]; omega)),
    (10, PI .u8 5 48 ((d % 10 : Nat) : Int) ((48 + d % 10 : Nat) : Int) (wrap_u8 _ _ (by omega) hk)), (12, OT (48 + d % 10) hk),
    (15, C ps), (16, CB m1 e16), (19, CB m2 e19), (24, CB m3 e24), (29, C (reflit_pure blT (by omega))), (30, CB m4 e30), (36, C (reflit_pure ⟨[UInt8.ofNat (48 + d % 10)].toArray⟩ (by omega))), (37, CB m5 e37),
    (41, CB (mayglob_pure numS) e41), (46, C (mayunset_pure numS)), (50, C awake5_pure)]) fun w => ?_
  kernel_rfl
end Go.Proofs.Ytlbonbkaddeeeaa
