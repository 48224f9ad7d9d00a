/-
  PatStars, walked up to where the rows are made.
-/
import Derived.Test.YtcfimlllgkknhaaSp
set_option linter.unusedSimpArgs false
set_option linter.unusedVariables false
namespace Go.Proofs.Ytcfimlllgkknhaa
open Go.RowKit Go.Eng Go.Ev
theorem Plain_pure (s : ByteArray) : Pure Try.prog 19 #[.string s] (.agg #[.string s, .slice none 0 0]) :=
  pure_of_run mixed 100 (args := [.string s]) (fun w => []) fun w => by kernel_rfl
def star : ByteArray := ⟨#[42]⟩
def quest : ByteArray := ⟨#[63]⟩
def stA (a b m : ByteArray) : Tm :=
  ⟨[.v (.string a), .v (.string b), .v (.string m), .v undef, .v undef, .v undef, .v (.bool false), .p 0 0, .p 1 0, .v (.string a), .v (.int .i64 a.size), .v (.bool false), .v (.bool false), .v (.string b), .v (.int .i64 b.size),
    .v (.bool false), .v (.bool false), .v (.bool false), .v (.string m), .v (.int .i64 m.size), .v (.bool false), .v (.bool false), .v undef, .v (.string a), .v (.string (a ++ star)), .v (.string b), .v (.string (a ++ star ++ b)),
    .v (.agg #[.string (a ++ star ++ b), .slice none 0 0]), .v (.string a), .v (.string (a ++ quest)), .v (.string b), .v (.string (a ++ quest ++ b)), .v (.agg #[.string (a ++ quest ++ b), .slice none 0 0]), .p 0 0,
    .v (.string (a ++ star ++ b)), .v (.int .i64 (a ++ star ++ b).size), .v (.string a), .v (.int .i64 a.size), .v (.string b), .v (.int .i64 b.size), .v (.int .i64 ((a.size : Int) + b.size)), .v (.int .i64 ((a.size : Int) + b.size + 1)), .v (.bool false)] ++ List.replicate 69 (.v undef),
    [⟨[.string (a ++ star ++ b), .slice none 0 0], 25, true⟩, ⟨[.string (a ++ quest ++ b), .slice none 0 0], 25, true⟩]⟩
theorem star_size (a b : ByteArray) : (a ++ star ++ b).size = a.size + 1 + b.size := by simp [ByteArray.size_append]; rfl
theorem quest_size (a b : ByteArray) : (a ++ quest ++ b).size = a.size + 1 + b.size := by simp [ByteArray.size_append]; rfl
def itsA (w : World) (a b m : ByteArray) (ha : a.size ≤ 60) (hb : b.size ≤ 60) (hm : m.size ≤ 60) : Items Try.prog w :=
  [(11, GT .i64 3 (a.size : Int) 60 (c := false) (decide_eq_false (by omega))), (15, GT .i64 3 (b.size : Int) 60 (c := false) (decide_eq_false (by omega))),
   (20, GT .i64 3 (m.size : Int) 60 (c := false) (decide_eq_false (by omega))),
   (24, AD a star (by have : star.size = 1 := rfl; omega)), (26, AD (a ++ star) b (by have : star.size = 1 := rfl; rw [ByteArray.size_append]; omega)),
   (29, AD a quest (by have : quest.size = 1 := rfl; omega)), (31, AD (a ++ quest) b (by have : quest.size = 1 := rfl; rw [ByteArray.size_append]; omega)),
   (27, C ((Plain_pure (a ++ star ++ b)).at w)), (32, C ((Plain_pure (a ++ quest ++ b)).at w)),
   (40, PI .i64 3 a.size b.size ((a.size : Int) + b.size) (by rw [IntKind.wrap_i64]; omega)), (41, PI .i64 3 ((a.size : Int) + b.size) 1 ((a.size : Int) + b.size + 1) (by rw [IntKind.wrap_i64]; omega)),
   (42, NI .i64 3 ((a ++ star ++ b).size : Int) ((a.size : Int) + b.size + 1) (c := true) (decide_eq_true (by rw [star_size]; omega)))]
set_option maxRecDepth 100000 in
theorem runA (a b m : ByteArray) (ha : a.size ≤ 60) (hb : b.size ≤ 60) (hm : m.size ≤ 60) (w : World) :
    Go.Ev.ask (withN (runS Try.prog 10 5 (bodyOf Try.prog 8) ⟨initTm Try.f8 [.string a, .string b, .string m], itsA w a b m ha hb hm, []⟩)) [] =
      Go.Ev.told (withN (runS Try.prog 10 5 (bodyOf Try.prog 8) ⟨initTm Try.f8 [.string a, .string b, .string m], itsA w a b m ha hb hm, []⟩)) .normal (stA a b m) := by kernel_rfl
end Go.Proofs.Ytcfimlllgkknhaa
