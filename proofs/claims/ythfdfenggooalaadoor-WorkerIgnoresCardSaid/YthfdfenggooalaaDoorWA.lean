/-
  A busy worker leaves any note alone but one.
-/
import Derived.Test.YthfdfenggooalaaDoorProg
import Derived.WalkKit
import Derived.WalkLawsBesides
import Derived.WalkSpells
import Derived.Outline
import Derived.Below
import Derived.RegionTactic
import Derived.BigRegion
import Derived.Deep.QuietTactic
import Derived.BigQuiet
import Derived.ChangeAlike
import Derived.Deep.RegionLaw
import Derived.Deep.RegionWith
import Derived.Laws.Closers25
import Derived.Lib.LaidTab
import Derived.Lib.ItoaNum
import Derived.WalkSmall
import Derived.MapKept
import Derived.OwnWalk
import Derived.LoopTactic
import Derived.IntWalk
import Derived.Deep.LoopGhost
import Derived.Laws.BytesArg
import Derived.Deep.RegionHeld3
import Derived.Test.YthfdfenggooalaaDoorXW
import Derived.Test.YthfdfenggooalaaDoorW1
import Derived.Test.YthfdfenggooalaaDoorW2
import Derived.Test.YthfdfenggooalaaDoorW3
import Derived.Test.YthfdfenggooalaaDoorW4
import Derived.Test.YthfdfenggooalaaDoorW5
import Derived.Test.YthfdfenggooalaaDoorW6
import Derived.Test.YthfdfenggooalaaDoorW7
import Derived.Test.YthfdfenggooalaaDoorW8
import Derived.Test.YthfdfenggooalaaDoorW9
set_option linter.unusedVariables false
set_option linter.unusedSimpArgs false
namespace Go.Proofs.YthfdfenggooalaaDoor
open Go.RowKit Go.Proofs.YthfdfenggooalaaDoor.XW
theorem handle_not4 (b : Nat) (cs : Array Value) (m : Addr) (f k x y z : Int) (aw a1 a2 : Option Addr) (nw cw n1 c1 n2 c2 : Nat) (w : World) (hW : Whole w b 72 cs) (h15 : cs[15]? = some (.iface 73 (.pointer (some m)))) (h16 : cs[16]? = some (.slice none 0 0)) (h4 : ¬ k = 4) :
    Calls Tryd.prog 11 #[.pointer (some ⟨b, 0, none⟩), .int .i64 f, .agg #[.int .i64 k, .int .i64 x, .int .i64 y, .int .i64 z, .slice aw nw cw, .slice a1 n1 c1, .slice a2 n2 c2]] w fun e w' => Left w w' b cs e := by
  by_cases k1 : k = 1
  · subst k1; exact handle_map b cs m f x y z aw a1 a2 nw cw n1 c1 n2 c2 w hW h15 h16
  by_cases k3 : k = 3
  · subst k3; exact handle_reduce b cs m f x y z aw a1 a2 nw cw n1 c1 n2 c2 w hW h15 h16
  by_cases k5 : k = 5
  · subst k5; exact handle_data b cs m f x y z aw a1 a2 nw cw n1 c1 n2 c2 w hW h15 h16
  by_cases k6 : k = 6
  · subst k6; exact handle_lost b cs m f x y z aw a1 a2 nw cw n1 c1 n2 c2 w hW h15 h16
  by_cases k9 : k = 9
  · subst k9; exact handle_taken b cs m f x y z aw a1 a2 nw cw n1 c1 n2 c2 w hW h15 h16
  exact handle_else b cs m f k x y z aw a1 a2 nw cw n1 c1 n2 c2 w hW h15 h16 (beq_eq_false_iff_ne.2 k1) (beq_eq_false_iff_ne.2 k3) (beq_eq_false_iff_ne.2 h4) (beq_eq_false_iff_ne.2 k5) (beq_eq_false_iff_ne.2 k6) (beq_eq_false_iff_ne.2 k9)


end Go.Proofs.YthfdfenggooalaaDoor
