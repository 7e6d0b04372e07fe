/-
  The law where what comes in is long.
-/
import Derived.Test.YthfdfenggooalaaDoorProg
import Derived.WalkKit
import Derived.WalkLawsBesides
import Derived.WalkSpells
import Derived.Outline
import Derived.Below
import Derived.RegionTactic
import Derived.BigRegion
import Derived.Deep.QuietTactic
import Derived.BigQuiet
import Derived.ChangeAlike
import Derived.Deep.RegionLaw
import Derived.Deep.RegionWith
import Derived.Laws.Closers25
import Derived.Lib.LaidTab
import Derived.Lib.ItoaNum
import Derived.WalkSmall
import Derived.MapKept
import Derived.OwnWalk
import Derived.LoopTactic
import Derived.IntWalk
import Derived.Deep.LoopGhost
import Derived.Laws.BytesArg
import Derived.Deep.RegionHeld3
import Derived.Test.YthfdfenggooalaaDoorXW
import Derived.Test.YthfdfenggooalaaDoorW1
import Derived.Test.YthfdfenggooalaaDoorW2
import Derived.Test.YthfdfenggooalaaDoorW3
import Derived.Test.YthfdfenggooalaaDoorW4
import Derived.Test.YthfdfenggooalaaDoorW5
import Derived.Test.YthfdfenggooalaaDoorW6
import Derived.Test.YthfdfenggooalaaDoorW7
import Derived.Test.YthfdfenggooalaaDoorW8
import Derived.Test.YthfdfenggooalaaDoorW9
import Derived.Test.YthfdfenggooalaaDoorWA
set_option linter.unusedVariables false
set_option linter.unusedSimpArgs false
namespace Go.Proofs.YthfdfenggooalaaDoor
open Go.RowKit Go.Proofs.YthfdfenggooalaaDoor.XW

set_option maxRecDepth 100000 in
set_option maxHeartbeats 1600000 in
theorem ignores_long (k x y z f : Int) (aw a1 a2 : Option Addr) (nw cw n1 c1 n2 c2 : Nat) (w : World) (ht : decide (1000 < wrap64 ((n1 : Int) + (n2 : Int))) = true) :
    Calls Tryd.prog 4 #[.agg #[.int .i64 k, .int .i64 x, .int .i64 y, .int .i64 z, .slice aw nw cw, .slice a1 n1 c1, .slice a2 n2 c2], .int .u8 f] w fun e w' => e = .returned (.bool true) ∧ Keeps w w' (fun _ => False) := by
  go_enter Tryd.func4, Tryd.ntmps4
  go_wp2_with fail
  refine (live_true _).mono ?_
  rintro e w1 ⟨rfl, hk1⟩
  have Hk1 := XW.hid hk1
  clear hk1
  go_wp2
  go_ret
  exact ⟨rfl, ((Keeps.refl w (fun _ => False)).alloc _).then Hk1.out fun _ h => .inl h⟩

set_option maxRecDepth 100000 in
set_option maxHeartbeats 1600000 in
theorem ignores_many (k x y z f : Int) (aw a1 a2 : Option Addr) (nw cw n1 c1 n2 c2 : Nat) (w : World) (ht : decide (1000 < wrap64 ((n1 : Int) + (n2 : Int))) = false) (ht2 : decide (100 < (nw : Int)) = true) :
    Calls Tryd.prog 4 #[.agg #[.int .i64 k, .int .i64 x, .int .i64 y, .int .i64 z, .slice aw nw cw, .slice a1 n1 c1, .slice a2 n2 c2], .int .u8 f] w fun e w' => e = .returned (.bool true) ∧ Keeps w w' (fun _ => False) := by
  go_enter Tryd.func4, Tryd.ntmps4
  go_wp2_with fail
  refine (live_true _).mono ?_
  rintro e w1 ⟨rfl, hk1⟩
  have Hk1 := XW.hid hk1
  clear hk1
  go_wp2
  go_ret
  exact ⟨rfl, ((Keeps.refl w (fun _ => False)).alloc _).then Hk1.out fun _ h => .inl h⟩

end Go.Proofs.YthfdfenggooalaaDoor
