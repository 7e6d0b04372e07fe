/-
  Walks over the first note, and over what is held against what.
-/
import Derived.Test.YthfdfenggooalaaDoorProg
import Derived.WalkKit
import Derived.WalkLawsBesides
import Derived.WalkSpells
import Derived.Outline
import Derived.Below
import Derived.RegionTactic
import Derived.BigRegion
import Derived.Deep.QuietTactic
import Derived.BigQuiet
import Derived.ChangeAlike
import Derived.Deep.RegionLaw
import Derived.Deep.RegionWith
import Derived.Laws.Closers25
import Derived.Lib.LaidTab
import Derived.Lib.ItoaNum
import Derived.WalkSmall
import Derived.MapKept
import Derived.OwnWalk
import Derived.LoopTactic
import Derived.IntWalk
import Derived.Deep.LoopGhost
import Derived.Laws.BytesArg
import Derived.Deep.RegionHeld3
import Derived.Test.YthfdfenggooalaaDoorXW
import Derived.Test.YthfdfenggooalaaDoorW1
import Derived.Test.YthfdfenggooalaaDoorW2
import Derived.Test.YthfdfenggooalaaDoorW3
import Derived.Test.YthfdfenggooalaaDoorW4
import Derived.Test.YthfdfenggooalaaDoorW5
import Derived.Test.YthfdfenggooalaaDoorW6
import Derived.Test.YthfdfenggooalaaDoorW7
set_option linter.unusedVariables false
set_option linter.unusedSimpArgs false
namespace Go.Proofs.YthfdfenggooalaaDoor
open Go.RowKit Go.Proofs.YthfdfenggooalaaDoor.XW
def Took (w w' : World) (b : Nat) (cs : Array Value) (e : Ending) : Prop :=
  ∃ mb, e = .returned (.slice none 0 0) ∧ Whole w' b 72 (cs.setIfInBounds 15 (.iface 73 (.pointer (some ⟨mb, 0, none⟩)))) ∧ Whole w' mb 75 #[.int .i64 1, .int .i64 3] ∧ Keeps w w' (fun k => k = b)

theorem took_of {w : World} {b : Nat} {cs : Array Value} (hW : Whole w b 72 cs) (h16 : cs[16]? = some (.slice none 0 0)) {o : Obj} {nq : Nat} :
    Took w (((((w.alloc o).drewN nq).setCell ⟨b, 15, none⟩ (.iface 73 (.pointer (some ⟨w.heap.size + 1, 0, none⟩)))).setCell ⟨b, 16, none⟩ (.slice none 0 0)).alloc (.cells #[.int .i64 1, .int .i64 3] 75)) b cs (.returned (.slice none 0 0)) := by
  refine ⟨w.heap.size + 1, rfl, ?_, ?_, ?_⟩
  · have h := ((((hW.alloc o).drewN nq).store 15 (.iface 73 (.pointer (some ⟨w.heap.size + 1, 0, none⟩)))).store 16 (.slice none 0 0)).alloc (.cells #[.int .i64 1, .int .i64 3] 75)
    rwa [set_same ((get_set_ne (by decide)).trans h16)] at h
  · have h := Whole.fresh ((((w.alloc o).drewN nq).setCell ⟨b, 15, none⟩ (.iface 73 (.pointer (some ⟨w.heap.size + 1, 0, none⟩)))).setCell ⟨b, 16, none⟩ (.slice none 0 0)) 75 #[.int .i64 1, .int .i64 3]
    simpa using h
  · exact ((((((Keeps.refl w (fun k => k = b)).alloc o).drewN nq).store ⟨b, 15, none⟩ _ (.inl rfl)).store ⟨b, 16, none⟩ _ (.inl rfl)).alloc _)

set_option maxRecDepth 100000 in
set_option maxHeartbeats 1600000 in
theorem handle_first (b : Nat) (cs : Array Value) (A : Option Addr) (n c : Nat) (w : World) (hW : Whole w b 72 cs) (h13 : cs[13]? = some (.slice A n c)) (h15 : cs[15]? = some .nilIface) (h16 : cs[16]? = some (.slice none 0 0)) (hn : 1 < n) :
    Calls Tryd.prog 11 #[.pointer (some ⟨b, 0, none⟩), .int .i64 0, .agg #[.int .i64 1, .int .i64 1, .int .i64 3, .int .i64 0, .slice none 0 0, .slice none 0 0, .slice none 0 0]] w fun e w' => Took w w' b cs e := by
  have HW := XW.hid hW
  have H16 := XW.hid h16
  have hq := fun w => run_eql_nil_nil (P := Tryd.prog) (w := w) 20 hu20
  have hlt := hW.lt
  have hc15 := (hW.cell 15).trans h15
  have hc13 := (hW.cell 13).trans h13
  have hf15 := hW.free 15
  have hn1 : decide ((1 : Int) < (n : Int)) = true := by simp; omega
  clear hW h15 h16 h13
  go_enter Tryd.func11, Tryd.ntmps11
  go_wp2_with fail
  go_quiet (fail)
  go_wp2_with fail
  refine (sent_any b (cs.setIfInBounds 15 (.iface 73 (.pointer (some ⟨w.heap.size + 1, 0, none⟩)))) _ _ ((((HW.out.alloc _).drewN _).store 15 _).alloc _) ((get_set_ne (by decide)).trans H16.out)).mono ?_
  rintro e w' ⟨rfl, rfl⟩
  go_wp2
  go_ret
  exact took_of HW.out H16.out

set_option maxHeartbeats 400000 in
theorem new_nodisk (ident each fold op : Int) (nm vt : ByteArray) (kd : Int) (vi : Int) (comb : Bool) (parts : Int) (ea aa : Option Addr) (en ec an ac : Nat) (A : Option Addr) (n c : Nat) (w : World) :
    Calls Tryd.prog 9 #[.int .i64 ident, .agg #[.string nm, .int .i64 each, .slice ea en ec, .int .i64 fold, .int .i64 op, .int .u8 kd, .int .i64 vi, .string vt, .slice aa an ac, .bool comb, .int .i64 parts], .slice A n c, .int .i64 1, .pointer none] w fun e w' =>
      e = .returned (.pointer none) ∧ Keeps w w' (fun _ => False) := by
  go_enter Tryd.func9, Tryd.ntmps9
  go_wp2
  go_ret
  exact ⟨rfl, (Keeps.refl _ _).alloc _⟩

set_option maxHeartbeats 400000 in
theorem usame_nil (w : World) : Calls Tryd.prog 39 #[.slice none 0 0, .slice none 0 0] w fun e w' => e = .returned (.bool true) ∧ w = w' := by
  go_enter Tryd.func39, Tryd.ntmps39
  go_wp2
  go_loop [5] (fun i => i = .int .i64 0) (fun _ => 0)
  case atStart => rfl
  case round =>
    subst hrel
    go_wp2
    go_ret
    exact ⟨rfl, rfl⟩

set_option maxRecDepth 100000 in
set_option maxHeartbeats 1600000 in
theorem same_refl (k t y p : Int) (w : World) :
    Calls Tryd.prog 29 #[.agg #[.int .i64 k, .int .i64 t, .int .i64 y, .int .i64 p, .slice none 0 0, .slice none 0 0, .slice none 0 0], .agg #[.int .i64 k, .int .i64 t, .int .i64 y, .int .i64 p, .slice none 0 0, .slice none 0 0, .slice none 0 0]] w fun e w' => e = .returned (.bool true) ∧ Keeps w w' (fun _ => False) := by
  have hcv := fun w => run_convert_bytes_nil (P := Tryd.prog) w 30 5 Tryd.underlying30 Tryd.underlying5 0 0 9 Tryd.underlying9
  go_enter Tryd.func29, Tryd.ntmps29
  go_wp2_with (go_at_call 39; refine (usame_nil _).mono ?_; rintro e w' ⟨rfl, rfl⟩)
  go_ret
  exact ⟨rfl, ((Keeps.refl _ _).alloc _).alloc _⟩

set_option maxRecDepth 100000 in
set_option maxHeartbeats 1600000 in
theorem only_true (base : Nat) (v : Value) (to k t y p : Int) (w : World) (hown : w.ownsRow base 64 8 v 1 [.int .i64 to, .int .i64 k, .int .i64 t, .int .i64 y, .int .i64 p, .slice none 0 0, .slice none 0 0, .slice none 0 0]) :
    Calls Tryd.prog 14 #[v, .int .i64 to, .agg #[.int .i64 k, .int .i64 t, .int .i64 y, .int .i64 p, .slice none 0 0, .slice none 0 0, .slice none 0 0]] w fun e w' => e = .returned (.bool true) ∧ Keeps w w' (fun _ => False) := by
  obtain ⟨g, c, rfl, _, hg⟩ := hown.form (by omega)
  have h0 := hown.cellAt 0 (by omega)
  have h1 := hown.cellAt 1 (by omega)
  have h2 := hown.cellAt 2 (by omega)
  have h3 := hown.cellAt 3 (by omega)
  have h4 := hown.cellAt 4 (by omega)
  have h5 := hown.cellAt 5 (by omega)
  have h6 := hown.cellAt 6 (by omega)
  have h7 := hown.cellAt 7 (by omega)
  simp only [List.getElem?_cons_zero, List.getElem?_cons_succ] at h0 h1 h2 h3 h4 h5 h6 h7
  clear hown
  go_enter Tryd.func14, Tryd.ntmps14
  go_wp2_with fail
  go_region_with (go_at_call 29; refine (same_refl k t y p _).mono ?_; rintro e w1 ⟨rfl, hk1⟩; have Hk1 := XW.hid hk1; clear hk1)
  all_goals
    go_wp2
    go_ret
    exact ⟨rfl, ((Keeps.refl w (fun _ => False)).alloc _).then Hk1.out.undrew fun _ h => .inl h⟩

end Go.Proofs.YthfdfenggooalaaDoor
