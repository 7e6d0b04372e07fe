/-
  Walks over the example: a new worker beats.
-/
import Derived.Test.YthfdfenggooalaaDoorProg
import Derived.WalkKit
import Derived.WalkLawsBesides
import Derived.WalkSpells
import Derived.Outline
import Derived.Below
import Derived.RegionTactic
import Derived.BigRegion
import Derived.Deep.QuietTactic
import Derived.BigQuiet
import Derived.ChangeAlike
import Derived.Deep.RegionLaw
import Derived.Deep.RegionWith
import Derived.Laws.Closers25
import Derived.Lib.LaidTab
import Derived.Lib.ItoaNum
import Derived.WalkSmall
import Derived.MapKept
import Derived.OwnWalk
import Derived.LoopTactic
import Derived.IntWalk
import Derived.Deep.LoopGhost
import Derived.Laws.BytesArg
import Derived.Deep.RegionHeld3
import Derived.Test.YthfdfenggooalaaDoorXW
import Derived.Test.YthfdfenggooalaaDoorW1
import Derived.Test.YthfdfenggooalaaDoorW2
import Derived.Test.YthfdfenggooalaaDoorW3
import Derived.Test.YthfdfenggooalaaDoorW4
import Derived.Test.YthfdfenggooalaaDoorW5
import Derived.Test.YthfdfenggooalaaDoorW6
import Derived.Test.YthfdfenggooalaaDoorW7
import Derived.Test.YthfdfenggooalaaDoorW8
set_option linter.unusedVariables false
set_option linter.unusedSimpArgs false
namespace Go.Proofs.YthfdfenggooalaaDoor
open Go.RowKit Go.Proofs.YthfdfenggooalaaDoor.XW

theorem disk_new_1000 (w : World) :
    Calls Tryd.prog 8 #[.int .i64 1000] w fun e w' => e = .returned (.tuple #[.pointer (some ⟨w.heap.size + 1, 0, none⟩), .int .i64 0]) ∧ w' = (w.alloc (.map #[] 0)).alloc (.cells #[.int .i64 1000, .map (some w.heap.size), .bool false, .int .i64 0] 67) := by
  have hmm := @run_makeMap Tryd.prog
  go_enter Tryd.func8, Tryd.ntmps8
  go_wp2
  go_ret2
  exact ⟨rfl, rfl⟩
theorem disk_fresh (w : World) : Disk ((w.alloc (.map #[] 0)).alloc (.cells #[.int .i64 1000, .map (some w.heap.size), .bool false, .int .i64 0] 67)) (w.heap.size + 1) w.heap.size := by
  refine ⟨0, 1000, 0, false, new_second w _ _, ?_⟩
  rw [Below.heap_alloc _ _ _ (by simp)]
  exact heap_alloc_new w _

def Beat (w w' : World) (b : Nat) (e : Ending) : Prop :=
  ∃ (v : Value) (base : Nat), e = .returned v ∧ w'.ownsRow base 64 8 v 1 [.int .i64 0, .int .i64 0, .int .i64 1, .int .i64 0, .int .i64 0, .slice none 0 0, .slice none 0 0, .slice none 0 0] ∧ Keeps w w' (fun k => k = b)

set_option maxRecDepth 100000 in
set_option maxHeartbeats 1600000 in
theorem step_idle (b : Nat) (cs : Array Value) (w : World) (hW : Whole w b 72 cs) (hsz : cs.size = 17) (h15 : cs[15]? = some .nilIface) (h16 : cs[16]? = some (.slice none 0 0)) :
    Calls Tryd.prog 13 #[.pointer (some ⟨b, 0, none⟩)] w fun e w' => Beat w w' b e := by
  have HW := XW.hid hW
  have H15 := XW.hid h15
  have H16 := XW.hid h16
  have Hsz := XW.hid hsz
  have hq := fun w => run_eql_nil_nil (P := Tryd.prog) (w := w) 20 hu20
  have hlt := hW.lt
  have hc15 := (hW.cell 15).trans h15
  clear hW h15 h16 hsz
  go_enter Tryd.func13, Tryd.ntmps13
  go_wp2_with fail
  refine (send_any b cs 0 0 1 0 0 none none none 0 0 0 0 0 0 _ (HW.out.alloc _) (.slice none 0 0) H16.out w.heap.size 0 [] (World.ownsRow_nil _ _ _ _) (by simp) (by omega)).mono ?_
  rintro e w1 ⟨rfl, v', h1, h2, h3, _⟩
  have hd15 := (h1.cell 15).trans ((get_set_ne (by decide)).trans H15.out)
  have H1 := XW.hid h1
  have H2 := XW.hid h2
  have H3 := XW.hid h3
  clear h1 h2 h3 hc15
  go_wp2_with fail
  refine (sent_any b _ v' _ H1.out (get_set (by have := Hsz.out; omega))).mono ?_
  rintro e w' ⟨rfl, rfl⟩
  go_wp2
  go_ret
  refine ⟨_, _, rfl, own_store H2.out _ _ (own_apart H2.out H1.out (by decide)), ?_⟩
  exact ((((Keeps.refl w (fun k => k = b)).alloc _).then H3.out fun k h => by
    rcases h with h | h
    · exact .inl h
    · simp [Value.ownBlock] at h).store _ _ (.inl rfl))

set_option maxRecDepth 100000 in
set_option maxHeartbeats 1600000 in
theorem live_true (w : World) : Calls Tryd.prog 6 #[] w fun e w' => e = .returned (.bool true) ∧ Keeps w w' (fun _ => False) := by
  go_enter Tryd.func6, Tryd.ntmps6
  go_wp2_with fail
  refine (disk_new_1000 _).mono ?_
  rintro e w1 ⟨rfl, rfl⟩
  go_wp2_with fail
  refine (new_any 1 0 0 0 ⟨#[]⟩ ⟨#[]⟩ 0 0 false 0 none none 0 0 0 0 none 0 0 (w.heap.size + 1) [] _ rfl (by omega) (by simp) (.inl ⟨rfl, rfl⟩)).mono ?_
  rintro e w2 ⟨b, vl, vs, A, c, rfl, hb, rfl, hW, hk⟩
  have hk0 : Keeps w w2 (fun _ => False) := (((Keeps.refl w (fun _ => False)).alloc _).alloc _).then hk fun _ h => .inl h
  have Hk0 := XW.hid hk0
  have HW := XW.hid hW
  have Hb := XW.hid hb
  clear hk hk0 hW hb
  go_wp2_with fail
  refine (step_idle b _ w2 HW.out rfl rfl rfl).mono ?_
  rintro e w3 ⟨v, base, rfl, ho, hk3⟩
  obtain ⟨g, cp, hv, _, hg⟩ := ho.form (by omega)
  subst hv
  have h0 := ho.cellAt 0 (by omega)
  have h1 := ho.cellAt 1 (by omega)
  have h2 := ho.cellAt 2 (by omega)
  simp only [List.getElem?_cons_zero, List.getElem?_cons_succ] at h0 h1 h2
  have Hk3 := XW.hid hk3
  clear ho hk3
  go_wp2_with (go_at_call 10; refine (code_any _ _).mono ?_; rintro e w' ⟨rfl, rfl⟩)
  go_ret
  exact ⟨rfl, Hk0.out.then Hk3.out fun k h => .inr (by
    subst h
    have := Hb.out
    simp at this
    omega)⟩

end Go.Proofs.YthfdfenggooalaaDoor
