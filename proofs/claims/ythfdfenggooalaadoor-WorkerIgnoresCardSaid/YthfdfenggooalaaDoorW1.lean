/-
  Walks over the worker: what it sends lies at the end of its row of notes.
-/
import Derived.Test.YthfdfenggooalaaDoorProg
import Derived.WalkKit
import Derived.WalkLawsBesides
import Derived.WalkSpells
import Derived.Outline
import Derived.Below
import Derived.RegionTactic
import Derived.BigRegion
import Derived.Deep.QuietTactic
import Derived.BigQuiet
import Derived.ChangeAlike
import Derived.Deep.RegionLaw
import Derived.Deep.RegionWith
import Derived.Laws.Closers25
import Derived.Lib.LaidTab
import Derived.Lib.ItoaNum
import Derived.WalkSmall
import Derived.MapKept
import Derived.OwnWalk
import Derived.LoopTactic
import Derived.IntWalk
import Derived.Test.YthfdfenggooalaaDoorXW
set_option linter.unusedVariables false
set_option linter.unusedSimpArgs false
namespace Go.Proofs.YthfdfenggooalaaDoor
open Go.RowKit Go.Proofs.YthfdfenggooalaaDoor.XW
@[go_sem] theorem assert_map_red (m : Addr) (w : World) : (Instr.typeAssert (.iface 73 (.pointer (some m))) 20 76 true).run Tryd.prog w = .ok (.tuple #[.pointer none, .bool false]) w := by kernel_rfl

set_option maxHeartbeats 400000 in
theorem reduces_map (b : Nat) (cs : Array Value) (m : Addr) (w : World) (hW : Whole w b 72 cs) (h15 : cs[15]? = some (.iface 73 (.pointer (some m)))) :
    Calls Tryd.prog 27 #[.pointer (some ⟨b, 0, none⟩)] w fun e w' => e = .returned (.pointer none) ∧ w = w' := by
  have hc := (hW.cell 15).trans h15
  clear h15 hW
  go_enter Tryd.func27, Tryd.ntmps27
  go_wp2
  go_ret
  exact ⟨rfl, rfl⟩

set_option maxHeartbeats 400000 in
theorem sent_any (b : Nat) (cs : Array Value) (v : Value) (w : World) (hW : Whole w b 72 cs) (h16 : cs[16]? = some v) :
    Calls Tryd.prog 28 #[.pointer (some ⟨b, 0, none⟩)] w fun e w' => e = .returned v ∧ w.setCell ⟨b, 16, none⟩ (.slice none 0 0) = w' := by
  have hc := (hW.cell 16).trans h16
  have hf := hW.free 16
  clear h16 hW
  go_enter Tryd.func28, Tryd.ntmps28
  go_wp2
  go_ret
  exact ⟨rfl, rfl⟩
theorem info64 : (Tryd.prog.info? 64).map (fun i => (i.zero, i.size, i.bytes)) = some (some (.agg #[.int .i64 0, .int .i64 0, .int .i64 0, .int .i64 0, .int .i64 0, .slice none 0 0, .slice none 0 0, .slice none 0 0]), 8, 112) := by kernel_rfl

/-- Behind a send: the note lies at the end of the row in the worker's last field. -/
def Sent (w w' : World) (b : Nat) (cs : Array Value) (base : Nat) (v : Value) (n : Nat) (xs : List Value) : Prop :=
  ∃ v', Whole w' b 72 (cs.setIfInBounds 16 v') ∧ w'.ownsRow base 64 8 v' n xs ∧ Keeps w w' (fun k => k = b ∨ v.ownBlock = some k) ∧ (v'.ownBlock = v.ownBlock ∨ ∃ g, v'.ownBlock = some g ∧ w.heap.size ≤ g)

set_option maxHeartbeats 800000 in
theorem send_any (b : Nat) (cs : Array Value) (to k t y p : Int) (aw a1 a2 : Option Addr) (nw cw n1 c1 n2 c2 : Nat) (w : World) (hW : Whole w b 72 cs) (v : Value) (h16 : cs[16]? = some v)
    (base n : Nat) (xs : List Value) (hown : w.ownsRow base 64 8 v n xs) (hbase : base ≤ w.heap.size) (hn : n ≤ 1000) :
    Calls Tryd.prog 30 #[.pointer (some ⟨b, 0, none⟩), .int .i64 to, .agg #[.int .i64 k, .int .i64 t, .int .i64 y, .int .i64 p, .slice aw nw cw, .slice a1 n1 c1, .slice a2 n2 c2]] w fun e w' =>
      e = .returned (.tuple #[]) ∧ Sent w w' b cs base v (n + 1) (xs ++ [.int .i64 to, .int .i64 k, .int .i64 t, .int .i64 y, .int .i64 p, .slice aw nw cw, .slice a1 n1 c1, .slice a2 n2 c2]) := by
  obtain ⟨i0, hi, hzz⟩ := Option.map_eq_some_iff.1 info64
  simp only [Prod.mk.injEq] at hzz
  obtain ⟨hz0, hz1, hz2⟩ := hzz
  have hc := (hW.cell 16).trans h16
  have hlt := hW.lt
  have hf := hW.free 16
  go_enter Tryd.func30, Tryd.ntmps30
  go_wp2
  have Hown := XW.hid hown
  have Hhi := XW.hid hi
  have Hz0 := XW.hid hz0
  have Hz1 := XW.hid hz1
  have Hz2 := XW.hid hz2
  clear hown hi hz0 hz1 hz2
  go_region_law (refine step_append_own rfl (.tmp 10) (.tmp 14) 44 rfl base 64 i0 _ 8 112 Tryd.underlying44 Hhi.out Hz0.out Hz1.out Hz2.out rfl (by decide) v n xs (by simp [Act.eval, Act.put]) (by exact (Hown.out.alloc _).alloc _) ⟨w.heap.size + 1, 0, none⟩ 1 1 [.int .i64 to, .int .i64 k, .int .i64 t, .int .i64 y, .int .i64 p, .slice aw nw cw, .slice a1 n1 c1, .slice a2 n2 c2] (by simp [Act.eval, Act.put]) rfl (by exact World.news_of_block (cs := #[.int .i64 to, .int .i64 k, .int .i64 t, .int .i64 y, .int .i64 p, .slice aw nw cw, .slice a1 n1 c1, .slice a2 n2 c2]) (t := 64) (fr := (0, 0)) (new_second w _ _)) (by simp [Value.oneCell']) (by unfold maxLen; omega) (by omega) (by simp; omega) ?_; intro v' w' hown' hg' hat; obtain ⟨A, c, hv⟩ := own_shape hown'; obtain ⟨hW', hk⟩ := after_append hW _ _ Hown.out (by decide) hg'; have Hk := XW.hid hk; clear hk; have hc' := (hW'.cell 16).trans h16; have hf' := hW'.free 16; have Hat := XW.hid hat; have Hown' := XW.hid hown'; have Hv := XW.hid hv; rw [hv]; clear hat hown' hv hg')
  all_goals
    go_end0
    refine ⟨rfl, v', ?_, ?_, ?_, ?_⟩
    · rw [Hv.out]; exact hW'.store 16 _
    · exact own_store Hown'.out _ _ (own_apart Hown'.out hW' (by decide))
    · exact (Hk.out.weaken fun k h => .inr h).store _ _ (.inl (.inl rfl))
    · rcases Hat.out with h | h
      · exact .inl h
      · exact .inr ⟨_, h, by simp; omega⟩

end Go.Proofs.YthfdfenggooalaaDoor
