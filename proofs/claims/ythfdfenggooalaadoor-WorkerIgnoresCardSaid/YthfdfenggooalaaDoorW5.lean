/-
  Walks over the worker: what one that does something answers to any note.
-/
import Derived.Test.YthfdfenggooalaaDoorProg
import Derived.WalkKit
import Derived.WalkLawsBesides
import Derived.WalkSpells
import Derived.Outline
import Derived.Below
import Derived.RegionTactic
import Derived.BigRegion
import Derived.Deep.QuietTactic
import Derived.BigQuiet
import Derived.ChangeAlike
import Derived.Deep.RegionLaw
import Derived.Deep.RegionWith
import Derived.Laws.Closers25
import Derived.Lib.LaidTab
import Derived.Lib.ItoaNum
import Derived.WalkSmall
import Derived.MapKept
import Derived.OwnWalk
import Derived.LoopTactic
import Derived.IntWalk
import Derived.Deep.LoopGhost
import Derived.Laws.BytesArg
import Derived.Deep.RegionHeld3
import Derived.Test.YthfdfenggooalaaDoorXW
import Derived.Test.YthfdfenggooalaaDoorW1
import Derived.Test.YthfdfenggooalaaDoorW2
import Derived.Test.YthfdfenggooalaaDoorW3
import Derived.Test.YthfdfenggooalaaDoorW4
set_option linter.unusedVariables false
set_option linter.unusedSimpArgs false
namespace Go.Proofs.YthfdfenggooalaaDoor
open Go.RowKit Go.Proofs.YthfdfenggooalaaDoor.XW

theorem hu20 : Tryd.prog.underlying 20 = some (.interface (Tryd.prog.methodsAt 20)) := by kernel_rfl
@[go_sem] theorem assert_map_map (m : Addr) (w : World) : (Instr.typeAssert (.iface 73 (.pointer (some m))) 20 73 true).run Tryd.prog w = .ok (.tuple #[.pointer (some m), .bool true]) w := by kernel_rfl
@[go_sem] theorem assert_nil_map (w : World) : (Instr.typeAssert .nilIface 20 73 true).run Tryd.prog w = .ok (.tuple #[.pointer none, .bool false]) w := by kernel_rfl
@[go_sem] theorem assert_nil_red (w : World) : (Instr.typeAssert .nilIface 20 76 true).run Tryd.prog w = .ok (.tuple #[.pointer none, .bool false]) w := by kernel_rfl

set_option maxHeartbeats 400000 in
theorem code_any (n : Int) (w : World) : Calls Tryd.prog 10 #[.int .i64 n] w fun e w' => e = .returned (.int .i64 n) ∧ w = w' := by
  go_enter Tryd.func10, Tryd.ntmps10
  go_wp2
  go_ret
  exact ⟨rfl, rfl⟩

set_option maxHeartbeats 400000 in
theorem busy_nil (w : World) : Calls Tryd.prog 15 #[.pointer none] w fun e w' => e = .returned (.tuple #[.int .i64 0, .int .i64 0, .int .i64 0, .bool false]) ∧ w = w' := by
  go_enter Tryd.func15, Tryd.ntmps15
  go_wp2
  exact bodyPost_ret (v := .tuple #[.int .i64 0, .int .i64 0, .int .i64 0, .bool false]) (by simp [results, Tryd.results15, go_sem]) rfl ⟨rfl, rfl⟩

set_option maxHeartbeats 400000 in
theorem has_nil (w : World) : Calls Tryd.prog 16 #[.pointer none] w fun e w' => e = .returned (.int .i64 0) ∧ w = w' := by
  go_enter Tryd.func16, Tryd.ntmps16
  go_wp2
  go_ret
  exact ⟨rfl, rfl⟩

set_option maxHeartbeats 400000 in
theorem step_nil (w : World) : Calls Tryd.prog 13 #[.pointer none] w fun e w' => e = .returned (.slice none 0 0) ∧ w = w' := by
  go_enter Tryd.func13, Tryd.ntmps13
  go_wp2
  go_ret
  exact ⟨rfl, rfl⟩

set_option maxRecDepth 100000 in
set_option maxHeartbeats 400000 in
theorem handle_nil (f k x y z : Int) (aw a1 a2 : Option Addr) (nw cw n1 c1 n2 c2 : Nat) (w : World) :
    Calls Tryd.prog 11 #[.pointer none, .int .i64 f, .agg #[.int .i64 k, .int .i64 x, .int .i64 y, .int .i64 z, .slice aw nw cw, .slice a1 n1 c1, .slice a2 n2 c2]] w fun e w' => e = .returned (.slice none 0 0) ∧ Keeps w w' (fun _ => False) := by
  go_enter Tryd.func11, Tryd.ntmps11
  go_wp2
  go_ret
  exact ⟨rfl, (Keeps.refl _ _).alloc _⟩

set_option maxRecDepth 100000 in
set_option maxHeartbeats 400000 in
theorem busy_map (b : Nat) (cs : Array Value) (m : Nat) (x y : Int) (w : World) (hW : Whole w b 72 cs) (h15 : cs[15]? = some (.iface 73 (.pointer (some ⟨m, 0, none⟩)))) (hM : Whole w m 75 #[.int .i64 x, .int .i64 y]) :
    Calls Tryd.prog 15 #[.pointer (some ⟨b, 0, none⟩)] w fun e w' => e = .returned (.tuple #[.int .i64 1, .int .i64 x, .int .i64 y, .bool true]) ∧ Keeps w w' (fun _ => False) := by
  have hc := (hW.cell 15).trans h15
  have hm0 := hM.cell 0
  have hm1 := hM.cell 1
  simp at hm0 hm1
  clear h15 hW hM
  go_enter Tryd.func15, Tryd.ntmps15
  go_wp2
  go_quiet (fail)
  go_wp2
  exact bodyPost_ret (v := .tuple #[.int .i64 1, .int .i64 x, .int .i64 y, .bool true]) (by simp [results, Tryd.results15, go_sem]) rfl ⟨rfl, (Keeps.refl _ _).drewN _⟩

set_option maxHeartbeats 400000 in
theorem has_map (b : Nat) (cs : Array Value) (m : Addr) (w : World) (hW : Whole w b 72 cs) (h15 : cs[15]? = some (.iface 73 (.pointer (some m)))) :
    Calls Tryd.prog 16 #[.pointer (some ⟨b, 0, none⟩)] w fun e w' => e = .returned (.int .i64 0) ∧ w = w' := by
  have Hr := XW.hid (reduces_map b cs m w hW h15)
  clear h15 hW
  go_enter Tryd.func16, Tryd.ntmps16
  go_wp2_with (go_at_call 27; refine Hr.out.mono ?_; rintro e w' ⟨rfl, rfl⟩)
  go_ret
  exact ⟨rfl, rfl⟩

set_option maxHeartbeats 800000 in
theorem lacks_map (b : Nat) (cs : Array Value) (m : Addr) (k x y z : Int) (aw a1 a2 : Option Addr) (nw cw n1 c1 n2 c2 : Nat) (w : World) (hW : Whole w b 72 cs) (h15 : cs[15]? = some (.iface 73 (.pointer (some m)))) :
    Calls Tryd.prog 24 #[.pointer (some ⟨b, 0, none⟩), .agg #[.int .i64 k, .int .i64 x, .int .i64 y, .int .i64 z, .slice aw nw cw, .slice a1 n1 c1, .slice a2 n2 c2]] w fun e w' => e = .returned (.pointer none) ∧ Keeps w w' (fun _ => False) := by
  have Hr := XW.hid (fun o => reduces_map b cs m (w.alloc o) (hW.alloc o) h15)
  clear h15 hW
  go_enter Tryd.func24, Tryd.ntmps24
  go_wp2_with (go_at_call 27; refine (Hr.out _).mono ?_; rintro e w' ⟨rfl, rfl⟩)
  go_quiet (fail)
  go_wp2
  go_ret
  exact ⟨rfl, ((Keeps.refl _ _).alloc _).drewN _⟩

theorem set_same {cs : Array Value} {i : Nat} {v : Value} (h : cs[i]? = some v) : cs.setIfInBounds i v = cs := by
  apply Array.ext_getElem?
  intro j
  rw [Array.getElem?_setIfInBounds]
  split
  · rename_i e
    subst e
    have := (Array.getElem?_eq_some_iff.1 h).1
    rw [if_pos this, h]
  · rfl
theorem set_set (cs : Array Value) (i : Nat) (v u : Value) : (cs.setIfInBounds i v).setIfInBounds i u = cs.setIfInBounds i u := by
  apply Array.ext_getElem?
  intro j
  simp only [Array.getElem?_setIfInBounds, Array.size_setIfInBounds]
  split <;> simp_all
theorem get_set {cs : Array Value} {i : Nat} {v : Value} (h : i < cs.size) : (cs.setIfInBounds i v)[i]? = some v := by
  simp [Array.getElem?_setIfInBounds, h]
theorem get_set_ne {cs : Array Value} {i j : Nat} {v : Value} (h : i ≠ j) : (cs.setIfInBounds i v)[j]? = cs[j]? := by
  simp [Array.getElem?_setIfInBounds, h]

/-- A note that a busy worker leaves alone: nothing is sent. -/
def Left (w w' : World) (b : Nat) (cs : Array Value) (e : Ending) : Prop := e = .returned (.slice none 0 0) ∧ Whole w' b 72 cs ∧ Keeps w w' (fun k => k = b)
theorem left_of {w w1 : World} {b : Nat} {cs : Array Value} (h16 : cs[16]? = some (.slice none 0 0)) (hW : Whole w1 b 72 cs) (hk : Keeps w w1 (fun _ => False)) :
    Left w (w1.setCell ⟨b, 16, none⟩ (.slice none 0 0)) b cs (.returned (.slice none 0 0)) := by
  refine ⟨rfl, ?_, (hk.weaken fun _ h => h.elim).store _ _ (.inl rfl)⟩
  have h := hW.store 16 (.slice none 0 0)
  rwa [set_same h16] at h
theorem left_of2 {w : World} {b : Nat} {cs : Array Value} (h16 : cs[16]? = some (.slice none 0 0)) (hW : Whole w b 72 cs) (o : Obj) :
    Left w ((w.setCell ⟨b, 16, none⟩ (.slice none 0 0)).alloc o) b cs (.returned (.slice none 0 0)) := by
  refine ⟨rfl, ?_, ((Keeps.refl w (fun k => k = b)).store ⟨b, 16, none⟩ (.slice none 0 0) (.inl rfl)).alloc o⟩
  have h := hW.store 16 (.slice none 0 0)
  rw [set_same h16] at h
  exact h.alloc o

set_option maxRecDepth 100000 in
set_option maxHeartbeats 1600000 in
theorem handle_map (b : Nat) (cs : Array Value) (m : Addr) (f x y z : Int) (aw a1 a2 : Option Addr) (nw cw n1 c1 n2 c2 : Nat) (w : World) (hW : Whole w b 72 cs) (h15 : cs[15]? = some (.iface 73 (.pointer (some m)))) (h16 : cs[16]? = some (.slice none 0 0)) :
    Calls Tryd.prog 11 #[.pointer (some ⟨b, 0, none⟩), .int .i64 f, .agg #[.int .i64 1, .int .i64 x, .int .i64 y, .int .i64 z, .slice aw nw cw, .slice a1 n1 c1, .slice a2 n2 c2]] w fun e w' => Left w w' b cs e := by
  have HW := XW.hid hW
  have H16 := XW.hid h16
  have H15 := XW.hid h15
  have hq := fun w => run_eql_held_nil (P := Tryd.prog) (w := w) 20 73 (.pointer (some m)) hu20
  have hlt := hW.lt
  have hc15 := (hW.cell 15).trans h15
  clear hW h15 h16
  go_enter Tryd.func11, Tryd.ntmps11
  go_wp2_with fail
  go_quiet (fail)
  go_wp2_with fail
  refine (sent_any b cs _ _ ((HW.out.alloc _).drewN _) H16.out).mono ?_
  rintro e w' ⟨rfl, rfl⟩
  go_wp2
  go_ret
  exact left_of H16.out ((HW.out.alloc _).drewN _) (((Keeps.refl _ _).alloc _).drewN _)

set_option maxRecDepth 100000 in
set_option maxHeartbeats 1600000 in
theorem handle_reduce (b : Nat) (cs : Array Value) (m : Addr) (f x y z : Int) (aw a1 a2 : Option Addr) (nw cw n1 c1 n2 c2 : Nat) (w : World) (hW : Whole w b 72 cs) (h15 : cs[15]? = some (.iface 73 (.pointer (some m)))) (h16 : cs[16]? = some (.slice none 0 0)) :
    Calls Tryd.prog 11 #[.pointer (some ⟨b, 0, none⟩), .int .i64 f, .agg #[.int .i64 3, .int .i64 x, .int .i64 y, .int .i64 z, .slice aw nw cw, .slice a1 n1 c1, .slice a2 n2 c2]] w fun e w' => Left w w' b cs e := by
  have HW := XW.hid hW
  have H16 := XW.hid h16
  have H15 := XW.hid h15
  have hq := fun w => run_eql_held_nil (P := Tryd.prog) (w := w) 20 73 (.pointer (some m)) hu20
  have hlt := hW.lt
  have hc15 := (hW.cell 15).trans h15
  clear hW h15 h16
  go_enter Tryd.func11, Tryd.ntmps11
  go_wp2_with fail
  go_quiet (fail)
  go_wp2_with fail
  refine (sent_any b cs _ _ ((HW.out.alloc _).drewN _) H16.out).mono ?_
  rintro e w' ⟨rfl, rfl⟩
  go_wp2
  go_ret
  exact left_of H16.out ((HW.out.alloc _).drewN _) (((Keeps.refl _ _).alloc _).drewN _)

set_option maxRecDepth 100000 in
set_option maxHeartbeats 1600000 in
theorem handle_data (b : Nat) (cs : Array Value) (m : Addr) (f x y z : Int) (aw a1 a2 : Option Addr) (nw cw n1 c1 n2 c2 : Nat) (w : World) (hW : Whole w b 72 cs) (h15 : cs[15]? = some (.iface 73 (.pointer (some m)))) (h16 : cs[16]? = some (.slice none 0 0)) :
    Calls Tryd.prog 11 #[.pointer (some ⟨b, 0, none⟩), .int .i64 f, .agg #[.int .i64 5, .int .i64 x, .int .i64 y, .int .i64 z, .slice aw nw cw, .slice a1 n1 c1, .slice a2 n2 c2]] w fun e w' => Left w w' b cs e := by
  have HW := XW.hid hW
  have H16 := XW.hid h16
  have H15 := XW.hid h15
  have hq := fun w => run_eql_held_nil (P := Tryd.prog) (w := w) 20 73 (.pointer (some m)) hu20
  have hlt := hW.lt
  have hc15 := (hW.cell 15).trans h15
  clear hW h15 h16
  go_enter Tryd.func11, Tryd.ntmps11
  go_wp2_with fail
  refine (lacks_map b cs m 5 x y z aw a1 a2 nw cw n1 c1 n2 c2 _ (HW.out.alloc _) H15.out).mono ?_
  rintro e w1 ⟨rfl, hk1⟩
  have hk0 := ((Keeps.refl w (fun _ => False)).alloc _).then hk1 fun _ h => .inl h
  have Hk0 := XW.hid hk0
  clear hk1 hk0
  go_wp2_with fail
  refine (sent_any b cs _ _ (Hk0.out.whole HW.out (by simp)) H16.out).mono ?_
  rintro e w' ⟨rfl, rfl⟩
  go_wp2
  go_ret
  exact left_of H16.out (Hk0.out.whole HW.out (by simp)) Hk0.out

set_option maxRecDepth 100000 in
set_option maxHeartbeats 1600000 in
theorem handle_lost (b : Nat) (cs : Array Value) (m : Addr) (f x y z : Int) (aw a1 a2 : Option Addr) (nw cw n1 c1 n2 c2 : Nat) (w : World) (hW : Whole w b 72 cs) (h15 : cs[15]? = some (.iface 73 (.pointer (some m)))) (h16 : cs[16]? = some (.slice none 0 0)) :
    Calls Tryd.prog 11 #[.pointer (some ⟨b, 0, none⟩), .int .i64 f, .agg #[.int .i64 6, .int .i64 x, .int .i64 y, .int .i64 z, .slice aw nw cw, .slice a1 n1 c1, .slice a2 n2 c2]] w fun e w' => Left w w' b cs e := by
  have HW := XW.hid hW
  have H16 := XW.hid h16
  have H15 := XW.hid h15
  have hq := fun w => run_eql_held_nil (P := Tryd.prog) (w := w) 20 73 (.pointer (some m)) hu20
  have hlt := hW.lt
  have hc15 := (hW.cell 15).trans h15
  clear hW h15 h16
  go_enter Tryd.func11, Tryd.ntmps11
  go_wp2_with fail
  refine (lacks_map b cs m 6 x y z aw a1 a2 nw cw n1 c1 n2 c2 _ (HW.out.alloc _) H15.out).mono ?_
  rintro e w1 ⟨rfl, hk1⟩
  have hk0 := ((Keeps.refl w (fun _ => False)).alloc _).then hk1 fun _ h => .inl h
  have Hk0 := XW.hid hk0
  clear hk1 hk0
  go_wp2_with fail
  refine (sent_any b cs _ _ (Hk0.out.whole HW.out (by simp)) H16.out).mono ?_
  rintro e w' ⟨rfl, rfl⟩
  go_wp2
  go_ret
  exact left_of H16.out (Hk0.out.whole HW.out (by simp)) Hk0.out

set_option maxRecDepth 100000 in
set_option maxHeartbeats 1600000 in
theorem handle_taken (b : Nat) (cs : Array Value) (m : Addr) (f x y z : Int) (aw a1 a2 : Option Addr) (nw cw n1 c1 n2 c2 : Nat) (w : World) (hW : Whole w b 72 cs) (h15 : cs[15]? = some (.iface 73 (.pointer (some m)))) (h16 : cs[16]? = some (.slice none 0 0)) :
    Calls Tryd.prog 11 #[.pointer (some ⟨b, 0, none⟩), .int .i64 f, .agg #[.int .i64 9, .int .i64 x, .int .i64 y, .int .i64 z, .slice aw nw cw, .slice a1 n1 c1, .slice a2 n2 c2]] w fun e w' => Left w w' b cs e := by
  have HW := XW.hid hW
  have H16 := XW.hid h16
  have H15 := XW.hid h15
  have hq := fun w => run_eql_held_nil (P := Tryd.prog) (w := w) 20 73 (.pointer (some m)) hu20
  have hlt := hW.lt
  have hc15 := (hW.cell 15).trans h15
  clear hW h15 h16
  go_enter Tryd.func11, Tryd.ntmps11
  go_wp2_with fail
  refine (reduces_map b cs m _ (HW.out.alloc _) H15.out).mono ?_
  rintro e w1 ⟨rfl, rfl⟩
  go_wp2_with fail
  go_quiet (fail)
  go_wp2_with fail
  refine (sent_any b cs _ _ ((HW.out.alloc _).drewN _) H16.out).mono ?_
  rintro e w' ⟨rfl, rfl⟩
  go_wp2
  go_ret
  exact left_of H16.out ((HW.out.alloc _).drewN _) (((Keeps.refl _ _).alloc _).drewN _)

set_option maxRecDepth 100000 in
set_option maxHeartbeats 1600000 in
theorem handle_else (b : Nat) (cs : Array Value) (m : Addr) (f k x y z : Int) (aw a1 a2 : Option Addr) (nw cw n1 c1 n2 c2 : Nat) (w : World) (hW : Whole w b 72 cs) (h15 : cs[15]? = some (.iface 73 (.pointer (some m)))) (h16 : cs[16]? = some (.slice none 0 0)) (k1 : (k == 1) = false) (k3 : (k == 3) = false) (k4 : (k == 4) = false) (k5 : (k == 5) = false) (k6 : (k == 6) = false) (k9 : (k == 9) = false) :
    Calls Tryd.prog 11 #[.pointer (some ⟨b, 0, none⟩), .int .i64 f, .agg #[.int .i64 k, .int .i64 x, .int .i64 y, .int .i64 z, .slice aw nw cw, .slice a1 n1 c1, .slice a2 n2 c2]] w fun e w' => Left w w' b cs e := by
  have HW := XW.hid hW
  have H16 := XW.hid h16
  have H15 := XW.hid h15
  have hq := fun w => run_eql_held_nil (P := Tryd.prog) (w := w) 20 73 (.pointer (some m)) hu20
  have hlt := hW.lt
  have hc15 := (hW.cell 15).trans h15
  clear hW h15 h16
  go_enter Tryd.func11, Tryd.ntmps11
  go_wp2_with fail
  refine (sent_any b cs _ _ (HW.out.alloc _) H16.out).mono ?_
  rintro e w' ⟨rfl, rfl⟩
  go_wp2
  go_ret
  exact left_of2 H16.out HW.out _

/-- What is handed out when a file is wanted that is not there. -/
def Gave (w w' : World) (b : Nat) (cs : Array Value) (to x y z : Int) (e : Ending) : Prop :=
  ∃ v base, e = .returned v ∧ w'.ownsRow base 64 8 v 1 [.int .i64 to, .int .i64 6, .int .i64 x, .int .i64 y, .int .i64 z, .slice none 0 0, .slice none 0 0, .slice none 0 0] ∧ Whole w' b 72 cs ∧ Keeps w w' (fun k => k = b)
theorem gave_of {w w0 w1 : World} {b base : Nat} {cs : Array Value} {to x y z : Int} (h16 : cs[16]? = some (.slice none 0 0)) (hk : Keeps w w0 (fun _ => False))
    (h : Sent w0 w1 b cs base (.slice none 0 0) 1 [.int .i64 to, .int .i64 6, .int .i64 x, .int .i64 y, .int .i64 z, .slice none 0 0, .slice none 0 0, .slice none 0 0]) (hsz : cs.size = 17) :
    ∃ v, Whole w1 b 72 (cs.setIfInBounds 16 v) ∧ (cs.setIfInBounds 16 v)[16]? = some v ∧ Gave w (w1.setCell ⟨b, 16, none⟩ (.slice none 0 0)) b cs to x y z (.returned v) := by
  obtain ⟨v, h1, h2, h3, _⟩ := h
  refine ⟨v, h1, get_set (by omega), v, base, rfl, own_store h2 _ _ (own_apart h2 h1 (by decide)), ?_, ?_⟩
  · have h4 := h1.store 16 (.slice none 0 0)
    rwa [set_set, set_same h16] at h4
  · exact ((hk.weaken fun _ h => h.elim).then h3 fun k h => by
      rcases h with h | h
      · exact .inl h
      · simp [Value.ownBlock] at h).store _ _ (.inl rfl)

set_option maxRecDepth 100000 in
set_option maxHeartbeats 1600000 in
theorem handle_fetch (b d mm : Nat) (cs : Array Value) (f x y z : Int) (aw a1 a2 : Option Addr) (nw cw n1 c1 n2 c2 : Nat) (w : World) (hW : Whole w b 72 cs) (hsz : cs.size = 17) (h14 : cs[14]? = some (.pointer (some ⟨d, 0, none⟩))) (h16 : cs[16]? = some (.slice none 0 0)) (hD : Disk w d mm)
    (ha0 : -9223372036854775808 ≤ x) (ha1 : x ≤ 9223372036854775807) (hb0 : -9223372036854775808 ≤ y) (hb1 : y ≤ 9223372036854775807) (hc0 : -9223372036854775808 ≤ z) (hc1 : z ≤ 9223372036854775807) (htab : Tab w) :
    Calls Tryd.prog 11 #[.pointer (some ⟨b, 0, none⟩), .int .i64 f, .agg #[.int .i64 4, .int .i64 x, .int .i64 y, .int .i64 z, .slice aw nw cw, .slice a1 n1 c1, .slice a2 n2 c2]] w fun e w' => Gave w w' b cs f x y z e := by
  have hf := fun o => fetch_empty b d mm cs f 4 x y z aw a1 a2 nw cw n1 c1 n2 c2 (w.alloc o) (hW.alloc _) h14 h16 (hD.keep ((Keeps.refl w (fun _ => False)).alloc _) (by simp) (by simp)) ha0 ha1 hb0 hb1 hc0 hc1 (htab.keep ((Keeps.refl w (fun _ => False)).alloc _))
  have Hf := XW.hid hf
  have H16 := XW.hid h16
  have Hsz := XW.hid hsz
  clear hW h14 h16 hD htab hf ha0 ha1 hb0 hb1 hc0 hc1 hsz
  go_enter Tryd.func11, Tryd.ntmps11
  go_wp2_with fail
  refine (Hf.out _).mono ?_
  rintro e w1 ⟨rfl, hs⟩
  obtain ⟨v, h1, h2, h3⟩ := gave_of H16.out ((Keeps.refl w (fun _ => False)).alloc _) hs Hsz.out
  have H1 := XW.hid h1
  have H2 := XW.hid h2
  have H3 := XW.hid h3
  clear hs h1 h2 h3
  go_wp2_with fail
  refine (sent_any b _ _ _ H1.out H2.out).mono ?_
  rintro e w' ⟨rfl, rfl⟩
  go_wp2
  go_ret
  exact H3.out

end Go.Proofs.YthfdfenggooalaaDoor
