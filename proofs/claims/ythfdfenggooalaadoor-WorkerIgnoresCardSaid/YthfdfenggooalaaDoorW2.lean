/-
  Walks over an empty disk: no file is there.
-/
import Derived.Test.YthfdfenggooalaaDoorProg
import Derived.WalkKit
import Derived.WalkLawsBesides
import Derived.WalkSpells
import Derived.Outline
import Derived.Below
import Derived.RegionTactic
import Derived.BigRegion
import Derived.Deep.QuietTactic
import Derived.BigQuiet
import Derived.ChangeAlike
import Derived.Deep.RegionLaw
import Derived.Deep.RegionWith
import Derived.Laws.Closers25
import Derived.Lib.LaidTab
import Derived.Lib.ItoaNum
import Derived.WalkSmall
import Derived.MapKept
import Derived.OwnWalk
import Derived.LoopTactic
import Derived.IntWalk
import Derived.Test.YthfdfenggooalaaDoorXW
set_option linter.unusedVariables false
set_option linter.unusedSimpArgs false
namespace Go.Proofs.YthfdfenggooalaaDoor
open Go.RowKit Go.Proofs.YthfdfenggooalaaDoor.XW
theorem check_string (n : Nat) (b : Bool) (s : ByteArray) (w : World) : (Instr.checkKey b (n + 1) 9 (.string s)).run Tryd.prog w = .ok () w := by
  simp [Instr.checkKey, run_underlying Tryd.underlying9]
theorem zeroFile (w : World) : (zeroValue 127).run Tryd.prog w = .ok (.agg #[.slice none 0 0, .int .i64 0, .bool false]) w := by kernel_rfl
theorem look_file_empty (s : ByteArray) (mb c : Nat) (w : World) (h : w.heap[mb]? = some (.map #[] c)) :
    (Instr.lookup 65 (.map (some mb)) (.string s) true).run Tryd.prog w = .ok (.tuple #[.agg #[.slice none 0 0, .int .i64 0, .bool false], .bool false]) w := by
  have hc := check_string 9999 true s w
  simp [Instr.lookup, run_underlying Tryd.underlying65, MapKept.run_getObj_map h, Instr.findKey, run_underlying Tryd.underlying9, Instr.findNow, hc]

def ofNo (s : ByteArray) : Int := if s.size = 0 ∨ 64 < s.size then 1 else 6
theorem ofNo_ne (s : ByteArray) : (ofNo s == 0) = false ∧ (ofNo s != 0) = true := by
  unfold ofNo; split <;> decide
def Disk (w : World) (d m : Nat) : Prop := ∃ (c : Nat) (room fuse : Int) (armed : Bool), Whole w d 67 #[.int .i64 room, .map (some m), .bool armed, .int .i64 fuse] ∧ w.heap[m]? = some (.map #[] c)

theorem empty_of (s : ByteArray) (hs : s.size = 0) : s.toList.isEmpty = true := by
  have h : s = ByteArray.empty := by simpa using hs
  rw [← decide_eq_emptyBytes s]; simpa using h
theorem empty_not (s : ByteArray) (hs : ¬ s.size = 0) : s.toList.isEmpty = false := by
  have h : ¬ s = ByteArray.empty := by simpa using hs
  rw [← decide_eq_emptyBytes s]; simpa using h
set_option maxHeartbeats 400000 in
theorem right_bad (d : Nat) (s : ByteArray) (w : World) (hs : s.size = 0 ∨ 64 < s.size) :
    Calls Tryd.prog 61 #[.pointer (some ⟨d, 0, none⟩), .string s] w fun e w' => e = .returned (.int .i64 1) ∧ w = w' := by
  by_cases h : s.size = 0
  · have h0 := empty_of s h
    clear hs h
    go_enter Tryd.func61, Tryd.ntmps61
    go_wp2
    go_ret
    exact ⟨rfl, rfl⟩
  · have h0 := empty_not s h
    have h1 : 64 < s.size := by omega
    clear hs h
    go_enter Tryd.func61, Tryd.ntmps61
    go_wp2
    go_ret
    exact ⟨rfl, rfl⟩

set_option maxHeartbeats 400000 in
theorem right_ok (d : Nat) (s : ByteArray) (w : World) (hs : ¬ (s.size = 0 ∨ 64 < s.size)) :
    Calls Tryd.prog 61 #[.pointer (some ⟨d, 0, none⟩), .string s] w fun e w' => e = .returned (.int .i64 0) ∧ w = w' := by
  have h1 : ¬ 64 < s.size := fun h => hs (.inr h)
  have h0 := empty_not s fun h => hs (.inl h)
  clear hs
  go_enter Tryd.func61, Tryd.ntmps61
  go_wp2
  go_ret
  exact ⟨rfl, rfl⟩

theorem ofNo_bad (s : ByteArray) (hs : s.size = 0 ∨ 64 < s.size) : ofNo s = 1 := if_pos hs
theorem ofNo_ok (s : ByteArray) (hs : ¬ (s.size = 0 ∨ 64 < s.size)) : ofNo s = 6 := if_neg hs

set_option maxHeartbeats 400000 in
theorem of_empty (d m : Nat) (s : ByteArray) (w : World) (hD : Disk w d m) :
    Calls Tryd.prog 55 #[.pointer (some ⟨d, 0, none⟩), .string s] w fun e w' => e = .returned (.tuple #[.agg #[.slice none 0 0, .int .i64 0, .bool false], .int .i64 (ofNo s)]) ∧ Keeps w w' (fun _ => False) := by
  obtain ⟨c, room, fuse, armed, hd, hm⟩ := hD
  by_cases hs : s.size = 0 ∨ 64 < s.size
  · rw [ofNo_bad s hs]
    have hr := fun w => right_bad d s w hs
    have Hr := XW.hid hr
    clear hr hs
    go_enter Tryd.func55, Tryd.ntmps55
    go_wp2_with (go_at_call 61; refine (Hr.out _).mono ?_; rintro e w' ⟨rfl, rfl⟩)
    exact bodyPost_ret (v := .tuple #[.agg #[.slice none 0 0, .int .i64 0, .bool false], .int .i64 1]) (by simp [results, Tryd.results55, go_sem]) rfl ⟨rfl, (Keeps.refl _ _).alloc _⟩
  · rw [ofNo_ok s hs]
    have hr := fun w => right_ok d s w hs
    have Hr := XW.hid hr
    clear hr hs
    have hc := hd.cell 1
    have hlt := hd.lt
    have hlk : ∀ o, (Instr.lookup 65 (.map (some m)) (.string s) true).run Tryd.prog (w.alloc o) = .ok (.tuple #[.agg #[.slice none 0 0, .int .i64 0, .bool false], .bool false]) (w.alloc o) := fun o => look_file_empty s m c _ ((Below.heap_alloc w o m (Array.getElem?_eq_some_iff.1 hm).1).trans hm)
    simp at hc
    go_enter Tryd.func55, Tryd.ntmps55
    go_wp2_with (go_at_call 61; refine (Hr.out _).mono ?_; rintro e w' ⟨rfl, rfl⟩)
    exact bodyPost_ret (v := .tuple #[.agg #[.slice none 0 0, .int .i64 0, .bool false], .int .i64 6]) (by simp [results, Tryd.results55, go_sem]) rfl ⟨rfl, ((Keeps.refl _ _).alloc _).alloc _⟩

set_option maxHeartbeats 400000 in
theorem clone_bytes_nil (w : World) : Calls Tryd.prog 56 #[.slice none 0 0] w fun e w' => e = .returned (.slice none 0 0) ∧ w = w' := by
  have hn := fun w => Lib.run_eql_slice_nil (P := Tryd.prog) w 30 _ none 0 0 0 0 Tryd.underlying30
  go_enter Tryd.func56, Tryd.ntmps56
  go_wp2
  go_ret
  exact ⟨rfl, rfl⟩

set_option maxHeartbeats 400000 in
theorem read_empty (d m : Nat) (s : ByteArray) (w : World) (hD : Disk w d m) :
    Calls Tryd.prog 50 #[.pointer (some ⟨d, 0, none⟩), .string s] w fun e w' => e = .returned (.tuple #[.slice none 0 0, .int .i64 (ofNo s)]) ∧ Keeps w w' (fun _ => False) := by
  have Ho := XW.hid (of_empty d m s w hD)
  go_enter Tryd.func50, Tryd.ntmps50
  go_wp2_with (first | (go_at_call 55; refine Ho.out.mono ?_; rintro e w1 ⟨rfl, hk1⟩) | (go_at_call 56; refine (clone_bytes_nil _).mono ?_; rintro e w' ⟨rfl, rfl⟩))
  go_ret2
  exact ⟨rfl, hk1.alloc _⟩

end Go.Proofs.YthfdfenggooalaaDoor
