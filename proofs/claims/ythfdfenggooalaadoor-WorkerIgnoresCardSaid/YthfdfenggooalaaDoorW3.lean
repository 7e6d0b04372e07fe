/-
  Walks over the names of files: a short text, whatever the numbers.
-/
import Derived.Test.YthfdfenggooalaaDoorProg
import Derived.WalkKit
import Derived.WalkLawsBesides
import Derived.WalkSpells
import Derived.Outline
import Derived.Below
import Derived.RegionTactic
import Derived.BigRegion
import Derived.Deep.QuietTactic
import Derived.BigQuiet
import Derived.ChangeAlike
import Derived.Deep.RegionLaw
import Derived.Deep.RegionWith
import Derived.Laws.Closers25
import Derived.Lib.LaidTab
import Derived.Lib.ItoaNum
import Derived.WalkSmall
import Derived.MapKept
import Derived.OwnWalk
import Derived.LoopTactic
import Derived.IntWalk
import Derived.Test.YthfdfenggooalaaDoorXW
import Derived.Test.YthfdfenggooalaaDoorW1
import Derived.Test.YthfdfenggooalaaDoorW2
import Derived.Test.YthfdfenggooalaaDoorWI
set_option linter.unusedVariables false
set_option linter.unusedSimpArgs false
namespace Go.Proofs.YthfdfenggooalaaDoor
open Go.RowKit Go.Proofs.YthfdfenggooalaaDoor.XW

def Tab (w : World) : Prop := Lib.TabIs Tryd.prog w "internal/strconv.uint64pow10" .u64 Lib.pow10Tab

def Numeral (w w' : World) (e : Ending) : Prop := ∃ s : ByteArray, e = .returned (.string s) ∧ s.size ≤ 21 ∧ Keeps w w' (fun _ => False)
theorem keeps_grow (w : World) (k : Nat) (os : Array Obj) : Keeps w (Go.Sort.grow (w.drewN k) os) (fun _ => False) :=
  ⟨rfl, rfl, rfl, by show w.heap.size ≤ (w.heap ++ os).size; simp, fun i hi _ => by show (w.heap ++ os)[i]? = _; rw [Array.getElem?_append_left hi]⟩
theorem itoa_any (n : Int) (w : World) (h0 : -9223372036854775808 ≤ n) (h1 : n ≤ 9223372036854775807) (htab : Tab w) :
    Calls Tryd.prog 57 #[.int .i64 n] w fun e w' => Numeral w w' e :=
  (itoa_made n h0 h1 w htab).mono fun e w' h => by
    obtain ⟨s, rfl, hs, k, os, rfl⟩ := h
    exact ⟨s, rfl, hs, keeps_grow w k os⟩

theorem Tab.keep {w w' : World} (h : Tab w) (hk : Keeps w w' (fun _ => False)) : Tab w' := by
  unfold Tab Lib.TabIs at *
  cases hg : Tryd.prog.globalNamed "internal/strconv.uint64pow10" with
  | none => simp [World.var?, hg] at h
  | some g =>
    refine var?_below hk.below hg ?_ h
    simp only [World.var?, hg, Option.bind_some] at h
    cases hh : w.heap[g]? with
    | none => simp [hh] at h
    | some o => exact (Array.getElem?_eq_some_iff.1 hh).1

def SomeText (w w' : World) (e : Ending) : Prop := ∃ s : ByteArray, e = .returned (.string s) ∧ Keeps w w' (fun _ => False)

set_option maxHeartbeats 400000 in
theorem name_any (a b c : Int) (w : World) (ha0 : -9223372036854775808 ≤ a) (ha1 : a ≤ 9223372036854775807) (hb0 : -9223372036854775808 ≤ b) (hb1 : b ≤ 9223372036854775807) (hc0 : -9223372036854775808 ≤ c) (hc1 : c ≤ 9223372036854775807) (htab : Tab w) :
    Calls Tryd.prog 51 #[.int .i64 a, .int .i64 b, .int .i64 c] w fun e w' => SomeText w w' e := by
  have Ht := XW.hid htab
  clear htab
  go_enter Tryd.func51, Tryd.ntmps51
  go_wp2_with fail
  refine (itoa_any a _ ha0 ha1 Ht.out).mono ?_
  rintro e w1 ⟨s1, rfl, hs1, hk1⟩
  go_wp2_with fail
  refine (itoa_any b _ hb0 hb1 (Ht.out.keep hk1)).mono ?_
  rintro e w2 ⟨s2, rfl, hs2, hk2⟩
  go_wp2_with fail
  refine (itoa_any c _ hc0 hc1 ((Ht.out.keep hk1).keep hk2)).mono ?_
  rintro e w3 ⟨s3, rfl, hs3, hk3⟩
  go_wp2
  go_ret
  exact ⟨_, rfl, (hk1.then hk2 fun _ h => .inl h).then hk3 fun _ h => .inl h⟩

end Go.Proofs.YthfdfenggooalaaDoor
