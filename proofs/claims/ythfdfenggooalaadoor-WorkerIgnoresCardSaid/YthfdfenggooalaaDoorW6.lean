/-
  Walks over the pieces of the records, and a copy of records.
-/
import Derived.Test.YthfdfenggooalaaDoorProg
import Derived.WalkKit
import Derived.WalkLawsBesides
import Derived.WalkSpells
import Derived.Outline
import Derived.Below
import Derived.RegionTactic
import Derived.BigRegion
import Derived.Deep.QuietTactic
import Derived.BigQuiet
import Derived.ChangeAlike
import Derived.Deep.RegionLaw
import Derived.Deep.RegionWith
import Derived.Laws.Closers25
import Derived.Lib.LaidTab
import Derived.Lib.ItoaNum
import Derived.WalkSmall
import Derived.MapKept
import Derived.OwnWalk
import Derived.LoopTactic
import Derived.IntWalk
import Derived.Deep.LoopGhost
import Derived.Laws.BytesArg
import Derived.Deep.RegionHeld3
import Derived.Test.YthfdfenggooalaaDoorXW
set_option linter.unusedVariables false
set_option linter.unusedSimpArgs false
namespace Go.Proofs.YthfdfenggooalaaDoor
open Go.RowKit Go.Proofs.YthfdfenggooalaaDoor.XW

theorem info104 : (Tryd.prog.info? 104).map (fun i => (i.zero, i.size, i.bytes)) = some (some (.agg #[.int .i64 0, .int .i64 0]), 2, 16) := by kernel_rfl
theorem info56 : (Tryd.prog.info? 56).map (fun i => (i.zero, i.size, i.bytes)) = some (some (.agg #[.int .i64 0, .string ByteArray.empty]), 2, 24) := by kernel_rfl

/-- The bounds of n pieces of one each, one behind the other. -/
def ones : Nat → List Value
  | 0 => []
  | n + 1 => ones n ++ [.int .i64 (n : Int), .int .i64 ((n : Int) + 1)]
theorem ones_length (n : Nat) : (ones n).length = n * 2 := by
  induction n with
  | zero => rfl
  | succ n ih => simp only [ones, List.length_append, ih, List.length_cons, List.length_nil]; omega

def Split (w w' : World) (n : Nat) (e : Ending) : Prop := ∃ v, e = .returned v ∧ w'.ownsRow w.heap.size 104 2 v n (ones n) ∧ Keeps w w' (fun _ => False)

set_option maxRecDepth 100000 in
set_option maxHeartbeats 1000000 in
theorem splits_one (n : Nat) (w : World) (hn : n ≤ 70000) :
    Calls Tryd.prog 21 #[.int .i64 (n : Int), .int .i64 1] w fun e w' => Split w w' n e := by
  obtain ⟨i0, hi, hzz⟩ := Option.map_eq_some_iff.1 info104
  simp only [Prod.mk.injEq] at hzz
  obtain ⟨hz0, hz1, hz2⟩ := hzz
  have Hhi := XW.hid hi
  have Hz0 := XW.hid hz0
  have Hz1 := XW.hid hz1
  have Hz2 := XW.hid hz2
  clear hi hz0 hz1 hz2
  go_enter Tryd.func21, Tryd.ntmps21
  by_cases h0 : n = 0
  · subst h0
    go_wp2
    go_loopw [5, 6] (fun v i wr => v = .slice none 0 0 ∧ i = .int .i64 0 ∧ wr = w) (fun _ _ _ => 0)
    case atStart => exact ⟨rfl, rfl, rfl⟩
    case round =>
      obtain ⟨rfl, rfl, rfl⟩ := hrel
      go_wp2
      go_ret
      exact ⟨_, rfl, World.ownsRow_nil _ _ _ _, Keeps.refl _ _⟩
  · have h1 : 1 ≤ n := by omega
    clear h0
    go_wp2
    go_loopw [5, 6] (fun v i wr => ∃ k : Nat, k ≤ n ∧ i = .int .i64 (k : Int) ∧ wr.ownsRow w.heap.size 104 2 v k (ones k) ∧ Keeps w wr (fun _ => False)) (fun _ i _ => n - (intOf i).toNat)
    case atStart => exact ⟨0, by omega, rfl, World.ownsRow_nil _ _ _ _, Keeps.refl _ _⟩
    case round =>
      obtain ⟨k, hk, rfl, hown, hks⟩ := hrel
      obtain ⟨A, c, rfl⟩ := own_shape hown
      have Hown := XW.hid hown
      have Hks := XW.hid hks
      clear hown hks
      by_cases hlt : k < n
      · have hm : (1 : Int) ≤ (n : Int) - (k : Int) := by omega
        go_wp2_with (at_builtin; refine wpList_append_own _ rfl (.tmp 18) (.tmp 28) 69 rfl w.heap.size 104 i0 _ 2 16 Tryd.underlying69 Hhi.out Hz0.out Hz1.out Hz2.out rfl (by decide) (.slice A k c) k (ones k) rfl (Hown.out.alloc _) ⟨wr.heap.size, 0, none⟩ 1 1 [.int .i64 (k : Int), .int .i64 ((k : Int) + 1)] rfl rfl ?c1 ?c2 ?c3 ?c4 ?c5 ?_)
        case c1 => exact World.news_of_block (cs := #[.int .i64 (k : Int), .int .i64 ((k : Int) + 1)]) (t := 104) (fr := (0, 0)) (heap_alloc_new wr _)
        case c2 => simp [Value.oneCell']
        case c3 => unfold maxLen; omega
        case c4 => omega
        case c5 => have := Hks.out.size; simp; omega
        intro v' w1 hown1 hg _
        have hk1 : Keeps w w1 (fun _ => False) := (Hks.out.alloc _).then (Keeps.of_grown hg) fun b hb => .inr (by
          have := (Hown.out.lt b hb.symm).1
          omega)
        have Hown1 := XW.hid hown1
        have Hk1 := XW.hid hk1
        clear hown1 hk1 hg
        go_wp2
        go_roundw
        case rel => exact ⟨k + 1, by omega, by go_num, Hown1.out, Hk1.out⟩
        case measure => simp [intOf]; omega
      · obtain rfl : k = n := by omega
        go_wp2
        go_ret
        exact ⟨_, rfl, Hown.out, Hks.out⟩

set_option maxHeartbeats 800000 in
theorem clone_recs (A : Option Addr) (n c : Nat) (news : List Value) (w : World) (hl : news.length = n * 2) (hc : n ≤ 100000) (h1 : ∀ u ∈ news, u.oneCell' = true)
    (hr : (A = none ∧ n = 0) ∨ ∃ ad, A = some ad ∧ ∀ j u, news[j]? = some u → w.cell? (ad.add j) = some u) :
    Calls Tryd.prog 20 #[.slice A n c] w fun e w' => ∃ v, e = .returned v ∧ w'.ownsRow w.heap.size 56 2 v n news ∧ Keeps w w' (fun _ => False) := by
  have hn := fun w a => Lib.run_eql_slice_nil (P := Tryd.prog) w 33 _ a n c 0 0 Tryd.underlying33
  rcases hr with ⟨rfl, rfl⟩ | ⟨ad, rfl, hcell⟩
  · obtain rfl : news = [] := List.eq_nil_of_length_eq_zero (by simpa using hl)
    clear hl
    go_enter Tryd.func20, Tryd.ntmps20
    go_wp2
    go_ret
    exact ⟨_, rfl, World.ownsRow_nil _ _ _ _, Keeps.refl _ _⟩
  · obtain ⟨i0, hi, hzz⟩ := Option.map_eq_some_iff.1 info56
    simp only [Prod.mk.injEq] at hzz
    obtain ⟨hz0, hz1, hz2⟩ := hzz
    have Hhi := XW.hid hi
    have Hz0 := XW.hid hz0
    have Hz1 := XW.hid hz1
    have Hz2 := XW.hid hz2
    have Hl := XW.hid hl
    have Hcell := XW.hid hcell
    have H1 := XW.hid h1
    clear hi hz0 hz1 hz2 hl hcell h1
    go_enter Tryd.func20, Tryd.ntmps20
    go_wp2_with (at_builtin; refine wpList_append_own _ rfl (.tmp 5) (.tmp 6) 33 rfl w.heap.size 56 i0 _ 2 24 Tryd.underlying33 Hhi.out Hz0.out Hz1.out Hz2.out rfl (by decide) _ 0 [] rfl (World.ownsRow_lit w #[] 0 (Nat.le_refl _) (by unfold maxLen; omega) rfl) ad n c news rfl Hl.out ?c2 H1.out ?c3 ?c4 ?c5 ?_)
    case c2 => exact fun j u hu => (World.cell?_alloc_lt _ _ _ (by
      have := Hcell.out j u hu
      exact World.block_lt_of_cell? w _ this)).trans (Hcell.out j u hu)
    case c3 => unfold maxLen; omega
    case c4 => omega
    case c5 => simp
    intro v' w' hown hg _
    have Hown := XW.hid hown
    clear hown
    go_wp2
    go_ret
    exact ⟨_, rfl, by simpa using Hown.out, ((Keeps.refl w (fun _ => False)).alloc _).then (Keeps.of_grown hg) fun k h => .inr (by simp [Value.ownBlock] at h; omega)⟩

end Go.Proofs.YthfdfenggooalaaDoor
