/-
  Walks over the worker: a file that is not there, and what is sent then.
-/
import Derived.Test.YthfdfenggooalaaDoorProg
import Derived.WalkKit
import Derived.WalkLawsBesides
import Derived.WalkSpells
import Derived.Outline
import Derived.Below
import Derived.RegionTactic
import Derived.BigRegion
import Derived.Deep.QuietTactic
import Derived.BigQuiet
import Derived.ChangeAlike
import Derived.Deep.RegionLaw
import Derived.Deep.RegionWith
import Derived.Laws.Closers25
import Derived.Lib.LaidTab
import Derived.Lib.ItoaNum
import Derived.WalkSmall
import Derived.MapKept
import Derived.OwnWalk
import Derived.LoopTactic
import Derived.IntWalk
import Derived.Deep.LoopGhost
import Derived.Laws.BytesArg
import Derived.Deep.RegionHeld3
import Derived.Test.YthfdfenggooalaaDoorXW
import Derived.Test.YthfdfenggooalaaDoorW1
import Derived.Test.YthfdfenggooalaaDoorW2
import Derived.Test.YthfdfenggooalaaDoorW3
set_option linter.unusedVariables false
set_option linter.unusedSimpArgs false
namespace Go.Proofs.YthfdfenggooalaaDoor
open Go.RowKit Go.Proofs.YthfdfenggooalaaDoor.XW
theorem Disk.keep {w w' : World} {d m : Nat} (h : Disk w d m) {S : Nat → Prop} (hk : Keeps w w' S) (hd : ¬ S d) (hm : ¬ S m) : Disk w' d m := by
  obtain ⟨c, room, fuse, armed, h1, h2⟩ := h
  exact ⟨c, room, fuse, armed, hk.whole h1 hd, (hk.block m (Array.getElem?_eq_some_iff.1 h2).1 hm).trans h2⟩

theorem Sent.from_ {w w1 w2 : World} {b : Nat} {cs : Array Value} {base : Nat} {v : Value} {n : Nat} {xs : List Value} (hk : Keeps w w1 (fun _ => False)) (h : Sent w1 w2 b cs base v n xs) : Sent w w2 b cs base v n xs := by
  obtain ⟨v', h1, h2, h3, h4⟩ := h
  refine ⟨v', h1, h2, (hk.weaken fun _ h => h.elim).then h3 fun _ h => .inl h, ?_⟩
  rcases h4 with h4 | ⟨g, h5, h6⟩
  · exact .inl h4
  · exact .inr ⟨g, h5, Nat.le_trans hk.size h6⟩

def NoFile (w w' : World) (e : Ending) : Prop := e = .returned (.tuple #[.slice none 0 0, .slice none 0 0, .bool false]) ∧ Keeps w w' (fun _ => False)

set_option maxHeartbeats 800000 in
theorem file_empty (b d m : Nat) (cs : Array Value) (x y z : Int) (w : World) (hW : Whole w b 72 cs) (h14 : cs[14]? = some (.pointer (some ⟨d, 0, none⟩))) (hD : Disk w d m)
    (ha0 : -9223372036854775808 ≤ x) (ha1 : x ≤ 9223372036854775807) (hb0 : -9223372036854775808 ≤ y) (hb1 : y ≤ 9223372036854775807) (hc0 : -9223372036854775808 ≤ z) (hc1 : z ≤ 9223372036854775807) (htab : Tab w) :
    Calls Tryd.prog 38 #[.pointer (some ⟨b, 0, none⟩), .int .i64 x, .int .i64 y, .int .i64 z] w fun e w' => NoFile w w' e := by
  have hc := (hW.cell 14).trans h14
  have HW := XW.hid hW
  have HD := XW.hid hD
  have H14 := XW.hid h14
  have HT := XW.hid htab
  have hname := fun wx (hx : Tab wx) => name_any x y z wx ha0 ha1 hb0 hb1 hc0 hc1 hx
  have Hn := XW.hid hname
  clear hW hD h14 htab hname ha0 ha1 hb0 hb1 hc0 hc1
  go_enter Tryd.func38, Tryd.ntmps38
  go_wp2_with fail
  go_region_with (first | (go_at_call 51; refine (Hn.out _ (by first | exact HT.out)).mono ?_; rintro e w1 ⟨s, rfl, hk1⟩; have hk1 := hk1.undrew; have hc1 := ((hk1.whole HW.out (by simp)).cell 14).trans H14.out; have Hk1 := XW.hid hk1; clear hk1) | (go_at_call 50; refine (read_empty _ m _ _ (HD.out.keep Hk1.out (by simp) (by simp))).mono ?_; rintro e w2 ⟨rfl, hk2⟩; have hne := (ofNo_ne s).2; have Hk2 := XW.hid hk2; clear hk2))
  all_goals
    go_wp2
    go_ret3
    exact ⟨rfl, Hk1.out.then Hk2.out fun _ h => .inl h⟩

set_option maxHeartbeats 800000 in
theorem fetch_empty (b d m : Nat) (cs : Array Value) (from_ k x y z : Int) (aw a1 a2 : Option Addr) (nw cw n1 c1 n2 c2 : Nat) (w : World) (hW : Whole w b 72 cs) (h14 : cs[14]? = some (.pointer (some ⟨d, 0, none⟩))) (h16 : cs[16]? = some (.slice none 0 0)) (hD : Disk w d m)
    (ha0 : -9223372036854775808 ≤ x) (ha1 : x ≤ 9223372036854775807) (hb0 : -9223372036854775808 ≤ y) (hb1 : y ≤ 9223372036854775807) (hc0 : -9223372036854775808 ≤ z) (hc1 : z ≤ 9223372036854775807) (htab : Tab w) :
    Calls Tryd.prog 23 #[.pointer (some ⟨b, 0, none⟩), .int .i64 from_, .agg #[.int .i64 k, .int .i64 x, .int .i64 y, .int .i64 z, .slice aw nw cw, .slice a1 n1 c1, .slice a2 n2 c2]] w fun e w' =>
      e = .returned (.tuple #[]) ∧ Sent w w' b cs w.heap.size (.slice none 0 0) 1 [.int .i64 from_, .int .i64 6, .int .i64 x, .int .i64 y, .int .i64 z, .slice none 0 0, .slice none 0 0, .slice none 0 0] := by
  have HW := XW.hid hW
  have HD := XW.hid hD
  have H14 := XW.hid h14
  have H16 := XW.hid h16
  have HT := XW.hid htab
  have hfile := fun wx (h1 : Whole wx b 72 cs) (h2 : Disk wx d m) (h3 : Tab wx) => file_empty b d m cs x y z wx h1 h14 h2 ha0 ha1 hb0 hb1 hc0 hc1 h3
  have Hf := XW.hid hfile
  clear hW hD h14 h16 htab hfile ha0 ha1 hb0 hb1 hc0 hc1
  go_enter Tryd.func23, Tryd.ntmps23
  go_wp2_with fail
  refine (Hf.out _ ((HW.out.alloc _).alloc _) (HD.out.keep (((Keeps.refl w (fun _ => False)).alloc _).alloc _) (by simp) (by simp)) (HT.out.keep (((Keeps.refl w (fun _ => False)).alloc _).alloc _))).mono ?_
  rintro e w1 ⟨rfl, hk1⟩
  have hk0 : Keeps w w1 (fun _ => False) := (((Keeps.refl w (fun _ => False)).alloc _).alloc _).then hk1 fun _ h => .inl h
  have hm1 : Whole w1 (w.heap.size + 1) 47 #[.int .i64 6, .int .i64 x, .int .i64 y, .int .i64 z, .slice none 0 0, .slice none 0 0, .slice none 0 0] := hk1.whole (new_second w _ _) (by simp)
  have Hm1 := XW.hid hm1
  have Hk0 := XW.hid hk0
  clear hk1 hk0 hm1
  go_wp2_with (refine wpList_load_row rfl 47 _ rfl _ rfl 47 _ (0, 0) _ Hm1.out Tryd.underlying47 rfl (by kernel_rfl) ?_)
  refine (send_any b cs from_ 6 x y z none none none 0 0 0 0 0 0 w1 (Hk0.out.whole HW.out (by simp)) (.slice none 0 0) H16.out w.heap.size 0 [] (World.ownsRow_nil _ _ _ _) Hk0.out.size (by omega)).mono ?_
  rintro e w2 ⟨rfl, hs⟩
  have Hs := XW.hid hs
  clear hs
  go_wp2
  go_end0
  exact ⟨rfl, Sent.from_ Hk0.out Hs.out⟩

end Go.Proofs.YthfdfenggooalaaDoor
