/-
  The law for any note but one that wants a file.
-/
import Derived.Test.YthfdfenggooalaaDoorProg
import Derived.WalkKit
import Derived.WalkLawsBesides
import Derived.WalkSpells
import Derived.Outline
import Derived.Below
import Derived.RegionTactic
import Derived.BigRegion
import Derived.Deep.QuietTactic
import Derived.BigQuiet
import Derived.ChangeAlike
import Derived.Deep.RegionLaw
import Derived.Deep.RegionWith
import Derived.Laws.Closers25
import Derived.Lib.LaidTab
import Derived.Lib.ItoaNum
import Derived.WalkSmall
import Derived.MapKept
import Derived.OwnWalk
import Derived.LoopTactic
import Derived.IntWalk
import Derived.Deep.LoopGhost
import Derived.Laws.BytesArg
import Derived.Deep.RegionHeld3
import Derived.Test.YthfdfenggooalaaDoorXW
import Derived.Test.YthfdfenggooalaaDoorW1
import Derived.Test.YthfdfenggooalaaDoorW2
import Derived.Test.YthfdfenggooalaaDoorW3
import Derived.Test.YthfdfenggooalaaDoorW4
import Derived.Test.YthfdfenggooalaaDoorW5
import Derived.Test.YthfdfenggooalaaDoorW6
import Derived.Test.YthfdfenggooalaaDoorW7
import Derived.Test.YthfdfenggooalaaDoorW8
import Derived.Test.YthfdfenggooalaaDoorW9
import Derived.Test.YthfdfenggooalaaDoorWA
import Derived.Test.YthfdfenggooalaaDoorWB
set_option linter.unusedVariables false
set_option linter.unusedSimpArgs false
namespace Go.Proofs.YthfdfenggooalaaDoor
open Go.RowKit Go.Proofs.YthfdfenggooalaaDoor.XW

theorem new_fifth (w : World) (o1 o2 o3 o4 : Obj) (a b c d : Value) : ∀ j u, [a, b, c, d][j]? = some u → (((((w.alloc o1).alloc o2).alloc o3).alloc o4).alloc (.cells #[a, b, c, d] 56)).cell? ((⟨w.heap.size + 1 + 1 + 1 + 1, 0, none⟩ : Addr).add j) = some u := by
  have h := World.news_of_block (w := ((((w.alloc o1).alloc o2).alloc o3).alloc o4).alloc (.cells #[a, b, c, d] 56)) (cs := #[a, b, c, d]) (t := 56) (fr := (0, 0)) (heap_alloc_new _ _)
  simpa using h

abbrev jobTwo : Array Value := #[.string ⟨#[]⟩, .int .i64 0, .slice none 0 0, .int .i64 0, .int .i64 0, .int .u8 0, .int .i64 0, .string ⟨#[]⟩, .slice none 0 0, .bool false, .int .i64 2]

/-- What is known of the memory when the worker has been made, its five blocks lying below it. -/
theorem start_facts {w w6 : World} {b : Nat} {box recs : Array Value}
    (hb : (((((w.alloc (.cells box 47)).alloc (.map #[] 0)).alloc (.cells #[.int .i64 1000, .map (some (w.heap.size + 1)), .bool false, .int .i64 0] 67)).alloc (.cells jobTwo 29)).alloc (.cells recs 56)).heap.size ≤ b)
    (hk : Keeps (((((w.alloc (.cells box 47)).alloc (.map #[] 0)).alloc (.cells #[.int .i64 1000, .map (some (w.heap.size + 1)), .bool false, .int .i64 0] 67)).alloc (.cells jobTwo 29)).alloc (.cells recs 56)) w6 (fun _ => False)) :
    Whole w6 w.heap.size 47 box ∧ Whole w6 (w.heap.size + 1 + 1 + 1) 29 jobTwo ∧ Disk w6 (w.heap.size + 1 + 1) (w.heap.size + 1) ∧ Keeps w w6 (fun _ => False) ∧ w.heap.size + 5 ≤ b ∧ w.heap.size < b := by
  refine ⟨?_, ?_, ?_, ?_, ?_, ?_⟩
  · exact hk.whole (((((Whole.fresh w 47 box).alloc _).alloc _).alloc _).alloc _) (by simp)
  · have h := (Whole.fresh (((w.alloc (.cells box 47)).alloc (.map #[] 0)).alloc (.cells #[.int .i64 1000, .map (some (w.heap.size + 1)), .bool false, .int .i64 0] 67)) 29 jobTwo).alloc (.cells recs 56)
    have h2 := hk.whole h (by simp)
    simpa using h2
  · have h := disk_fresh (w.alloc (.cells box 47))
    have h1 : Disk (((w.alloc (.cells box 47)).alloc (.map #[] 0)).alloc (.cells #[.int .i64 1000, .map (some (w.heap.size + 1)), .bool false, .int .i64 0] 67)) (w.heap.size + 1 + 1) (w.heap.size + 1) := by simpa using h
    exact ((h1.keep ((Keeps.refl _ (fun _ => False)).alloc _) (by simp) (by simp)).keep ((Keeps.refl _ (fun _ => False)).alloc _) (by simp) (by simp)).keep hk (by simp) (by simp)
  · exact ((((((Keeps.refl w (fun _ => False)).alloc _).alloc _).alloc _).alloc _).alloc _).then hk fun _ h => .inl h
  · simp at hb; omega
  · simp at hb; omega

theorem later_facts {w w6 w7 : World} {b : Nat} {box : Array Value} (h5 : w.heap.size + 5 ≤ b) (f1 : Whole w6 w.heap.size 47 box) (f2 : Whole w6 (w.heap.size + 1 + 1 + 1) 29 jobTwo) (f4 : Keeps w w6 (fun _ => False)) (hk : Keeps w6 w7 (fun k => k = b)) :
    Whole w7 w.heap.size 47 box ∧ Whole w7 (w.heap.size + 1 + 1 + 1) 29 jobTwo ∧ Keeps w w7 (fun _ => False) :=
  ⟨hk.whole f1 (by omega), hk.whole f2 (by omega), f4.then hk fun k h => .inr (by subst h; omega)⟩

theorem both_cells {w wx : World} {k x y z : Int} {aw a1 a2 : Option Addr} {nw cw n1 c1 n2 c2 : Nat}
    (h1 : Whole wx w.heap.size 47 #[.int .i64 k, .int .i64 x, .int .i64 y, .int .i64 z, .slice aw nw cw, .slice a1 n1 c1, .slice a2 n2 c2]) (h2 : Whole wx (w.heap.size + 1 + 1 + 1) 29 jobTwo) :
    wx.cell? ⟨w.heap.size, 0, none⟩ = some (.int .i64 k) ∧ wx.cell? ⟨w.heap.size, 1, none⟩ = some (.int .i64 x) ∧ wx.cell? ⟨w.heap.size, 2, none⟩ = some (.int .i64 y) ∧ wx.cell? ⟨w.heap.size, 3, none⟩ = some (.int .i64 z) ∧ wx.cell? ⟨w.heap.size, 4, none⟩ = some (.slice aw nw cw) ∧ wx.cell? ⟨w.heap.size, 5, none⟩ = some (.slice a1 n1 c1) ∧ wx.cell? ⟨w.heap.size, 6, none⟩ = some (.slice a2 n2 c2) ∧ wx.cell? ⟨w.heap.size + 1 + 1 + 1, 0, none⟩ = some (.string ⟨#[]⟩) ∧ wx.cell? ⟨w.heap.size + 1 + 1 + 1, 1, none⟩ = some (.int .i64 0) ∧ wx.cell? ⟨w.heap.size + 1 + 1 + 1, 2, none⟩ = some (.slice none 0 0) ∧ wx.cell? ⟨w.heap.size + 1 + 1 + 1, 3, none⟩ = some (.int .i64 0) ∧ wx.cell? ⟨w.heap.size + 1 + 1 + 1, 4, none⟩ = some (.int .i64 0) ∧ wx.cell? ⟨w.heap.size + 1 + 1 + 1, 5, none⟩ = some (.int .u8 0) ∧ wx.cell? ⟨w.heap.size + 1 + 1 + 1, 6, none⟩ = some (.int .i64 0) ∧ wx.cell? ⟨w.heap.size + 1 + 1 + 1, 7, none⟩ = some (.string ⟨#[]⟩) ∧ wx.cell? ⟨w.heap.size + 1 + 1 + 1, 8, none⟩ = some (.slice none 0 0) ∧ wx.cell? ⟨w.heap.size + 1 + 1 + 1, 9, none⟩ = some (.bool false) ∧ wx.cell? ⟨w.heap.size + 1 + 1 + 1, 10, none⟩ = some (.int .i64 2) :=
  ⟨h1.cell 0, h1.cell 1, h1.cell 2, h1.cell 3, h1.cell 4, h1.cell 5, h1.cell 6, h2.cell 0, h2.cell 1, h2.cell 2, h2.cell 3, h2.cell 4, h2.cell 5, h2.cell 6, h2.cell 7, h2.cell 8, h2.cell 9, h2.cell 10⟩

set_option maxRecDepth 100000 in
set_option maxHeartbeats 1600000 in
theorem ignores_not4 (k x y z f : Int) (aw a1 a2 : Option Addr) (nw cw n1 c1 n2 c2 : Nat) (w : World) (ht : decide (1000 < wrap64 ((n1 : Int) + (n2 : Int))) = false) (ht2 : decide (100 < (nw : Int)) = false) (h4 : ¬ k = 4) (k4 : (k == 4) = false) (hf0 : 0 ≤ f) (hf1 : f ≤ 255) :
    Calls Tryd.prog 4 #[.agg #[.int .i64 k, .int .i64 x, .int .i64 y, .int .i64 z, .slice aw nw cw, .slice a1 n1 c1, .slice a2 n2 c2], .int .u8 f] w fun e w' => e = .returned (.bool true) ∧ Keeps w w' (fun _ => False) := by
  go_enter Tryd.func4, Tryd.ntmps4
  go_wp2_with fail
  refine (disk_new_1000 _).mono ?_
  rintro e wd ⟨rfl, rfl⟩
  go_wp2_with fail
  refine (new_any 1 0 0 0 ⟨#[]⟩ ⟨#[]⟩ 0 0 false 2 none none 0 0 0 0 (some ⟨w.heap.size + 1 + 1 + 1 + 1, 0, none⟩) 2 2 (w.heap.size + 1 + 1) [.int .i64 0, .string ⟨#[97]⟩, .int .i64 2, .string ⟨#[98]⟩] _ rfl (by omega) (by simp [Value.oneCell']) (.inr ⟨_, rfl, new_fifth w _ _ _ _ _ _ _ _⟩)).mono ?_
  rintro e w6 ⟨b, vl, vs, A, c, rfl, hb, rfl, hW, hk⟩
  obtain ⟨f1, f2, f3, f4, f5, f6⟩ := start_facts hb hk
  have HW := XW.hid hW
  have F1 := XW.hid f1
  have F2 := XW.hid f2
  have F3 := XW.hid f3
  have F4 := XW.hid f4
  have F5 := XW.hid f5
  have F6 := XW.hid f6
  have H4 := XW.hid h4
  clear hk hW f1 f2 f3 f4 f5 f6 hb h4
  go_wp2_with (go_at_call 10; refine (code_any _ _).mono ?_; rintro e w' ⟨rfl, rfl⟩)
  refine (handle_first b _ A 2 c w6 HW.out rfl rfl rfl (by omega)).mono ?_
  rintro e w7 ⟨mb, rfl, hW7, hM7, hk7⟩
  obtain ⟨g1, g2, g3⟩ := later_facts F5.out F1.out F2.out F4.out hk7
  have hmb := hM7.apart hW7 (by decide)
  have HW7 := XW.hid hW7
  have HM7 := XW.hid hM7
  have Hmb := XW.hid hmb
  have G1 := XW.hid g1
  have G2 := XW.hid g2
  have G3 := XW.hid g3
  clear hW7 hM7 hk7 g1 g2 g3 hmb
  go_wp2_with (refine wpList_load_row rfl 47 _ rfl _ rfl 47 _ (0, 0) _ G1.out Tryd.underlying47 rfl (by kernel_rfl) ?_)
  refine (handle_not4 b _ ⟨mb, 0, none⟩ f k x y z aw a1 a2 nw cw n1 c1 n2 c2 w7 HW7.out (get_set (by simp)) (get_set_ne (by decide)) H4.out).mono ?_
  rintro e w8 ⟨rfl, hW8, hk8⟩
  obtain ⟨g1, g2, g3⟩ := later_facts F5.out G1.out G2.out G3.out hk8
  have hM8 := hk8.whole HM7.out (fun h => Hmb.out h)
  have HW8 := XW.hid hW8
  have HM8 := XW.hid hM8
  have I1 := XW.hid g1
  have I2 := XW.hid g2
  have I3 := XW.hid g3
  clear hW8 hk8 g1 g2 g3 hM8
  go_wp2_with fail
  refine (busy_map b _ mb 1 3 w8 HW8.out (get_set (by simp)) HM8.out).mono ?_
  rintro e w9 ⟨rfl, hk9⟩
  have j1 := hk9.whole I1.out (by simp)
  have j2 := hk9.whole I2.out (by simp)
  have j3 := I3.out.then hk9 fun _ h => .inl h
  have hW9 := hk9.whole HW8.out (by simp)
  have HW9 := XW.hid hW9
  have J1 := XW.hid j1
  have J2 := XW.hid j2
  have J3 := XW.hid j3
  clear hk9 j1 j2 j3 hW9
  go_wp2_with fail
  refine (has_map b _ ⟨mb, 0, none⟩ w9 HW9.out (get_set (by simp))).mono ?_
  rintro e w' ⟨rfl, rfl⟩
  have hc0 : w9.cell? ⟨w.heap.size, 0, none⟩ = some (.int .i64 k) := J1.out.cell 0
  go_wp2_with fail
  refine (busy_nil w9).mono ?_
  rintro e w' ⟨rfl, rfl⟩
  go_wp2_with fail
  go_region_held3 (fun w' => w'.cell? ⟨w.heap.size, 0, none⟩ = some (.int .i64 k) ∧ w'.cell? ⟨w.heap.size, 1, none⟩ = some (.int .i64 x) ∧ w'.cell? ⟨w.heap.size, 2, none⟩ = some (.int .i64 y) ∧ w'.cell? ⟨w.heap.size, 3, none⟩ = some (.int .i64 z) ∧ w'.cell? ⟨w.heap.size, 4, none⟩ = some (.slice aw nw cw) ∧ w'.cell? ⟨w.heap.size, 5, none⟩ = some (.slice a1 n1 c1) ∧ w'.cell? ⟨w.heap.size, 6, none⟩ = some (.slice a2 n2 c2) ∧ w'.cell? ⟨w.heap.size + 1 + 1 + 1, 0, none⟩ = some (.string ⟨#[]⟩) ∧ w'.cell? ⟨w.heap.size + 1 + 1 + 1, 1, none⟩ = some (.int .i64 0) ∧ w'.cell? ⟨w.heap.size + 1 + 1 + 1, 2, none⟩ = some (.slice none 0 0) ∧ w'.cell? ⟨w.heap.size + 1 + 1 + 1, 3, none⟩ = some (.int .i64 0) ∧ w'.cell? ⟨w.heap.size + 1 + 1 + 1, 4, none⟩ = some (.int .i64 0) ∧ w'.cell? ⟨w.heap.size + 1 + 1 + 1, 5, none⟩ = some (.int .u8 0) ∧ w'.cell? ⟨w.heap.size + 1 + 1 + 1, 6, none⟩ = some (.int .i64 0) ∧ w'.cell? ⟨w.heap.size + 1 + 1 + 1, 7, none⟩ = some (.string ⟨#[]⟩) ∧ w'.cell? ⟨w.heap.size + 1 + 1 + 1, 8, none⟩ = some (.slice none 0 0) ∧ w'.cell? ⟨w.heap.size + 1 + 1 + 1, 9, none⟩ = some (.bool false) ∧ w'.cell? ⟨w.heap.size + 1 + 1 + 1, 10, none⟩ = some (.int .i64 2))
    (first
      | exact both_cells J1.out J2.out
      | exact both_cells Kn1.out Kn2.out
      | exact both_cells Kh1.out Kh2.out
      | exact both_cells Kl1.out Kl2.out)
    ((first
      | (go_at_call 9; refine (new_nodisk 1 0 0 0 ⟨#[]⟩ ⟨#[]⟩ 0 0 false 2 none none 0 0 0 0 none 0 0 _).mono ?_; rintro e wn ⟨rfl, hkn⟩; have hkn := hkn.undrew; have Kn := XW.hid hkn; have Kn1 := XW.hid (hkn.whole J1.out (by simp)); have Kn2 := XW.hid (hkn.whole J2.out (by simp)); clear hkn)
      | (go_at_call 13; refine (step_nil _).mono ?_; rintro e w' ⟨rfl, rfl⟩)
      | (go_at_call 11; refine (handle_nil 0 k x y z aw a1 a2 nw cw n1 c1 n2 c2 _).mono ?_; rintro e wh ⟨rfl, hkh⟩; have Kh := XW.hid hkh; have Kh1 := XW.hid (hkh.whole Kn1.out (by simp)); have Kh2 := XW.hid (hkh.whole Kn2.out (by simp)); clear hkh)
      | (go_at_call 16; refine (has_nil _).mono ?_; rintro e w' ⟨rfl, rfl⟩)
      | (go_at_call 6; refine (live_true _).mono ?_; rintro e wl ⟨rfl, hkl⟩; have Kl := XW.hid hkl; have Kl1 := XW.hid (hkl.whole Kh1.out (by simp)); have Kl2 := XW.hid (hkl.whole Kh2.out (by simp)); clear hkl)))
  go_wp2
  go_ret
  exact ⟨rfl, ((J3.out.then Kn.out fun _ h => .inl h).then Kh.out fun _ h => .inl h).then Kl.out fun _ h => .inl h⟩

end Go.Proofs.YthfdfenggooalaaDoor
