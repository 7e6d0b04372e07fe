/-
  The law for a note that wants a file.
-/
import Derived.Test.YthfdfenggooalaaDoorProg
import Derived.WalkKit
import Derived.WalkLawsBesides
import Derived.WalkSpells
import Derived.Outline
import Derived.Below
import Derived.RegionTactic
import Derived.BigRegion
import Derived.Deep.QuietTactic
import Derived.BigQuiet
import Derived.ChangeAlike
import Derived.Deep.RegionLaw
import Derived.Deep.RegionWith
import Derived.Laws.Closers25
import Derived.Lib.LaidTab
import Derived.Lib.ItoaNum
import Derived.WalkSmall
import Derived.MapKept
import Derived.OwnWalk
import Derived.LoopTactic
import Derived.IntWalk
import Derived.Deep.LoopGhost
import Derived.Laws.BytesArg
import Derived.Deep.RegionHeld3
import Derived.Test.YthfdfenggooalaaDoorXW
import Derived.Test.YthfdfenggooalaaDoorW1
import Derived.Test.YthfdfenggooalaaDoorW2
import Derived.Test.YthfdfenggooalaaDoorW3
import Derived.Test.YthfdfenggooalaaDoorW4
import Derived.Test.YthfdfenggooalaaDoorW5
import Derived.Test.YthfdfenggooalaaDoorW6
import Derived.Test.YthfdfenggooalaaDoorW7
import Derived.Test.YthfdfenggooalaaDoorW8
import Derived.Test.YthfdfenggooalaaDoorW9
import Derived.Test.YthfdfenggooalaaDoorWA
import Derived.Test.YthfdfenggooalaaDoorWB
import Derived.Test.YthfdfenggooalaaDoorWC
set_option linter.unusedVariables false
set_option linter.unusedSimpArgs false
namespace Go.Proofs.YthfdfenggooalaaDoor
open Go.RowKit Go.Proofs.YthfdfenggooalaaDoor.XW

set_option maxRecDepth 100000 in
set_option maxHeartbeats 1600000 in
theorem ignores_is4 (x y z f : Int) (aw a1 a2 : Option Addr) (nw cw n1 c1 n2 c2 : Nat) (w : World) (ht : decide (1000 < wrap64 ((n1 : Int) + (n2 : Int))) = false) (ht2 : decide (100 < (nw : Int)) = false) (ha0 : -9223372036854775808 ≤ x) (ha1 : x ≤ 9223372036854775807) (hb0 : -9223372036854775808 ≤ y) (hb1 : y ≤ 9223372036854775807) (hc0 : -9223372036854775808 ≤ z) (hc1 : z ≤ 9223372036854775807) (htab : Tab w) (hf0 : 0 ≤ f) (hf1 : f ≤ 255) :
    Calls Tryd.prog 4 #[.agg #[.int .i64 4, .int .i64 x, .int .i64 y, .int .i64 z, .slice aw nw cw, .slice a1 n1 c1, .slice a2 n2 c2], .int .u8 f] w fun e w' => e = .returned (.bool true) ∧ Keeps w w' (fun _ => False) := by
  go_enter Tryd.func4, Tryd.ntmps4
  go_wp2_with fail
  refine (disk_new_1000 _).mono ?_
  rintro e wd ⟨rfl, rfl⟩
  go_wp2_with fail
  refine (new_any 1 0 0 0 ⟨#[]⟩ ⟨#[]⟩ 0 0 false 2 none none 0 0 0 0 (some ⟨w.heap.size + 1 + 1 + 1 + 1, 0, none⟩) 2 2 (w.heap.size + 1 + 1) [.int .i64 0, .string ⟨#[97]⟩, .int .i64 2, .string ⟨#[98]⟩] _ rfl (by omega) (by simp [Value.oneCell']) (.inr ⟨_, rfl, new_fifth w _ _ _ _ _ _ _ _⟩)).mono ?_
  rintro e w6 ⟨b, vl, vs, A, c, rfl, hb, rfl, hW, hk⟩
  obtain ⟨f1, f2, f3, f4, f5, f6⟩ := start_facts hb hk
  have HW := XW.hid hW
  have F1 := XW.hid f1
  have F2 := XW.hid f2
  have F3 := XW.hid f3
  have F4 := XW.hid f4
  have F5 := XW.hid f5
  have F6 := XW.hid f6
  have HT := XW.hid htab
  have HA := XW.hid (And.intro ha0 ha1)
  have HB := XW.hid (And.intro hb0 hb1)
  have HC := XW.hid (And.intro hc0 hc1)
  clear hk hW f1 f2 f3 f4 f5 f6 hb htab ha0 ha1 hb0 hb1 hc0 hc1
  go_wp2_with (go_at_call 10; refine (code_any _ _).mono ?_; rintro e w' ⟨rfl, rfl⟩)
  refine (handle_first b _ A 2 c w6 HW.out rfl rfl rfl (by omega)).mono ?_
  rintro e w7 ⟨mb, rfl, hW7, hM7, hk7⟩
  obtain ⟨g1, g2, g3⟩ := later_facts F5.out F1.out F2.out F4.out hk7
  have hmb := hM7.apart hW7 (by decide)
  have HD7 := XW.hid (F3.out.keep hk7 (by have := F5.out; omega) (by have := F5.out; omega))
  have HW7 := XW.hid hW7
  have HM7 := XW.hid hM7
  have Hmb := XW.hid hmb
  have G1 := XW.hid g1
  have G2 := XW.hid g2
  have G3 := XW.hid g3
  clear hW7 hM7 hk7 g1 g2 g3 hmb
  go_wp2_with (refine wpList_load_row rfl 47 _ rfl _ rfl 47 _ (0, 0) _ G1.out Tryd.underlying47 rfl (by kernel_rfl) ?_)
  refine (handle_fetch b (w.heap.size + 1 + 1) (w.heap.size + 1) _ f x y z aw a1 a2 nw cw n1 c1 n2 c2 w7 HW7.out rfl ((get_set_ne (by decide)).trans rfl) ((get_set_ne (by decide)).trans rfl) HD7.out HA.out.1 HA.out.2 HB.out.1 HB.out.2 HC.out.1 HC.out.2 (HT.out.keep G3.out)).mono ?_
  rintro e w8 ⟨v8, base8, rfl, ho8, hW8, hk8⟩
  obtain ⟨g1, g2, g3⟩ := later_facts F5.out G1.out G2.out G3.out hk8
  have hM8 := hk8.whole HM7.out (fun h => Hmb.out h)
  have HW8 := XW.hid hW8
  obtain ⟨g8, cp8, hv8, _, hg8⟩ := ho8.form (by omega)
  subst hv8
  have HO8 := XW.hid ho8
  clear ho8
  have HM8 := XW.hid hM8
  have I1 := XW.hid g1
  have I2 := XW.hid g2
  have I3 := XW.hid g3
  clear hW8 hk8 g1 g2 g3 hM8
  go_wp2_with fail
  refine (busy_map b _ mb 1 3 w8 HW8.out (get_set (by simp)) HM8.out).mono ?_
  rintro e w9 ⟨rfl, hk9⟩
  have ho9 := hk9.own HO8.out (by simp)
  have HO9 := XW.hid ho9
  clear ho9
  have j1 := hk9.whole I1.out (by simp)
  have j2 := hk9.whole I2.out (by simp)
  have j3 := I3.out.then hk9 fun _ h => .inl h
  have hW9 := hk9.whole HW8.out (by simp)
  have HW9 := XW.hid hW9
  have J1 := XW.hid j1
  have J2 := XW.hid j2
  have J3 := XW.hid j3
  clear hk9 j1 j2 j3 hW9
  go_wp2_with fail
  refine (has_map b _ ⟨mb, 0, none⟩ w9 HW9.out (get_set (by simp))).mono ?_
  rintro e w' ⟨rfl, rfl⟩
  have hc0 : w9.cell? ⟨w.heap.size, 0, none⟩ = some (.int .i64 4) := J1.out.cell 0
  have hc1 : w9.cell? ⟨w.heap.size, 1, none⟩ = some (.int .i64 x) := J1.out.cell 1
  have hc2 : w9.cell? ⟨w.heap.size, 2, none⟩ = some (.int .i64 y) := J1.out.cell 2
  have hc3 : w9.cell? ⟨w.heap.size, 3, none⟩ = some (.int .i64 z) := J1.out.cell 3
  go_wp2_with fail
  refine (only_true base8 _ f 6 x y z w9 HO9.out).mono ?_
  rintro e wo ⟨rfl, hko⟩
  have o1 := hko.whole J1.out (by simp)
  have o2 := hko.whole J2.out (by simp)
  have o3 := J3.out.then hko fun _ h => .inl h
  have J1 := XW.hid o1
  have J2 := XW.hid o2
  have J3 := XW.hid o3
  clear hko o1 o2 o3 hc0 hc1 hc2 hc3
  go_wp2_with fail
  refine (busy_nil wo).mono ?_
  rintro e w' ⟨rfl, rfl⟩
  go_wp2_with fail
  go_region_held3 (fun w' => w'.cell? ⟨w.heap.size, 0, none⟩ = some (.int .i64 4) ∧ w'.cell? ⟨w.heap.size, 1, none⟩ = some (.int .i64 x) ∧ w'.cell? ⟨w.heap.size, 2, none⟩ = some (.int .i64 y) ∧ w'.cell? ⟨w.heap.size, 3, none⟩ = some (.int .i64 z) ∧ w'.cell? ⟨w.heap.size, 4, none⟩ = some (.slice aw nw cw) ∧ w'.cell? ⟨w.heap.size, 5, none⟩ = some (.slice a1 n1 c1) ∧ w'.cell? ⟨w.heap.size, 6, none⟩ = some (.slice a2 n2 c2) ∧ w'.cell? ⟨w.heap.size + 1 + 1 + 1, 0, none⟩ = some (.string ⟨#[]⟩) ∧ w'.cell? ⟨w.heap.size + 1 + 1 + 1, 1, none⟩ = some (.int .i64 0) ∧ w'.cell? ⟨w.heap.size + 1 + 1 + 1, 2, none⟩ = some (.slice none 0 0) ∧ w'.cell? ⟨w.heap.size + 1 + 1 + 1, 3, none⟩ = some (.int .i64 0) ∧ w'.cell? ⟨w.heap.size + 1 + 1 + 1, 4, none⟩ = some (.int .i64 0) ∧ w'.cell? ⟨w.heap.size + 1 + 1 + 1, 5, none⟩ = some (.int .u8 0) ∧ w'.cell? ⟨w.heap.size + 1 + 1 + 1, 6, none⟩ = some (.int .i64 0) ∧ w'.cell? ⟨w.heap.size + 1 + 1 + 1, 7, none⟩ = some (.string ⟨#[]⟩) ∧ w'.cell? ⟨w.heap.size + 1 + 1 + 1, 8, none⟩ = some (.slice none 0 0) ∧ w'.cell? ⟨w.heap.size + 1 + 1 + 1, 9, none⟩ = some (.bool false) ∧ w'.cell? ⟨w.heap.size + 1 + 1 + 1, 10, none⟩ = some (.int .i64 2))
    (first
      | exact both_cells (k := 4) J1.out J2.out
      | exact both_cells (k := 4) Kn1.out Kn2.out
      | exact both_cells (k := 4) Kh1.out Kh2.out
      | exact both_cells (k := 4) Kl1.out Kl2.out)
    ((first
      | (go_at_call 9; refine (new_nodisk 1 0 0 0 ⟨#[]⟩ ⟨#[]⟩ 0 0 false 2 none none 0 0 0 0 none 0 0 _).mono ?_; rintro e wn ⟨rfl, hkn⟩; have hkn := hkn.undrew; have Kn := XW.hid hkn; have Kn1 := XW.hid (hkn.whole J1.out (by simp)); have Kn2 := XW.hid (hkn.whole J2.out (by simp)); clear hkn)
      | (go_at_call 13; refine (step_nil _).mono ?_; rintro e w' ⟨rfl, rfl⟩)
      | (go_at_call 11; refine (handle_nil 0 4 x y z aw a1 a2 nw cw n1 c1 n2 c2 _).mono ?_; rintro e wh ⟨rfl, hkh⟩; have Kh := XW.hid hkh; have Kh1 := XW.hid (hkh.whole Kn1.out (by simp)); have Kh2 := XW.hid (hkh.whole Kn2.out (by simp)); clear hkh)
      | (go_at_call 16; refine (has_nil _).mono ?_; rintro e w' ⟨rfl, rfl⟩)
      | (go_at_call 6; refine (live_true _).mono ?_; rintro e wl ⟨rfl, hkl⟩; have Kl := XW.hid hkl; have Kl1 := XW.hid (hkl.whole Kh1.out (by simp)); have Kl2 := XW.hid (hkl.whole Kh2.out (by simp)); clear hkl)))
  go_wp2
  go_ret
  exact ⟨rfl, ((J3.out.then Kn.out fun _ h => .inl h).then Kh.out fun _ h => .inl h).then Kl.out fun _ h => .inl h⟩

end Go.Proofs.YthfdfenggooalaaDoor
