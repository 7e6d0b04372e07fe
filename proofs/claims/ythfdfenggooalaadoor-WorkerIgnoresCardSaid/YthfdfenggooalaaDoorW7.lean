/-
  A walk over a new worker.
-/
import Derived.Test.YthfdfenggooalaaDoorProg
import Derived.WalkKit
import Derived.WalkLawsBesides
import Derived.WalkSpells
import Derived.Outline
import Derived.Below
import Derived.RegionTactic
import Derived.BigRegion
import Derived.Deep.QuietTactic
import Derived.BigQuiet
import Derived.ChangeAlike
import Derived.Deep.RegionLaw
import Derived.Deep.RegionWith
import Derived.Laws.Closers25
import Derived.Lib.LaidTab
import Derived.Lib.ItoaNum
import Derived.WalkSmall
import Derived.MapKept
import Derived.OwnWalk
import Derived.LoopTactic
import Derived.IntWalk
import Derived.Deep.LoopGhost
import Derived.Laws.BytesArg
import Derived.Deep.RegionHeld3
import Derived.Test.YthfdfenggooalaaDoorXW
import Derived.Test.YthfdfenggooalaaDoorW1
import Derived.Test.YthfdfenggooalaaDoorW2
import Derived.Test.YthfdfenggooalaaDoorW3
import Derived.Test.YthfdfenggooalaaDoorW4
import Derived.Test.YthfdfenggooalaaDoorW5
import Derived.Test.YthfdfenggooalaaDoorW6
set_option linter.unusedVariables false
set_option linter.unusedSimpArgs false
namespace Go.Proofs.YthfdfenggooalaaDoor
open Go.RowKit Go.Proofs.YthfdfenggooalaaDoor.XW
theorem Keeps.any {w w' : World} (h : Keeps w w' (fun _ => False)) (S : Nat → Prop) : Keeps w w' S := h.weaken fun _ h => h.elim

/-- A new worker that does nothing. -/
def Born (w w' : World) (ident : Int) (job : List Value) (n d : Nat) (e : Ending) : Prop :=
  ∃ (b : Nat) (vl vs : Value) (A : Option Addr) (c : Nat), e = .returned (.pointer (some ⟨b, 0, none⟩)) ∧ w.heap.size ≤ b ∧ vs = .slice A n c ∧
    Whole w' b 72 (([.int .i64 ident] ++ job ++ [vl, vs, .pointer (some ⟨d, 0, none⟩), .nilIface, .slice none 0 0] : List Value).toArray) ∧ Keeps w w' (fun _ => False)

theorem born_of {w wz : World} {o : Obj} {ident : Int} {job : List Value} {n d : Nat} {vl : Value} {A : Option Addr} {c : Nat} {cs : Array Value} (hk : Keeps (w.alloc o) wz (fun _ => False))
    (hc : cs = ([.int .i64 ident] ++ job ++ [vl, .slice A n c, .pointer (some ⟨d, 0, none⟩), .nilIface, .slice none 0 0] : List Value).toArray) :
    Born w (wz.alloc (.cells cs 72)) ident job n d (.returned (.pointer (some ⟨wz.heap.size, 0, none⟩))) := by
  have h0 : Keeps w wz (fun _ => False) := ((Keeps.refl w _).alloc o).then hk fun _ h => .inl h
  subst hc
  exact ⟨wz.heap.size, vl, _, A, c, rfl, h0.size, rfl, Whole.fresh _ _ _, h0.alloc _⟩

set_option maxRecDepth 100000 in
set_option maxHeartbeats 1600000 in
theorem new_any (ident each fold op : Int) (nm vt : ByteArray) (kd : Int) (vi : Int) (comb : Bool) (parts : Int) (ea aa : Option Addr) (en ec an ac : Nat) (A : Option Addr) (n c d : Nat) (news : List Value) (w : World)
    (hl : news.length = n * 2) (hc : n ≤ 70000) (h1 : ∀ u ∈ news, u.oneCell' = true)
    (hr : (A = none ∧ n = 0) ∨ ∃ ad, A = some ad ∧ ∀ j u, news[j]? = some u → w.cell? (ad.add j) = some u) :
    Calls Tryd.prog 9 #[.int .i64 ident, .agg #[.string nm, .int .i64 each, .slice ea en ec, .int .i64 fold, .int .i64 op, .int .u8 kd, .int .i64 vi, .string vt, .slice aa an ac, .bool comb, .int .i64 parts], .slice A n c, .int .i64 1, .pointer (some ⟨d, 0, none⟩)] w fun e w' =>
      Born w w' ident [.string nm, .int .i64 each, .slice ea en ec, .int .i64 fold, .int .i64 op, .int .u8 kd, .int .i64 vi, .string vt, .slice aa an ac, .bool comb, .int .i64 parts] n d e := by
  have hcl : ∀ wx, Keeps w wx (fun _ => False) → Calls Tryd.prog 20 #[.slice A n c] wx fun e w' => ∃ v, e = .returned v ∧ w'.ownsRow wx.heap.size 56 2 v n news ∧ Keeps wx w' (fun _ => False) := fun wx hk =>
    clone_recs A n c news wx hl (by omega) h1 (hr.imp id fun ⟨ad, h2, h3⟩ => ⟨ad, h2, fun j u hu => by
      have h4 := h3 j u hu
      rw [← h4]
      exact World.cell?_of_block (hk.block _ (World.block_lt_of_cell? w _ h4) (by simp))⟩)
  have hsp := fun wx => splits_one n wx hc
  have Hcl := XW.hid hcl
  have Hsp := XW.hid hsp
  clear hcl hsp hr hl h1
  go_enter Tryd.func9, Tryd.ntmps9
  go_wp2_with fail
  go_region_with (first | (go_at_call 20; refine (Hcl.out _ (by first | exact ((Keeps.refl w (fun _ => False)).alloc _).drew | exact ((Keeps.refl w (fun _ => False)).alloc _).then Ks.out fun _ h => .inl h)).mono ?_; rintro e wc ⟨vl, rfl, hoc, hwc⟩; obtain ⟨Al, cl, rfl⟩ := own_shape hoc; have Hoc := XW.hid hoc; clear hoc; have kwc : Keeps (w.alloc (.cells #[.string nm, .int .i64 each, .slice ea en ec, .int .i64 fold, .int .i64 op, .int .u8 kd, .int .i64 vi, .string vt, .slice aa an ac, .bool comb, .int .i64 parts] 29)) wc (fun _ => False) := (by first | exact hwc.undrew | exact (Ks.out.then hwc fun _ h => .inl h)); have Kc := XW.hid kwc; clear kwc; have hj0 : wc.cell? ⟨w.heap.size, 0, none⟩ = some (.string nm) := (Kc.out.whole (Whole.fresh w 29 #[.string nm, .int .i64 each, .slice ea en ec, .int .i64 fold, .int .i64 op, .int .u8 kd, .int .i64 vi, .string vt, .slice aa an ac, .bool comb, .int .i64 parts]) (by simp)).cell 0; have hj1 : wc.cell? ⟨w.heap.size, 1, none⟩ = some (.int .i64 each) := (Kc.out.whole (Whole.fresh w 29 #[.string nm, .int .i64 each, .slice ea en ec, .int .i64 fold, .int .i64 op, .int .u8 kd, .int .i64 vi, .string vt, .slice aa an ac, .bool comb, .int .i64 parts]) (by simp)).cell 1; have hj2 : wc.cell? ⟨w.heap.size, 2, none⟩ = some (.slice ea en ec) := (Kc.out.whole (Whole.fresh w 29 #[.string nm, .int .i64 each, .slice ea en ec, .int .i64 fold, .int .i64 op, .int .u8 kd, .int .i64 vi, .string vt, .slice aa an ac, .bool comb, .int .i64 parts]) (by simp)).cell 2; have hj3 : wc.cell? ⟨w.heap.size, 3, none⟩ = some (.int .i64 fold) := (Kc.out.whole (Whole.fresh w 29 #[.string nm, .int .i64 each, .slice ea en ec, .int .i64 fold, .int .i64 op, .int .u8 kd, .int .i64 vi, .string vt, .slice aa an ac, .bool comb, .int .i64 parts]) (by simp)).cell 3; have hj4 : wc.cell? ⟨w.heap.size, 4, none⟩ = some (.int .i64 op) := (Kc.out.whole (Whole.fresh w 29 #[.string nm, .int .i64 each, .slice ea en ec, .int .i64 fold, .int .i64 op, .int .u8 kd, .int .i64 vi, .string vt, .slice aa an ac, .bool comb, .int .i64 parts]) (by simp)).cell 4; have hj5 : wc.cell? ⟨w.heap.size, 5, none⟩ = some (.int .u8 kd) := (Kc.out.whole (Whole.fresh w 29 #[.string nm, .int .i64 each, .slice ea en ec, .int .i64 fold, .int .i64 op, .int .u8 kd, .int .i64 vi, .string vt, .slice aa an ac, .bool comb, .int .i64 parts]) (by simp)).cell 5; have hj6 : wc.cell? ⟨w.heap.size, 6, none⟩ = some (.int .i64 vi) := (Kc.out.whole (Whole.fresh w 29 #[.string nm, .int .i64 each, .slice ea en ec, .int .i64 fold, .int .i64 op, .int .u8 kd, .int .i64 vi, .string vt, .slice aa an ac, .bool comb, .int .i64 parts]) (by simp)).cell 6; have hj7 : wc.cell? ⟨w.heap.size, 7, none⟩ = some (.string vt) := (Kc.out.whole (Whole.fresh w 29 #[.string nm, .int .i64 each, .slice ea en ec, .int .i64 fold, .int .i64 op, .int .u8 kd, .int .i64 vi, .string vt, .slice aa an ac, .bool comb, .int .i64 parts]) (by simp)).cell 7; have hj8 : wc.cell? ⟨w.heap.size, 8, none⟩ = some (.slice aa an ac) := (Kc.out.whole (Whole.fresh w 29 #[.string nm, .int .i64 each, .slice ea en ec, .int .i64 fold, .int .i64 op, .int .u8 kd, .int .i64 vi, .string vt, .slice aa an ac, .bool comb, .int .i64 parts]) (by simp)).cell 8; have hj9 : wc.cell? ⟨w.heap.size, 9, none⟩ = some (.bool comb) := (Kc.out.whole (Whole.fresh w 29 #[.string nm, .int .i64 each, .slice ea en ec, .int .i64 fold, .int .i64 op, .int .u8 kd, .int .i64 vi, .string vt, .slice aa an ac, .bool comb, .int .i64 parts]) (by simp)).cell 9; have hj10 : wc.cell? ⟨w.heap.size, 10, none⟩ = some (.int .i64 parts) := (Kc.out.whole (Whole.fresh w 29 #[.string nm, .int .i64 each, .slice ea en ec, .int .i64 fold, .int .i64 op, .int .u8 kd, .int .i64 vi, .string vt, .slice aa an ac, .bool comb, .int .i64 parts]) (by simp)).cell 10) | (go_at_call 21; refine (Hsp.out _).mono ?_; rintro e ws ⟨vs, rfl, hos, hws⟩; obtain ⟨As, cs, rfl⟩ := own_shape hos; have Hos := XW.hid hos; clear hos; have kws : Keeps (w.alloc (.cells #[.string nm, .int .i64 each, .slice ea en ec, .int .i64 fold, .int .i64 op, .int .u8 kd, .int .i64 vi, .string vt, .slice aa an ac, .bool comb, .int .i64 parts] 29)) ws (fun _ => False) := (by first | exact hws.undrew | exact (Kc.out.then hws fun _ h => .inl h)); have Ks := XW.hid kws; clear kws; have hj0 : ws.cell? ⟨w.heap.size, 0, none⟩ = some (.string nm) := (Ks.out.whole (Whole.fresh w 29 #[.string nm, .int .i64 each, .slice ea en ec, .int .i64 fold, .int .i64 op, .int .u8 kd, .int .i64 vi, .string vt, .slice aa an ac, .bool comb, .int .i64 parts]) (by simp)).cell 0; have hj1 : ws.cell? ⟨w.heap.size, 1, none⟩ = some (.int .i64 each) := (Ks.out.whole (Whole.fresh w 29 #[.string nm, .int .i64 each, .slice ea en ec, .int .i64 fold, .int .i64 op, .int .u8 kd, .int .i64 vi, .string vt, .slice aa an ac, .bool comb, .int .i64 parts]) (by simp)).cell 1; have hj2 : ws.cell? ⟨w.heap.size, 2, none⟩ = some (.slice ea en ec) := (Ks.out.whole (Whole.fresh w 29 #[.string nm, .int .i64 each, .slice ea en ec, .int .i64 fold, .int .i64 op, .int .u8 kd, .int .i64 vi, .string vt, .slice aa an ac, .bool comb, .int .i64 parts]) (by simp)).cell 2; have hj3 : ws.cell? ⟨w.heap.size, 3, none⟩ = some (.int .i64 fold) := (Ks.out.whole (Whole.fresh w 29 #[.string nm, .int .i64 each, .slice ea en ec, .int .i64 fold, .int .i64 op, .int .u8 kd, .int .i64 vi, .string vt, .slice aa an ac, .bool comb, .int .i64 parts]) (by simp)).cell 3; have hj4 : ws.cell? ⟨w.heap.size, 4, none⟩ = some (.int .i64 op) := (Ks.out.whole (Whole.fresh w 29 #[.string nm, .int .i64 each, .slice ea en ec, .int .i64 fold, .int .i64 op, .int .u8 kd, .int .i64 vi, .string vt, .slice aa an ac, .bool comb, .int .i64 parts]) (by simp)).cell 4; have hj5 : ws.cell? ⟨w.heap.size, 5, none⟩ = some (.int .u8 kd) := (Ks.out.whole (Whole.fresh w 29 #[.string nm, .int .i64 each, .slice ea en ec, .int .i64 fold, .int .i64 op, .int .u8 kd, .int .i64 vi, .string vt, .slice aa an ac, .bool comb, .int .i64 parts]) (by simp)).cell 5; have hj6 : ws.cell? ⟨w.heap.size, 6, none⟩ = some (.int .i64 vi) := (Ks.out.whole (Whole.fresh w 29 #[.string nm, .int .i64 each, .slice ea en ec, .int .i64 fold, .int .i64 op, .int .u8 kd, .int .i64 vi, .string vt, .slice aa an ac, .bool comb, .int .i64 parts]) (by simp)).cell 6; have hj7 : ws.cell? ⟨w.heap.size, 7, none⟩ = some (.string vt) := (Ks.out.whole (Whole.fresh w 29 #[.string nm, .int .i64 each, .slice ea en ec, .int .i64 fold, .int .i64 op, .int .u8 kd, .int .i64 vi, .string vt, .slice aa an ac, .bool comb, .int .i64 parts]) (by simp)).cell 7; have hj8 : ws.cell? ⟨w.heap.size, 8, none⟩ = some (.slice aa an ac) := (Ks.out.whole (Whole.fresh w 29 #[.string nm, .int .i64 each, .slice ea en ec, .int .i64 fold, .int .i64 op, .int .u8 kd, .int .i64 vi, .string vt, .slice aa an ac, .bool comb, .int .i64 parts]) (by simp)).cell 8; have hj9 : ws.cell? ⟨w.heap.size, 9, none⟩ = some (.bool comb) := (Ks.out.whole (Whole.fresh w 29 #[.string nm, .int .i64 each, .slice ea en ec, .int .i64 fold, .int .i64 op, .int .u8 kd, .int .i64 vi, .string vt, .slice aa an ac, .bool comb, .int .i64 parts]) (by simp)).cell 9; have hj10 : ws.cell? ⟨w.heap.size, 10, none⟩ = some (.int .i64 parts) := (Ks.out.whole (Whole.fresh w 29 #[.string nm, .int .i64 each, .slice ea en ec, .int .i64 fold, .int .i64 op, .int .u8 kd, .int .i64 vi, .string vt, .slice aa an ac, .bool comb, .int .i64 parts]) (by simp)).cell 10))
  all_goals
    go_wp2
    go_ret
    first
      | exact born_of Ks.out rfl
      | exact born_of Kc.out rfl

end Go.Proofs.YthfdfenggooalaaDoor
