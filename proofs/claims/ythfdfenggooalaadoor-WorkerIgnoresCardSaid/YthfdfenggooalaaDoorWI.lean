import Derived.Test.YthfdfenggooalaaDoorShelf
import Derived.Test.YthfdfenggooalaaDoorXW
import Derived.Lib.Walk
import Derived.Lib.ItoaMem
import Derived.BigCall
import Derived.BigGuard
import Derived.WalkKit
set_option linter.unusedVariables false
namespace Go.Proofs.YthfdfenggooalaaDoor
open Go.RowKit Go.Sort Go.Lib Go.Proofs.YthfdfenggooalaaDoor.XW

/-- What a numeral's making leaves: a short text, new blocks, draws. -/
def Made (w w' : World) (e : Ending) : Prop := ∃ s : ByteArray, e = .returned (.string s) ∧ s.size ≤ 21 ∧ ∃ k os, w' = grow (w.drewN k) os

theorem digits_short (u : Nat) (h1 : 1 ≤ u) (h2 : u < 18446744073709551616) : Lib.nDigits u ≤ 20 := by
  have := Lib.numDigits_eq u h1 h2
  split at this <;> omega

set_option maxHeartbeats 6400000 in
set_option maxRecDepth 100000 in
theorem format_ten (n : Int) (h0 : -9223372036854775808 ≤ n) (h1 : n ≤ 9223372036854775807) (w : World) (htab : Lib.TabIs Tryd.prog w "internal/strconv.uint64pow10" .u64 Lib.pow10Tab) :
    Calls Tryd.prog 63 #[.int .i64 n, .int .i64 10] w fun e w' => Made w w' e := by
  by_cases hs : 0 ≤ n ∧ n < 100
  · obtain ⟨i, rfl⟩ : ∃ i : Nat, n = i := ⟨n.toNat, by omega⟩
    have hi : i < 100 := by omega
    have hl : Lib.nDigits i ≤ 20 := by
      by_cases h : 1 ≤ i
      · exact digits_short i h (by omega)
      · obtain rfl : i = 0 := by omega
        simp [Lib.nDigits]
    have HL := XW.hid hl
    clear hl
    go_enter Tryd.func63, Tryd.ntmps63
    go_wp2_with (go_at_call 64; refine (Tryd.internal_strconv_small i hi _).mono ?_; rintro e w' ⟨rfl, rfl⟩)
    go_ret
    exact ⟨_, rfl, by
      have h1 := HL.out
      have h2 : (ByteArray.mk (Lib.decDigits i).toArray).size = (Lib.decDigits i).length := by simp [ByteArray.size]
      rw [h2, Lib.decDigits_length]; omega, 0, #[], by simp [World.drewN_zero]⟩
  · have hal : Tryd.prog.arrayLen 134 = 24 := by kernel_rfl
    have hel : Tryd.prog.arrayLen 134 = 24 ∧ True := ⟨hal, trivial⟩
    by_cases hneg : n < 0
    · obtain ⟨u, rfl⟩ : ∃ u : Nat, n = -(u : Int) := ⟨n.natAbs, by omega⟩
      have hu1 : 1 ≤ u := by omega
      have hu64 : u < 18446744073709551616 := by omega
      have hd := digits_short u hu1 hu64
      have hwr : IntKind.u64.wrap (-IntKind.u64.wrap (-(u : Int))) = (u : Int) := by rw [IntKind.wrap_u64, IntKind.wrap_u64]; omega
      have hb3 : Lib.nDigits u ≤ 23 := by omega
      have hs1 : ∀ W, (Instr.sliceAt 134 (.pointer (some ⟨w.heap.size, 0, none⟩)) (some (.int .i64 1)) (some (.int .i64 (1 + (Lib.nDigits u : Int)))) none).run Tryd.prog W = .ok (.slice (some ⟨w.heap.size, 1, none⟩) (Lib.nDigits u) 23) W := fun W => by
        rw [run_sliceAt_array_lh W 134 ⟨w.heap.size, 0, none⟩ (by kernel_rfl) .i64 .i64 1 (1 + (Lib.nDigits u : Int)) (by omega) (by omega) (by rw [hal]; omega)]
        go_simp
        omega
      have hH0 := Lib.holds_zero w 134 (Lib.nDigits u) (by omega)
      have hfmt := Tryd.internal_strconv_formatBase10 w.heap.size 1 23 u (Array.replicate (Lib.nDigits u) 0) (w.alloc (.cells Lib.zeros24 134)) hH0 (by rw [Array.size_replicate]; exact Lib.lt_pow_nDigits u) hu64 (by rw [Array.size_replicate]; omega)
      rw [Array.size_replicate] at hfmt
      have HF := XW.hid hfmt
      have HH0 := XW.hid hH0
      have HT := XW.hid htab
      clear hH0 hfmt htab
      go_enter Tryd.func63, Tryd.ntmps63
      go_wp2_with (go_at_call 65; refine (Tryd.internal_strconv_numDigits u hu1 hu64 _ (Lib.tabIs_alloc HT.out _)).mono ?_; rintro e w' ⟨rfl, rfl⟩)
      refine HF.out.mono ?_
      rintro e w' ⟨rfl, k, v', dk, rfl, hF⟩
      have hc0 : ((putRow (fun (b : UInt8) => Value.int .u8 (b.toNat : Int)) (w.alloc (.cells Lib.zeros24 134)) w.heap.size 1 dk).drewN k).cell? ⟨w.heap.size, 0, none⟩ = some (.int .u8 0) := by
        rw [World.cell?_drewN, cell?_putRow_other _ _ _ _ _ _ (Or.inr (Or.inl (Nat.zero_lt_one))), World.cell?_alloc_new]
        exact Lib.zeros24_at 0 (by omega)
      have hf0 : ((putRow (fun (b : UInt8) => Value.int .u8 (b.toNat : Int)) (w.alloc (.cells Lib.zeros24 134)) w.heap.size 1 dk).drewN k).frozen? ⟨w.heap.size, 0, none⟩ = false := by
        rw [World.frozen?_drewN, frozen?_putRow]
        exact World.frozen?_alloc_new _ _ _ _
      have hs2 : ∀ W, (Instr.sliceAt 134 (.pointer (some ⟨w.heap.size, 0, none⟩)) none (some (.int .i64 (1 + (Lib.nDigits u : Int)))) none).run Tryd.prog W = .ok (.slice (some ⟨w.heap.size, 0, none⟩) (1 + Lib.nDigits u) 24) W := fun W => by
        rw [run_sliceAt_array_h W 134 ⟨w.heap.size, 0, none⟩ (by kernel_rfl) .i64 (1 + (Lib.nDigits u : Int)) (by omega) (by rw [hal]; omega)]
        go_simp
        omega
      have hcv : (convert 30 9 (.slice (some ⟨w.heap.size, 0, none⟩) (1 + Lib.nDigits u) 24)).run Tryd.prog (((putRow (fun (b : UInt8) => Value.int .u8 (b.toNat : Int)) (w.alloc (.cells Lib.zeros24 134)) w.heap.size 1 dk).drewN k).setCell ⟨w.heap.size, 0, none⟩ (.int .u8 45)) = .ok (.string ⟨(45 :: Lib.decDigits u).toArray⟩) (((putRow (fun (b : UInt8) => Value.int .u8 (b.toNat : Int)) (w.alloc (.cells Lib.zeros24 134)) w.heap.size 1 dk).drewN k).setCell ⟨w.heap.size, 0, none⟩ (.int .u8 45)) := by
        have h := run_convert_bytes_back (P := Tryd.prog) (((putRow (fun (b : UInt8) => Value.int .u8 (b.toNat : Int)) (w.alloc (.cells Lib.zeros24 134)) w.heap.size 1 dk).drewN k).setCell ⟨w.heap.size, 0, none⟩ (.int .u8 45)) 30 9 5 ⟨w.heap.size, 0, none⟩ 24 (45 :: Lib.decDigits u) Tryd.underlying30 Tryd.underlying5 Tryd.underlying9 (fun j hj => by
          rw [Lib.add_plain]
          cases j with
          | zero => exact World.cell?_setCell_same _ _ _ hc0
          | succ i =>
            have hi : i < (Lib.decDigits u).length := by simpa using hj
            rw [World.cell?_setCell_other _ _ _ _ (by simp), List.getElem_cons_succ, Lib.row_is_numeral hF i hi, World.cell?_drewN, show 0 + (i + 1) = 1 + i by omega]
            exact cell?_putRow (fun (b : UInt8) => Value.int .u8 (b.toNat : Int)) _ w.heap.size 1 _ dk HH0.out (by rw [hF.size, Array.size_replicate]) i (by rw [hF.size]; rw [Lib.decDigits_length] at hi; exact hi))
        rw [List.length_cons, Lib.decDigits_length, Nat.add_comm] at h
        exact h
      have HD := XW.hid hd
      clear hd hF
      go_wp2
      go_ret
      obtain ⟨os, eo⟩ := Lib.fin_neg w (.cells Lib.zeros24 134) dk k (.int .u8 45)
      exact ⟨_, rfl, by
        have h1 := HD.out
        have h2 : (ByteArray.mk (45 :: Lib.decDigits u).toArray).size = (Lib.decDigits u).length + 1 := by simp [ByteArray.size]
        rw [h2, Lib.decDigits_length]; omega, k, os, eo⟩
    · obtain ⟨u, rfl⟩ : ∃ u : Nat, n = u := ⟨n.toNat, by omega⟩
      have hu1 : 1 ≤ u := by omega
      have hu64 : u < 18446744073709551616 := by omega
      have hd := digits_short u hu1 hu64
      have hb3 : Lib.nDigits u ≤ 23 := by omega
      have hs1 : ∀ W, (Instr.sliceAt 134 (.pointer (some ⟨w.heap.size, 0, none⟩)) (some (.int .i64 1)) (some (.int .i64 (1 + (Lib.nDigits u : Int)))) none).run Tryd.prog W = .ok (.slice (some ⟨w.heap.size, 1, none⟩) (Lib.nDigits u) 23) W := fun W => by
        rw [run_sliceAt_array_lh W 134 ⟨w.heap.size, 0, none⟩ (by kernel_rfl) .i64 .i64 1 (1 + (Lib.nDigits u : Int)) (by omega) (by omega) (by rw [hal]; omega)]
        go_simp
        omega
      have hH0 := Lib.holds_zero w 134 (Lib.nDigits u) (by omega)
      have hfmt := Tryd.internal_strconv_formatBase10 w.heap.size 1 23 u (Array.replicate (Lib.nDigits u) 0) (w.alloc (.cells Lib.zeros24 134)) hH0 (by rw [Array.size_replicate]; exact Lib.lt_pow_nDigits u) hu64 (by rw [Array.size_replicate]; omega)
      rw [Array.size_replicate] at hfmt
      have HF := XW.hid hfmt
      have HH0 := XW.hid hH0
      have HT := XW.hid htab
      clear hH0 hfmt htab
      go_enter Tryd.func63, Tryd.ntmps63
      go_wp2_with (go_at_call 65; refine (Tryd.internal_strconv_numDigits u hu1 hu64 _ (Lib.tabIs_alloc HT.out _)).mono ?_; rintro e w' ⟨rfl, rfl⟩)
      refine HF.out.mono ?_
      rintro e w' ⟨rfl, k, v', dk, rfl, hF⟩
      have hcv : (convert 30 9 (.slice (some ⟨w.heap.size, 1, none⟩) (Lib.nDigits u) 23)).run Tryd.prog ((putRow (fun (b : UInt8) => Value.int .u8 (b.toNat : Int)) (w.alloc (.cells Lib.zeros24 134)) w.heap.size 1 dk).drewN k) = .ok (.string ⟨(Lib.decDigits u).toArray⟩) ((putRow (fun (b : UInt8) => Value.int .u8 (b.toNat : Int)) (w.alloc (.cells Lib.zeros24 134)) w.heap.size 1 dk).drewN k) := by
        have h := run_convert_bytes_back (P := Tryd.prog) ((putRow (fun (b : UInt8) => Value.int .u8 (b.toNat : Int)) (w.alloc (.cells Lib.zeros24 134)) w.heap.size 1 dk).drewN k) 30 9 5 ⟨w.heap.size, 1, none⟩ 23 (Lib.decDigits u) Tryd.underlying30 Tryd.underlying5 Tryd.underlying9 (fun j hj => by
          rw [Lib.row_is_numeral hF j hj, Lib.add_plain, World.cell?_drewN]
          exact cell?_putRow (fun (b : UInt8) => Value.int .u8 (b.toNat : Int)) _ w.heap.size 1 _ dk HH0.out (by rw [hF.size, Array.size_replicate]) j (by rw [hF.size]; rw [Lib.decDigits_length] at hj; exact hj))
        rw [Lib.decDigits_length] at h
        exact h
      have HD := XW.hid hd
      clear hd hF
      go_wp2
      go_ret
      obtain ⟨os, eo⟩ := Lib.fin_pos w (.cells Lib.zeros24 134) dk k
      exact ⟨_, rfl, by
        have h1 := HD.out
        have h2 : (ByteArray.mk (Lib.decDigits u).toArray).size = (Lib.decDigits u).length := by simp [ByteArray.size]
        rw [h2, Lib.decDigits_length]; omega, k, os, eo⟩

theorem itoa_inner (n : Int) (h0 : -9223372036854775808 ≤ n) (h1 : n ≤ 9223372036854775807) (w : World) (htab : Lib.TabIs Tryd.prog w "internal/strconv.uint64pow10" .u64 Lib.pow10Tab) :
    Calls Tryd.prog 62 #[.int .i64 n] w fun e w' => Made w w' e := by
  have Hf := XW.hid (format_ten n h0 h1 w htab)
  clear htab
  go_enter Tryd.func62, Tryd.ntmps62
  go_wp2_with fail
  refine Hf.out.mono ?_
  rintro e w' ⟨s, rfl, hs, hk⟩
  have Hk := XW.hid hk
  clear hk
  go_wp2
  go_ret
  exact ⟨_, rfl, hs, Hk.out⟩

theorem itoa_made (n : Int) (h0 : -9223372036854775808 ≤ n) (h1 : n ≤ 9223372036854775807) (w : World) (htab : Lib.TabIs Tryd.prog w "internal/strconv.uint64pow10" .u64 Lib.pow10Tab) :
    Calls Tryd.prog 57 #[.int .i64 n] w fun e w' => Made w w' e := by
  have Hf := XW.hid (itoa_inner n h0 h1 w htab)
  clear htab
  go_enter Tryd.func57, Tryd.ntmps57
  go_wp2_with fail
  refine Hf.out.mono ?_
  rintro e w' ⟨s, rfl, hs, hk⟩
  have Hk := XW.hid hk
  clear hk
  go_wp2
  go_ret
  exact ⟨_, rfl, hs, Hk.out⟩
end Go.Proofs.YthfdfenggooalaaDoor
