/-
  NARROWER THAN 'FOR EVERY INPUT', by the rows' own cells (each row's printed sentence says how): WorkerGives: loops, laid · WorkerIgnores: laid.
  DERIVED. THE GIVEN ROWS OF THIS SEAT. 2 by the template 'for every input the law returns true; each argument reads behind the call as it read before'; 0 by the template 'total and deterministic' (their statements: YthfdfenggooalaaDoorTotals.lean).
  GIVEN WITH THE SEED: the statements are not yours to turn. If you find one false, say at which input.
  Laid BY PROGRAM, IN A SANDBOX (cutbox-rows.mjs): the forced cells as the released guide's own fill.sh prints them over the translation 1c00a934a6d80192… (all of the seat's roots in one cut). By AI agents, Wed Nov 11 2026. No macro, syntax, notation, axiom, sorry.
-/
import Derived.Test.YthfdfenggooalaaDoorChecked
import GoSem.Claim
import GoSem.ClaimJoined
import GoSem.ClaimMapViews
import Derived.JoinedTies
import Derived.KernelRfl
namespace Go.Proofs.YthfdfenggooalaaDoor
/- THE CELL 'sum', in the pinned program and in every row, IS THE sha256 OF THE DUMP (.gsa) THAT YthfdfenggooalaaDoorProg.lean LOADS. Nothing in Lean hashes anything: it is a label: what it is worth is what the hold of that sum in a sandbox is worth. -/
noncomputable def Tryd.pinned : Pinned := { name := "ythfdfenggooalaadoor", sum := "1c00a934a6d8019294fd8ce387031d2abee17311ef730436a2ac78886d9bf9cb", checked := Tryd.checked }
namespace Rows
def none {H : Type} : Left H := { results := [], args := [] }

/- WHAT THE LISTED PACKAGE-LEVEL VARIABLES READ AS WHEN THE CALL BEGINS. Each datum BY PROGRAM (the guide's laid-datum.mjs) off the statement by which the dump's own 'gosem.cut.vars' lays the variable. In a bare row this is a premise. The card (YthfdfenggooalaaDoorCards.lean) ties it to the program's text. -/
def laid_internal_strconv_uint64pow10 {H : Type} : DataW H := .agg [.lit (.int .u64 1), .lit (.int .u64 10), .lit (.int .u64 100), .lit (.int .u64 1000), .lit (.int .u64 10000), .lit (.int .u64 100000), .lit (.int .u64 1000000), .lit (.int .u64 10000000), .lit (.int .u64 100000000), .lit (.int .u64 1000000000), .lit (.int .u64 10000000000), .lit (.int .u64 100000000000), .lit (.int .u64 1000000000000), .lit (.int .u64 10000000000000), .lit (.int .u64 100000000000000), .lit (.int .u64 1000000000000000), .lit (.int .u64 10000000000000000), .lit (.int .u64 100000000000000000), .lit (.int .u64 1000000000000000000), .lit (.int .u64 10000000000000000000)]

/-- 'gristmilllaw28.WorkerGives': WHATEVER THE INPUT: true; the input reads as it did. -/
def workerGivesSpec : ChangeSpec := { name := "workerGives", fn := fun _ => fun
  | [d1, d2, d3, d4] => { results := [.lit (.bool true)], args := [d1, d2, d3, d4] }
  | _ => none }
def workerGivesRow : OpenClaim := { program := "ythfdfenggooalaadoor", sum := "1c00a934a6d8019294fd8ce387031d2abee17311ef730436a2ac78886d9bf9cb", func := "gristmill/gristmilllaw28.WorkerGives", spec := "workerGives", inPlace := ["gosem.stop:gristmill/gristmillref12.Asks", "gosem.stop:gristmill/gristmillref13.Emits", "gosem.stop:gristmill/gristmillref17.Some", "gosem.stop:(*gristmill/worker.Worker).runMap", "gosem.stop:internal/strconv.formatBits", "gosem.stop:gristmill/spill.Get", "gosem.stop:gristmill/merge.All", "gosem.stop:gristmill/merge.Reduce", "gosem.stop:(*gristmill/worker.Worker).fail", "gosem.stop:gristmill/output.Files"], recurses := true, named := ["internal/strconv.uint64pow10"], loops := true, apart := false, laid := [("internal/strconv.uint64pow10", laid_internal_strconv_uint64pow10)] }
def WorkerGivesSaid : Prop := workerGivesRow.holds Tryd.pinned (OpenSpec.ofChange workerGivesSpec)

/-- ITS FALSE NEIGHBOUR: 'it returns false'. Refute it at one input. -/
def workerGivesWrong : ChangeSpec := { name := "workerGives", fn := fun _ => fun
  | [d1, d2, d3, d4] => { results := [.lit (.bool false)], args := [d1, d2, d3, d4] }
  | _ => none }
def WorkerGivesWrongFalsely : Prop := workerGivesRow.holds Tryd.pinned (OpenSpec.ofChange workerGivesWrong)

/-- 'gristmilllaw28.WorkerIgnores': WHATEVER THE INPUT: true; the input reads as it did. -/
def workerIgnoresSpec : ChangeSpec := { name := "workerIgnores", fn := fun _ => fun
  | [d1, d2] => { results := [.lit (.bool true)], args := [d1, d2] }
  | _ => none }
def workerIgnoresRow : OpenClaim := { program := "ythfdfenggooalaadoor", sum := "1c00a934a6d8019294fd8ce387031d2abee17311ef730436a2ac78886d9bf9cb", func := "gristmill/gristmilllaw28.WorkerIgnores", spec := "workerIgnores", inPlace := ["gosem.stop:(*gristmill/worker.Worker).runMap", "gosem.stop:internal/strconv.formatBits", "gosem.stop:gristmill/spill.Get", "gosem.stop:gristmill/merge.All", "gosem.stop:gristmill/merge.Reduce", "gosem.stop:(*gristmill/worker.Worker).fail", "gosem.stop:gristmill/output.Files"], named := ["internal/strconv.uint64pow10"], apart := false, laid := [("internal/strconv.uint64pow10", laid_internal_strconv_uint64pow10)] }
def WorkerIgnoresSaid : Prop := workerIgnoresRow.holds Tryd.pinned (OpenSpec.ofChange workerIgnoresSpec)

/-- ITS FALSE NEIGHBOUR: 'it returns false'. Refute it at one input. -/
def workerIgnoresWrong : ChangeSpec := { name := "workerIgnores", fn := fun _ => fun
  | [d1, d2] => { results := [.lit (.bool false)], args := [d1, d2] }
  | _ => none }
def WorkerIgnoresWrongFalsely : Prop := workerIgnoresRow.holds Tryd.pinned (OpenSpec.ofChange workerIgnoresWrong)

/- THE SECOND FORM. 'bulk': how many values and letters a reading holds, each counted each time it is reached (what is shared counts as often as it is met; a slice's spare places count too). A statement '..UptoSaid' is the law's where the arguments, and the package variables that the reading takes, are together of bulk at most 1048576: NARROWER than '..Said'. Prove '..Said' where nothing that the law and all that it calls make is longer than what came in: it says more and counts as full. Else prove '..UptoSaid'. A law counts once. -/
mutual
def uptoBulk {H : Type} : DataW H → Nat
  | .lit (.string bytes) => bytes.length + 1
  | .lit _ => 1
  | .nil => 1
  | .ptr d => uptoBulk d + 1
  | .slice elems spare => uptoBulkAll elems + uptoBulkAll spare + 1
  | .agg parts => uptoBulkAll parts + 1
  | .iface _ d => uptoBulk d + 1
  | .map entries => uptoBulkEntries entries + 1
  | .held _ => 1
def uptoBulkAll {H : Type} : List (DataW H) → Nat
  | [] => 0
  | d :: r => uptoBulk d + uptoBulkAll r
def uptoBulkEntries {H : Type} : List (Lit × DataW H) → Nat
  | [] => 0
  | x :: r => uptoBulkEntry x + uptoBulkEntries r
def uptoBulkEntry {H : Type} : Lit × DataW H → Nat
  | (.string bytes, d) => bytes.length + uptoBulk d + 1
  | (_, d) => uptoBulk d + 1
 end
def uptoSmall : (H : Type) → List (DataW H) → Bool := fun _ ds => decide (uptoBulkAll ds ≤ 1048576)
def OpenSpec.upto (s : _root_.Go.ChangeSpec) : _root_.Go.OpenSpec := { _root_.Go.OpenSpec.ofChange s with cond := some uptoSmall }

/-- 'gristmilllaw28.WorkerGives', WHERE WHAT IT READS IS OF BULK AT MOST 1048576: true; the input reads as it did. -/
def workerGivesUptoRow : OpenClaim := { program := "ythfdfenggooalaadoor", sum := "1c00a934a6d8019294fd8ce387031d2abee17311ef730436a2ac78886d9bf9cb", func := "gristmill/gristmilllaw28.WorkerGives", spec := "workerGives", inPlace := ["gosem.stop:gristmill/gristmillref12.Asks", "gosem.stop:gristmill/gristmillref13.Emits", "gosem.stop:gristmill/gristmillref17.Some", "gosem.stop:(*gristmill/worker.Worker).runMap", "gosem.stop:internal/strconv.formatBits", "gosem.stop:gristmill/spill.Get", "gosem.stop:gristmill/merge.All", "gosem.stop:gristmill/merge.Reduce", "gosem.stop:(*gristmill/worker.Worker).fail", "gosem.stop:gristmill/output.Files"], recurses := true, named := ["internal/strconv.uint64pow10"], loops := true, apart := false, laid := [("internal/strconv.uint64pow10", laid_internal_strconv_uint64pow10)], narrowed := true }
def WorkerGivesUptoSaid : Prop := workerGivesUptoRow.holds Tryd.pinned (OpenSpec.upto workerGivesSpec)

/-- 'gristmilllaw28.WorkerIgnores', WHERE WHAT IT READS IS OF BULK AT MOST 1048576: true; the input reads as it did. -/
def workerIgnoresUptoRow : OpenClaim := { program := "ythfdfenggooalaadoor", sum := "1c00a934a6d8019294fd8ce387031d2abee17311ef730436a2ac78886d9bf9cb", func := "gristmill/gristmilllaw28.WorkerIgnores", spec := "workerIgnores", inPlace := ["gosem.stop:(*gristmill/worker.Worker).runMap", "gosem.stop:internal/strconv.formatBits", "gosem.stop:gristmill/spill.Get", "gosem.stop:gristmill/merge.All", "gosem.stop:gristmill/merge.Reduce", "gosem.stop:(*gristmill/worker.Worker).fail", "gosem.stop:gristmill/output.Files"], named := ["internal/strconv.uint64pow10"], apart := false, laid := [("internal/strconv.uint64pow10", laid_internal_strconv_uint64pow10)], narrowed := true }
def WorkerIgnoresUptoSaid : Prop := workerIgnoresUptoRow.holds Tryd.pinned (OpenSpec.upto workerIgnoresSpec)

end Rows
end Go.Proofs.YthfdfenggooalaaDoor
