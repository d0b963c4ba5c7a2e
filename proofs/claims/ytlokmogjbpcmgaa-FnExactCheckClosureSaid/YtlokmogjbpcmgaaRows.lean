/-
  No cell of these rows narrows 'for every input' (looked for: loops, veiled, ifaces, maps, wideKeys, modest, calm, conditions, laid).
  DERIVED. THE GIVEN ROWS OF THIS SEAT. 6 by the template 'for every input the law returns true; each argument reads behind the call as it read before'; 0 by the template 'total and deterministic' (their statements: YtlokmogjbpcmgaaTotals.lean).
  GIVEN WITH THE SEED: the statements are not yours to turn. If you find one false, say at which input.
  Laid BY PROGRAM, IN A SANDBOX (cutbox-rows.mjs): the forced cells as the released guide's own fill.sh prints them over the translation ed47f15d769f9d8a… (all of the seat's roots in one cut). By AI agents, Wed Nov 11 2026. No macro, syntax, notation, axiom, sorry.
-/
import Derived.Test.YtlokmogjbpcmgaaChecked
import GoSem.Claim
import GoSem.ClaimJoined
import GoSem.ClaimMapViews
import Derived.JoinedTies
import Derived.KernelRfl
namespace Go.Proofs.Ytlokmogjbpcmgaa
/- THE CELL 'sum', in the pinned program and in every row, IS THE sha256 OF THE DUMP (.gsa) THAT YtlokmogjbpcmgaaProg.lean LOADS. Nothing in Lean hashes anything: it is a label: what it is worth is what the hold of that sum in a sandbox is worth. -/
noncomputable def Try.pinned : Pinned := { name := "ytlokmogjbpcmgaa", sum := "ed47f15d769f9d8ad1061be14b2192b1f2fba16e5041065a8ef685d9329573b4", checked := Try.checked }
namespace Rows
def none {H : Type} : Left H := { results := [], args := [] }

/-- 'laws.FnExactNewView': WHATEVER THE INPUT: true; the input reads as it did. -/
def fnExactNewViewSpec : ChangeSpec := { name := "fnExactNewView", fn := fun _ => fun
  | [] => { results := [.lit (.bool true)], args := [] }
  | _ => none }
def fnExactNewViewRow : OpenClaim := { program := "ytlokmogjbpcmgaa", sum := "ed47f15d769f9d8ad1061be14b2192b1f2fba16e5041065a8ef685d9329573b4", func := "loop.example/dataflow/laws.FnExactNewView", spec := "fnExactNewView", apart := false }
def FnExactNewViewSaid : Prop := fnExactNewViewRow.holds Try.pinned (OpenSpec.ofChange fnExactNewViewSpec)

/-- ITS FALSE NEIGHBOUR: 'it returns false'. Refute it at one input. -/
def fnExactNewViewWrong : ChangeSpec := { name := "fnExactNewView", fn := fun _ => fun
  | [] => { results := [.lit (.bool false)], args := [] }
  | _ => none }
def FnExactNewViewWrongFalsely : Prop := fnExactNewViewRow.holds Try.pinned (OpenSpec.ofChange fnExactNewViewWrong)

/-- 'laws.FnExactCheckPath': WHATEVER THE INPUT: true; the input reads as it did. -/
def fnExactCheckPathSpec : ChangeSpec := { name := "fnExactCheckPath", fn := fun _ => fun
  | [d1, d2, d3, d4] => { results := [.lit (.bool true)], args := [d1, d2, d3, d4] }
  | _ => none }
def fnExactCheckPathRow : OpenClaim := { program := "ytlokmogjbpcmgaa", sum := "ed47f15d769f9d8ad1061be14b2192b1f2fba16e5041065a8ef685d9329573b4", func := "loop.example/dataflow/laws.FnExactCheckPath", spec := "fnExactCheckPath", apart := false }
def FnExactCheckPathSaid : Prop := fnExactCheckPathRow.holds Try.pinned (OpenSpec.ofChange fnExactCheckPathSpec)

/-- ITS FALSE NEIGHBOUR: 'it returns false'. Refute it at one input. -/
def fnExactCheckPathWrong : ChangeSpec := { name := "fnExactCheckPath", fn := fun _ => fun
  | [d1, d2, d3, d4] => { results := [.lit (.bool false)], args := [d1, d2, d3, d4] }
  | _ => none }
def FnExactCheckPathWrongFalsely : Prop := fnExactCheckPathRow.holds Try.pinned (OpenSpec.ofChange fnExactCheckPathWrong)

/-- 'laws.FnExactCheckClosure': WHATEVER THE INPUT: true; the input reads as it did. -/
def fnExactCheckClosureSpec : ChangeSpec := { name := "fnExactCheckClosure", fn := fun _ => fun
  | [d1, d2] => { results := [.lit (.bool true)], args := [d1, d2] }
  | _ => none }
def fnExactCheckClosureRow : OpenClaim := { program := "ytlokmogjbpcmgaa", sum := "ed47f15d769f9d8ad1061be14b2192b1f2fba16e5041065a8ef685d9329573b4", func := "loop.example/dataflow/laws.FnExactCheckClosure", spec := "fnExactCheckClosure", apart := false }
def FnExactCheckClosureSaid : Prop := fnExactCheckClosureRow.holds Try.pinned (OpenSpec.ofChange fnExactCheckClosureSpec)

/-- ITS FALSE NEIGHBOUR: 'it returns false'. Refute it at one input. -/
def fnExactCheckClosureWrong : ChangeSpec := { name := "fnExactCheckClosure", fn := fun _ => fun
  | [d1, d2] => { results := [.lit (.bool false)], args := [d1, d2] }
  | _ => none }
def FnExactCheckClosureWrongFalsely : Prop := fnExactCheckClosureRow.holds Try.pinned (OpenSpec.ofChange fnExactCheckClosureWrong)

/-- 'laws.FnExactValidView': WHATEVER THE INPUT: true; the input reads as it did. -/
def fnExactValidViewSpec : ChangeSpec := { name := "fnExactValidView", fn := fun _ => fun
  | [d] => { results := [.lit (.bool true)], args := [d] }
  | _ => none }
def fnExactValidViewRow : OpenClaim := { program := "ytlokmogjbpcmgaa", sum := "ed47f15d769f9d8ad1061be14b2192b1f2fba16e5041065a8ef685d9329573b4", func := "loop.example/dataflow/laws.FnExactValidView", spec := "fnExactValidView", apart := false }
def FnExactValidViewSaid : Prop := fnExactValidViewRow.holds Try.pinned (OpenSpec.ofChange fnExactValidViewSpec)

/-- ITS FALSE NEIGHBOUR: 'it returns false'. Refute it at one input. -/
def fnExactValidViewWrong : ChangeSpec := { name := "fnExactValidView", fn := fun _ => fun
  | [d] => { results := [.lit (.bool false)], args := [d] }
  | _ => none }
def FnExactValidViewWrongFalsely : Prop := fnExactValidViewRow.holds Try.pinned (OpenSpec.ofChange fnExactValidViewWrong)

/-- 'laws.FnExactCertifyClosure': WHATEVER THE INPUT: true; the input reads as it did. -/
def fnExactCertifyClosureSpec : ChangeSpec := { name := "fnExactCertifyClosure", fn := fun _ => fun
  | [d] => { results := [.lit (.bool true)], args := [d] }
  | _ => none }
def fnExactCertifyClosureRow : OpenClaim := { program := "ytlokmogjbpcmgaa", sum := "ed47f15d769f9d8ad1061be14b2192b1f2fba16e5041065a8ef685d9329573b4", func := "loop.example/dataflow/laws.FnExactCertifyClosure", spec := "fnExactCertifyClosure", unfollowed := true, recurses := true, apart := false }
def FnExactCertifyClosureSaid : Prop := fnExactCertifyClosureRow.holds Try.pinned (OpenSpec.ofChange fnExactCertifyClosureSpec)

/-- ITS FALSE NEIGHBOUR: 'it returns false'. Refute it at one input. -/
def fnExactCertifyClosureWrong : ChangeSpec := { name := "fnExactCertifyClosure", fn := fun _ => fun
  | [d] => { results := [.lit (.bool false)], args := [d] }
  | _ => none }
def FnExactCertifyClosureWrongFalsely : Prop := fnExactCertifyClosureRow.holds Try.pinned (OpenSpec.ofChange fnExactCertifyClosureWrong)

/-- 'laws.FnExactCertifyPath': WHATEVER THE INPUT: true; the input reads as it did. -/
def fnExactCertifyPathSpec : ChangeSpec := { name := "fnExactCertifyPath", fn := fun _ => fun
  | [d1, d2, d3] => { results := [.lit (.bool true)], args := [d1, d2, d3] }
  | _ => none }
def fnExactCertifyPathRow : OpenClaim := { program := "ytlokmogjbpcmgaa", sum := "ed47f15d769f9d8ad1061be14b2192b1f2fba16e5041065a8ef685d9329573b4", func := "loop.example/dataflow/laws.FnExactCertifyPath", spec := "fnExactCertifyPath", apart := false }
def FnExactCertifyPathSaid : Prop := fnExactCertifyPathRow.holds Try.pinned (OpenSpec.ofChange fnExactCertifyPathSpec)

/-- ITS FALSE NEIGHBOUR: 'it returns false'. Refute it at one input. -/
def fnExactCertifyPathWrong : ChangeSpec := { name := "fnExactCertifyPath", fn := fun _ => fun
  | [d1, d2, d3] => { results := [.lit (.bool false)], args := [d1, d2, d3] }
  | _ => none }
def FnExactCertifyPathWrongFalsely : Prop := fnExactCertifyPathRow.holds Try.pinned (OpenSpec.ofChange fnExactCertifyPathWrong)

/- THE SECOND FORM. 'bulk': how many values and letters a reading holds, each counted each time it is reached (what is shared counts as often as it is met; a slice's spare places count too). A statement '..UptoSaid' is the law's where the arguments, and the package variables that the reading takes, are together of bulk at most 1048576: NARROWER than '..Said'. Prove '..Said' where nothing that the law and all that it calls make is longer than what came in: it says more and counts as full. Else prove '..UptoSaid'. A law counts once. -/
mutual
def uptoBulk {H : Type} : DataW H → Nat
  | .lit (.string bytes) => bytes.length + 1
  | .lit _ => 1
  | .nil => 1
  | .ptr d => uptoBulk d + 1
  | .slice elems spare => uptoBulkAll elems + uptoBulkAll spare + 1
  | .agg parts => uptoBulkAll parts + 1
  | .iface _ d => uptoBulk d + 1
  | .map entries => uptoBulkEntries entries + 1
  | .held _ => 1
def uptoBulkAll {H : Type} : List (DataW H) → Nat
  | [] => 0
  | d :: r => uptoBulk d + uptoBulkAll r
def uptoBulkEntries {H : Type} : List (Lit × DataW H) → Nat
  | [] => 0
  | x :: r => uptoBulkEntry x + uptoBulkEntries r
def uptoBulkEntry {H : Type} : Lit × DataW H → Nat
  | (.string bytes, d) => bytes.length + uptoBulk d + 1
  | (_, d) => uptoBulk d + 1
 end
def uptoSmall : (H : Type) → List (DataW H) → Bool := fun _ ds => decide (uptoBulkAll ds ≤ 1048576)
def OpenSpec.upto (s : _root_.Go.ChangeSpec) : _root_.Go.OpenSpec := { _root_.Go.OpenSpec.ofChange s with cond := some uptoSmall }

/-- 'laws.FnExactNewView', WHERE WHAT IT READS IS OF BULK AT MOST 1048576: true; the input reads as it did. -/
def fnExactNewViewUptoRow : OpenClaim := { program := "ytlokmogjbpcmgaa", sum := "ed47f15d769f9d8ad1061be14b2192b1f2fba16e5041065a8ef685d9329573b4", func := "loop.example/dataflow/laws.FnExactNewView", spec := "fnExactNewView", apart := false, narrowed := true }
def FnExactNewViewUptoSaid : Prop := fnExactNewViewUptoRow.holds Try.pinned (OpenSpec.upto fnExactNewViewSpec)

/-- 'laws.FnExactCheckPath', WHERE WHAT IT READS IS OF BULK AT MOST 1048576: true; the input reads as it did. -/
def fnExactCheckPathUptoRow : OpenClaim := { program := "ytlokmogjbpcmgaa", sum := "ed47f15d769f9d8ad1061be14b2192b1f2fba16e5041065a8ef685d9329573b4", func := "loop.example/dataflow/laws.FnExactCheckPath", spec := "fnExactCheckPath", apart := false, narrowed := true }
def FnExactCheckPathUptoSaid : Prop := fnExactCheckPathUptoRow.holds Try.pinned (OpenSpec.upto fnExactCheckPathSpec)

/-- 'laws.FnExactCheckClosure', WHERE WHAT IT READS IS OF BULK AT MOST 1048576: true; the input reads as it did. -/
def fnExactCheckClosureUptoRow : OpenClaim := { program := "ytlokmogjbpcmgaa", sum := "ed47f15d769f9d8ad1061be14b2192b1f2fba16e5041065a8ef685d9329573b4", func := "loop.example/dataflow/laws.FnExactCheckClosure", spec := "fnExactCheckClosure", apart := false, narrowed := true }
def FnExactCheckClosureUptoSaid : Prop := fnExactCheckClosureUptoRow.holds Try.pinned (OpenSpec.upto fnExactCheckClosureSpec)

/-- 'laws.FnExactValidView', WHERE WHAT IT READS IS OF BULK AT MOST 1048576: true; the input reads as it did. -/
def fnExactValidViewUptoRow : OpenClaim := { program := "ytlokmogjbpcmgaa", sum := "ed47f15d769f9d8ad1061be14b2192b1f2fba16e5041065a8ef685d9329573b4", func := "loop.example/dataflow/laws.FnExactValidView", spec := "fnExactValidView", apart := false, narrowed := true }
def FnExactValidViewUptoSaid : Prop := fnExactValidViewUptoRow.holds Try.pinned (OpenSpec.upto fnExactValidViewSpec)

/-- 'laws.FnExactCertifyClosure', WHERE WHAT IT READS IS OF BULK AT MOST 1048576: true; the input reads as it did. -/
def fnExactCertifyClosureUptoRow : OpenClaim := { program := "ytlokmogjbpcmgaa", sum := "ed47f15d769f9d8ad1061be14b2192b1f2fba16e5041065a8ef685d9329573b4", func := "loop.example/dataflow/laws.FnExactCertifyClosure", spec := "fnExactCertifyClosure", unfollowed := true, recurses := true, apart := false, narrowed := true }
def FnExactCertifyClosureUptoSaid : Prop := fnExactCertifyClosureUptoRow.holds Try.pinned (OpenSpec.upto fnExactCertifyClosureSpec)

/-- 'laws.FnExactCertifyPath', WHERE WHAT IT READS IS OF BULK AT MOST 1048576: true; the input reads as it did. -/
def fnExactCertifyPathUptoRow : OpenClaim := { program := "ytlokmogjbpcmgaa", sum := "ed47f15d769f9d8ad1061be14b2192b1f2fba16e5041065a8ef685d9329573b4", func := "loop.example/dataflow/laws.FnExactCertifyPath", spec := "fnExactCertifyPath", apart := false, narrowed := true }
def FnExactCertifyPathUptoSaid : Prop := fnExactCertifyPathUptoRow.holds Try.pinned (OpenSpec.upto fnExactCertifyPathSpec)

end Rows
end Go.Proofs.Ytlokmogjbpcmgaa
