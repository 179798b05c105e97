/-
  No cell of these rows narrows 'for every input' (looked for: loops, veiled, ifaces, maps, wideKeys, modest, calm, conditions, laid).
  DERIVED. THE GIVEN ROWS OF THIS SEAT. 7 by the template 'for every input the law returns true; each argument reads behind the call as it read before'; 0 by the template 'total and deterministic' (their statements: YtgabgcogeedclaaTotals.lean).
  GIVEN WITH THE SEED: the statements are not yours to turn. If you find one false, say at which input.
  Laid BY PROGRAM, IN A SANDBOX (cutbox-rows.mjs): the forced cells as the released guide's own fill.sh prints them over the translation 2ae614f56e31a345… (all of the seat's roots in one cut). By AI agents, Wed Nov 11 2026. No macro, syntax, notation, axiom, sorry.
-/
import Derived.Test.YtgabgcogeedclaaChecked
import GoSem.Claim
import GoSem.ClaimJoined
import GoSem.ClaimMapViews
import Derived.JoinedTies
import Derived.KernelRfl
namespace Go.Proofs.Ytgabgcogeedclaa
/- THE CELL 'sum', in the pinned program and in every row, IS THE sha256 OF THE DUMP (.gsa) THAT YtgabgcogeedclaaProg.lean LOADS. Nothing in Lean hashes anything: it is a label: what it is worth is what the hold of that sum in a sandbox is worth. -/
noncomputable def Try.pinned : Pinned := { name := "ytgabgcogeedclaa", sum := "2ae614f56e31a34506ec2d7e1f201e734f6c004978d20629c55b4d5977118ed8", checked := Try.checked }
namespace Rows
def none {H : Type} : Left H := { results := [], args := [] }

/-- 'laws.FnExactIsWindow': WHATEVER THE INPUT: true; the input reads as it did. -/
def fnExactIsWindowSpec : ChangeSpec := { name := "fnExactIsWindow", fn := fun _ => fun
  | [d] => { results := [.lit (.bool true)], args := [d] }
  | _ => none }
def fnExactIsWindowRow : OpenClaim := { program := "ytgabgcogeedclaa", sum := "2ae614f56e31a34506ec2d7e1f201e734f6c004978d20629c55b4d5977118ed8", func := "loop.example/g01989/laws.FnExactIsWindow", spec := "fnExactIsWindow", apart := false }
def FnExactIsWindowSaid : Prop := fnExactIsWindowRow.holds Try.pinned (OpenSpec.ofChange fnExactIsWindowSpec)

/-- ITS FALSE NEIGHBOUR: 'it returns false'. Refute it at one input. -/
def fnExactIsWindowWrong : ChangeSpec := { name := "fnExactIsWindow", fn := fun _ => fun
  | [d] => { results := [.lit (.bool false)], args := [d] }
  | _ => none }
def FnExactIsWindowWrongFalsely : Prop := fnExactIsWindowRow.holds Try.pinned (OpenSpec.ofChange fnExactIsWindowWrong)

/-- 'laws.FnExactCountPages': WHATEVER THE INPUT: true; the input reads as it did. -/
def fnExactCountPagesSpec : ChangeSpec := { name := "fnExactCountPages", fn := fun _ => fun
  | [d1, d2] => { results := [.lit (.bool true)], args := [d1, d2] }
  | _ => none }
def fnExactCountPagesRow : OpenClaim := { program := "ytgabgcogeedclaa", sum := "2ae614f56e31a34506ec2d7e1f201e734f6c004978d20629c55b4d5977118ed8", func := "loop.example/g01989/laws.FnExactCountPages", spec := "fnExactCountPages", apart := false }
def FnExactCountPagesSaid : Prop := fnExactCountPagesRow.holds Try.pinned (OpenSpec.ofChange fnExactCountPagesSpec)

/-- ITS FALSE NEIGHBOUR: 'it returns false'. Refute it at one input. -/
def fnExactCountPagesWrong : ChangeSpec := { name := "fnExactCountPages", fn := fun _ => fun
  | [d1, d2] => { results := [.lit (.bool false)], args := [d1, d2] }
  | _ => none }
def FnExactCountPagesWrongFalsely : Prop := fnExactCountPagesRow.holds Try.pinned (OpenSpec.ofChange fnExactCountPagesWrong)

/-- 'laws.FnExactCallsIn': WHATEVER THE INPUT: true; the input reads as it did. -/
def fnExactCallsInSpec : ChangeSpec := { name := "fnExactCallsIn", fn := fun _ => fun
  | [d1, d2, d3] => { results := [.lit (.bool true)], args := [d1, d2, d3] }
  | _ => none }
def fnExactCallsInRow : OpenClaim := { program := "ytgabgcogeedclaa", sum := "2ae614f56e31a34506ec2d7e1f201e734f6c004978d20629c55b4d5977118ed8", func := "loop.example/g01989/laws.FnExactCallsIn", spec := "fnExactCallsIn", apart := false }
def FnExactCallsInSaid : Prop := fnExactCallsInRow.holds Try.pinned (OpenSpec.ofChange fnExactCallsInSpec)

/-- ITS FALSE NEIGHBOUR: 'it returns false'. Refute it at one input. -/
def fnExactCallsInWrong : ChangeSpec := { name := "fnExactCallsIn", fn := fun _ => fun
  | [d1, d2, d3] => { results := [.lit (.bool false)], args := [d1, d2, d3] }
  | _ => none }
def FnExactCallsInWrongFalsely : Prop := fnExactCallsInRow.holds Try.pinned (OpenSpec.ofChange fnExactCallsInWrong)

/-- 'laws.FnExactFreshValue': WHATEVER THE INPUT: true; the input reads as it did. -/
def fnExactFreshValueSpec : ChangeSpec := { name := "fnExactFreshValue", fn := fun _ => fun
  | [d] => { results := [.lit (.bool true)], args := [d] }
  | _ => none }
def fnExactFreshValueRow : OpenClaim := { program := "ytgabgcogeedclaa", sum := "2ae614f56e31a34506ec2d7e1f201e734f6c004978d20629c55b4d5977118ed8", func := "loop.example/g01989/laws.FnExactFreshValue", spec := "fnExactFreshValue", apart := false }
def FnExactFreshValueSaid : Prop := fnExactFreshValueRow.holds Try.pinned (OpenSpec.ofChange fnExactFreshValueSpec)

/-- ITS FALSE NEIGHBOUR: 'it returns false'. Refute it at one input. -/
def fnExactFreshValueWrong : ChangeSpec := { name := "fnExactFreshValue", fn := fun _ => fun
  | [d] => { results := [.lit (.bool false)], args := [d] }
  | _ => none }
def FnExactFreshValueWrongFalsely : Prop := fnExactFreshValueRow.holds Try.pinned (OpenSpec.ofChange fnExactFreshValueWrong)

/-- 'laws.FnExactIsKept': WHATEVER THE INPUT: true; the input reads as it did. -/
def fnExactIsKeptSpec : ChangeSpec := { name := "fnExactIsKept", fn := fun _ => fun
  | [d1, d2] => { results := [.lit (.bool true)], args := [d1, d2] }
  | _ => none }
def fnExactIsKeptRow : OpenClaim := { program := "ytgabgcogeedclaa", sum := "2ae614f56e31a34506ec2d7e1f201e734f6c004978d20629c55b4d5977118ed8", func := "loop.example/g01989/laws.FnExactIsKept", spec := "fnExactIsKept", apart := false }
def FnExactIsKeptSaid : Prop := fnExactIsKeptRow.holds Try.pinned (OpenSpec.ofChange fnExactIsKeptSpec)

/-- ITS FALSE NEIGHBOUR: 'it returns false'. Refute it at one input. -/
def fnExactIsKeptWrong : ChangeSpec := { name := "fnExactIsKept", fn := fun _ => fun
  | [d1, d2] => { results := [.lit (.bool false)], args := [d1, d2] }
  | _ => none }
def FnExactIsKeptWrongFalsely : Prop := fnExactIsKeptRow.holds Try.pinned (OpenSpec.ofChange fnExactIsKeptWrong)

/-- 'laws.FnExactIsPrefix': WHATEVER THE INPUT: true; the input reads as it did. -/
def fnExactIsPrefixSpec : ChangeSpec := { name := "fnExactIsPrefix", fn := fun _ => fun
  | [d1, d2] => { results := [.lit (.bool true)], args := [d1, d2] }
  | _ => none }
def fnExactIsPrefixRow : OpenClaim := { program := "ytgabgcogeedclaa", sum := "2ae614f56e31a34506ec2d7e1f201e734f6c004978d20629c55b4d5977118ed8", func := "loop.example/g01989/laws.FnExactIsPrefix", spec := "fnExactIsPrefix", unfollowed := true, recurses := true, apart := false }
def FnExactIsPrefixSaid : Prop := fnExactIsPrefixRow.holds Try.pinned (OpenSpec.ofChange fnExactIsPrefixSpec)

/-- ITS FALSE NEIGHBOUR: 'it returns false'. Refute it at one input. -/
def fnExactIsPrefixWrong : ChangeSpec := { name := "fnExactIsPrefix", fn := fun _ => fun
  | [d1, d2] => { results := [.lit (.bool false)], args := [d1, d2] }
  | _ => none }
def FnExactIsPrefixWrongFalsely : Prop := fnExactIsPrefixRow.holds Try.pinned (OpenSpec.ofChange fnExactIsPrefixWrong)

/-- 'laws.FnExactIsOnce': WHATEVER THE INPUT: true; the input reads as it did. -/
def fnExactIsOnceSpec : ChangeSpec := { name := "fnExactIsOnce", fn := fun _ => fun
  | [d1, d2] => { results := [.lit (.bool true)], args := [d1, d2] }
  | _ => none }
def fnExactIsOnceRow : OpenClaim := { program := "ytgabgcogeedclaa", sum := "2ae614f56e31a34506ec2d7e1f201e734f6c004978d20629c55b4d5977118ed8", func := "loop.example/g01989/laws.FnExactIsOnce", spec := "fnExactIsOnce", apart := false }
def FnExactIsOnceSaid : Prop := fnExactIsOnceRow.holds Try.pinned (OpenSpec.ofChange fnExactIsOnceSpec)

/-- ITS FALSE NEIGHBOUR: 'it returns false'. Refute it at one input. -/
def fnExactIsOnceWrong : ChangeSpec := { name := "fnExactIsOnce", fn := fun _ => fun
  | [d1, d2] => { results := [.lit (.bool false)], args := [d1, d2] }
  | _ => none }
def FnExactIsOnceWrongFalsely : Prop := fnExactIsOnceRow.holds Try.pinned (OpenSpec.ofChange fnExactIsOnceWrong)

/- THE SECOND FORM. 'bulk': how many values and letters a reading holds, each counted each time it is reached (what is shared counts as often as it is met; a slice's spare places count too). A statement '..UptoSaid' is the law's where the arguments, and the package variables that the reading takes, are together of bulk at most 1048576: NARROWER than '..Said'. Prove '..Said' where nothing that the law and all that it calls make is longer than what came in: it says more and counts as full. Else prove '..UptoSaid'. A law counts once. -/
mutual
def uptoBulk {H : Type} : DataW H → Nat
  | .lit (.string bytes) => bytes.length + 1
  | .lit _ => 1
  | .nil => 1
  | .ptr d => uptoBulk d + 1
  | .slice elems spare => uptoBulkAll elems + uptoBulkAll spare + 1
  | .agg parts => uptoBulkAll parts + 1
  | .iface _ d => uptoBulk d + 1
  | .map entries => uptoBulkEntries entries + 1
  | .held _ => 1
def uptoBulkAll {H : Type} : List (DataW H) → Nat
  | [] => 0
  | d :: r => uptoBulk d + uptoBulkAll r
def uptoBulkEntries {H : Type} : List (Lit × DataW H) → Nat
  | [] => 0
  | x :: r => uptoBulkEntry x + uptoBulkEntries r
def uptoBulkEntry {H : Type} : Lit × DataW H → Nat
  | (.string bytes, d) => bytes.length + uptoBulk d + 1
  | (_, d) => uptoBulk d + 1
 end
def uptoSmall : (H : Type) → List (DataW H) → Bool := fun _ ds => decide (uptoBulkAll ds ≤ 1048576)
def OpenSpec.upto (s : _root_.Go.ChangeSpec) : _root_.Go.OpenSpec := { _root_.Go.OpenSpec.ofChange s with cond := some uptoSmall }

/-- 'laws.FnExactIsWindow', WHERE WHAT IT READS IS OF BULK AT MOST 1048576: true; the input reads as it did. -/
def fnExactIsWindowUptoRow : OpenClaim := { program := "ytgabgcogeedclaa", sum := "2ae614f56e31a34506ec2d7e1f201e734f6c004978d20629c55b4d5977118ed8", func := "loop.example/g01989/laws.FnExactIsWindow", spec := "fnExactIsWindow", apart := false, narrowed := true }
def FnExactIsWindowUptoSaid : Prop := fnExactIsWindowUptoRow.holds Try.pinned (OpenSpec.upto fnExactIsWindowSpec)

/-- 'laws.FnExactCountPages', WHERE WHAT IT READS IS OF BULK AT MOST 1048576: true; the input reads as it did. -/
def fnExactCountPagesUptoRow : OpenClaim := { program := "ytgabgcogeedclaa", sum := "2ae614f56e31a34506ec2d7e1f201e734f6c004978d20629c55b4d5977118ed8", func := "loop.example/g01989/laws.FnExactCountPages", spec := "fnExactCountPages", apart := false, narrowed := true }
def FnExactCountPagesUptoSaid : Prop := fnExactCountPagesUptoRow.holds Try.pinned (OpenSpec.upto fnExactCountPagesSpec)

/-- 'laws.FnExactCallsIn', WHERE WHAT IT READS IS OF BULK AT MOST 1048576: true; the input reads as it did. -/
def fnExactCallsInUptoRow : OpenClaim := { program := "ytgabgcogeedclaa", sum := "2ae614f56e31a34506ec2d7e1f201e734f6c004978d20629c55b4d5977118ed8", func := "loop.example/g01989/laws.FnExactCallsIn", spec := "fnExactCallsIn", apart := false, narrowed := true }
def FnExactCallsInUptoSaid : Prop := fnExactCallsInUptoRow.holds Try.pinned (OpenSpec.upto fnExactCallsInSpec)

/-- 'laws.FnExactFreshValue', WHERE WHAT IT READS IS OF BULK AT MOST 1048576: true; the input reads as it did. -/
def fnExactFreshValueUptoRow : OpenClaim := { program := "ytgabgcogeedclaa", sum := "2ae614f56e31a34506ec2d7e1f201e734f6c004978d20629c55b4d5977118ed8", func := "loop.example/g01989/laws.FnExactFreshValue", spec := "fnExactFreshValue", apart := false, narrowed := true }
def FnExactFreshValueUptoSaid : Prop := fnExactFreshValueUptoRow.holds Try.pinned (OpenSpec.upto fnExactFreshValueSpec)

/-- 'laws.FnExactIsKept', WHERE WHAT IT READS IS OF BULK AT MOST 1048576: true; the input reads as it did. -/
def fnExactIsKeptUptoRow : OpenClaim := { program := "ytgabgcogeedclaa", sum := "2ae614f56e31a34506ec2d7e1f201e734f6c004978d20629c55b4d5977118ed8", func := "loop.example/g01989/laws.FnExactIsKept", spec := "fnExactIsKept", apart := false, narrowed := true }
def FnExactIsKeptUptoSaid : Prop := fnExactIsKeptUptoRow.holds Try.pinned (OpenSpec.upto fnExactIsKeptSpec)

/-- 'laws.FnExactIsPrefix', WHERE WHAT IT READS IS OF BULK AT MOST 1048576: true; the input reads as it did. -/
def fnExactIsPrefixUptoRow : OpenClaim := { program := "ytgabgcogeedclaa", sum := "2ae614f56e31a34506ec2d7e1f201e734f6c004978d20629c55b4d5977118ed8", func := "loop.example/g01989/laws.FnExactIsPrefix", spec := "fnExactIsPrefix", unfollowed := true, recurses := true, apart := false, narrowed := true }
def FnExactIsPrefixUptoSaid : Prop := fnExactIsPrefixUptoRow.holds Try.pinned (OpenSpec.upto fnExactIsPrefixSpec)

/-- 'laws.FnExactIsOnce', WHERE WHAT IT READS IS OF BULK AT MOST 1048576: true; the input reads as it did. -/
def fnExactIsOnceUptoRow : OpenClaim := { program := "ytgabgcogeedclaa", sum := "2ae614f56e31a34506ec2d7e1f201e734f6c004978d20629c55b4d5977118ed8", func := "loop.example/g01989/laws.FnExactIsOnce", spec := "fnExactIsOnce", apart := false, narrowed := true }
def FnExactIsOnceUptoSaid : Prop := fnExactIsOnceUptoRow.holds Try.pinned (OpenSpec.upto fnExactIsOnceSpec)

end Rows
end Go.Proofs.Ytgabgcogeedclaa
