/-
  No cell of these rows narrows 'for every input' (looked for: loops, veiled, ifaces, maps, wideKeys, modest, calm, conditions, laid).
  DERIVED. THE GIVEN ROWS OF THIS SEAT. 12 by the template 'for every input the law returns true; each argument reads behind the call as it read before'; 0 by the template 'total and deterministic' (their statements: YtjffopklnampaaaTotals.lean).
  GIVEN WITH THE SEED: the statements are not yours to turn. If you find one false, say at which input.
  Laid BY PROGRAM, IN A SANDBOX (cutbox-rows.mjs): the forced cells as the released guide's own fill.sh prints them over the translation f3af2f9619d9ce13… (all of the seat's roots in one cut). By AI agents, Wed Nov 11 2026. No macro, syntax, notation, axiom, sorry.
-/
import Derived.Test.YtjffopklnampaaaChecked
import GoSem.Claim
import GoSem.ClaimJoined
import GoSem.ClaimMapViews
import Derived.JoinedTies
import Derived.KernelRfl
namespace Go.Proofs.Ytjffopklnampaaa
/- THE CELL 'sum', in the pinned program and in every row, IS THE sha256 OF THE DUMP (.gsa) THAT YtjffopklnampaaaProg.lean LOADS. Nothing in Lean hashes anything: it is a label: what it is worth is what the hold of that sum in a sandbox is worth. -/
noncomputable def Try.pinned : Pinned := { name := "ytjffopklnampaaa", sum := "f3af2f9619d9ce1327d0961c2b4d58ee2063cc8537addcbdbe3637f7bd1ea901", checked := Try.checked }
namespace Rows
def none {H : Type} : Left H := { results := [], args := [] }

/-- 'laws.FnExactFindStored': WHATEVER THE INPUT: true; the input reads as it did. -/
def fnExactFindStoredSpec : ChangeSpec := { name := "fnExactFindStored", fn := fun _ => fun
  | [d1, d2] => { results := [.lit (.bool true)], args := [d1, d2] }
  | _ => none }
def fnExactFindStoredRow : OpenClaim := { program := "ytjffopklnampaaa", sum := "f3af2f9619d9ce1327d0961c2b4d58ee2063cc8537addcbdbe3637f7bd1ea901", func := "loop.example/g01989/laws.FnExactFindStored", spec := "fnExactFindStored", unfollowed := true, recurses := true, apart := false }
def FnExactFindStoredSaid : Prop := fnExactFindStoredRow.holds Try.pinned (OpenSpec.ofChange fnExactFindStoredSpec)

/-- ITS FALSE NEIGHBOUR: 'it returns false'. Refute it at one input. -/
def fnExactFindStoredWrong : ChangeSpec := { name := "fnExactFindStored", fn := fun _ => fun
  | [d1, d2] => { results := [.lit (.bool false)], args := [d1, d2] }
  | _ => none }
def FnExactFindStoredWrongFalsely : Prop := fnExactFindStoredRow.holds Try.pinned (OpenSpec.ofChange fnExactFindStoredWrong)

/-- 'laws.FnExactIsHopeless': WHATEVER THE INPUT: true; the input reads as it did. -/
def fnExactIsHopelessSpec : ChangeSpec := { name := "fnExactIsHopeless", fn := fun _ => fun
  | [d1, d2, d3] => { results := [.lit (.bool true)], args := [d1, d2, d3] }
  | _ => none }
def fnExactIsHopelessRow : OpenClaim := { program := "ytjffopklnampaaa", sum := "f3af2f9619d9ce1327d0961c2b4d58ee2063cc8537addcbdbe3637f7bd1ea901", func := "loop.example/g01989/laws.FnExactIsHopeless", spec := "fnExactIsHopeless", apart := false }
def FnExactIsHopelessSaid : Prop := fnExactIsHopelessRow.holds Try.pinned (OpenSpec.ofChange fnExactIsHopelessSpec)

/-- ITS FALSE NEIGHBOUR: 'it returns false'. Refute it at one input. -/
def fnExactIsHopelessWrong : ChangeSpec := { name := "fnExactIsHopeless", fn := fun _ => fun
  | [d1, d2, d3] => { results := [.lit (.bool false)], args := [d1, d2, d3] }
  | _ => none }
def FnExactIsHopelessWrongFalsely : Prop := fnExactIsHopelessRow.holds Try.pinned (OpenSpec.ofChange fnExactIsHopelessWrong)

/-- 'laws.FnExactIsExistential': WHATEVER THE INPUT: true; the input reads as it did. -/
def fnExactIsExistentialSpec : ChangeSpec := { name := "fnExactIsExistential", fn := fun _ => fun
  | [d1, d2, d3] => { results := [.lit (.bool true)], args := [d1, d2, d3] }
  | _ => none }
def fnExactIsExistentialRow : OpenClaim := { program := "ytjffopklnampaaa", sum := "f3af2f9619d9ce1327d0961c2b4d58ee2063cc8537addcbdbe3637f7bd1ea901", func := "loop.example/g01989/laws.FnExactIsExistential", spec := "fnExactIsExistential", apart := false }
def FnExactIsExistentialSaid : Prop := fnExactIsExistentialRow.holds Try.pinned (OpenSpec.ofChange fnExactIsExistentialSpec)

/-- ITS FALSE NEIGHBOUR: 'it returns false'. Refute it at one input. -/
def fnExactIsExistentialWrong : ChangeSpec := { name := "fnExactIsExistential", fn := fun _ => fun
  | [d1, d2, d3] => { results := [.lit (.bool false)], args := [d1, d2, d3] }
  | _ => none }
def FnExactIsExistentialWrongFalsely : Prop := fnExactIsExistentialRow.holds Try.pinned (OpenSpec.ofChange fnExactIsExistentialWrong)

/-- 'laws.FnExactFilterFacts': WHATEVER THE INPUT: true; the input reads as it did. -/
def fnExactFilterFactsSpec : ChangeSpec := { name := "fnExactFilterFacts", fn := fun _ => fun
  | [d1, d2, d3] => { results := [.lit (.bool true)], args := [d1, d2, d3] }
  | _ => none }
def fnExactFilterFactsRow : OpenClaim := { program := "ytjffopklnampaaa", sum := "f3af2f9619d9ce1327d0961c2b4d58ee2063cc8537addcbdbe3637f7bd1ea901", func := "loop.example/g01989/laws.FnExactFilterFacts", spec := "fnExactFilterFacts", apart := false }
def FnExactFilterFactsSaid : Prop := fnExactFilterFactsRow.holds Try.pinned (OpenSpec.ofChange fnExactFilterFactsSpec)

/-- ITS FALSE NEIGHBOUR: 'it returns false'. Refute it at one input. -/
def fnExactFilterFactsWrong : ChangeSpec := { name := "fnExactFilterFacts", fn := fun _ => fun
  | [d1, d2, d3] => { results := [.lit (.bool false)], args := [d1, d2, d3] }
  | _ => none }
def FnExactFilterFactsWrongFalsely : Prop := fnExactFilterFactsRow.holds Try.pinned (OpenSpec.ofChange fnExactFilterFactsWrong)

/-- 'laws.FnExactAtomsFor': WHATEVER THE INPUT: true; the input reads as it did. -/
def fnExactAtomsForSpec : ChangeSpec := { name := "fnExactAtomsFor", fn := fun _ => fun
  | [d1, d2, d3] => { results := [.lit (.bool true)], args := [d1, d2, d3] }
  | _ => none }
def fnExactAtomsForRow : OpenClaim := { program := "ytjffopklnampaaa", sum := "f3af2f9619d9ce1327d0961c2b4d58ee2063cc8537addcbdbe3637f7bd1ea901", func := "loop.example/g01989/laws.FnExactAtomsFor", spec := "fnExactAtomsFor", apart := false }
def FnExactAtomsForSaid : Prop := fnExactAtomsForRow.holds Try.pinned (OpenSpec.ofChange fnExactAtomsForSpec)

/-- ITS FALSE NEIGHBOUR: 'it returns false'. Refute it at one input. -/
def fnExactAtomsForWrong : ChangeSpec := { name := "fnExactAtomsFor", fn := fun _ => fun
  | [d1, d2, d3] => { results := [.lit (.bool false)], args := [d1, d2, d3] }
  | _ => none }
def FnExactAtomsForWrongFalsely : Prop := fnExactAtomsForRow.holds Try.pinned (OpenSpec.ofChange fnExactAtomsForWrong)

/-- 'laws.FnExactEqualLazy': WHATEVER THE INPUT: true; the input reads as it did. -/
def fnExactEqualLazySpec : ChangeSpec := { name := "fnExactEqualLazy", fn := fun _ => fun
  | [d1, d2] => { results := [.lit (.bool true)], args := [d1, d2] }
  | _ => none }
def fnExactEqualLazyRow : OpenClaim := { program := "ytjffopklnampaaa", sum := "f3af2f9619d9ce1327d0961c2b4d58ee2063cc8537addcbdbe3637f7bd1ea901", func := "loop.example/g01989/laws.FnExactEqualLazy", spec := "fnExactEqualLazy", unfollowed := true, recurses := true, apart := false }
def FnExactEqualLazySaid : Prop := fnExactEqualLazyRow.holds Try.pinned (OpenSpec.ofChange fnExactEqualLazySpec)

/-- ITS FALSE NEIGHBOUR: 'it returns false'. Refute it at one input. -/
def fnExactEqualLazyWrong : ChangeSpec := { name := "fnExactEqualLazy", fn := fun _ => fun
  | [d1, d2] => { results := [.lit (.bool false)], args := [d1, d2] }
  | _ => none }
def FnExactEqualLazyWrongFalsely : Prop := fnExactEqualLazyRow.holds Try.pinned (OpenSpec.ofChange fnExactEqualLazyWrong)

/-- 'laws.FnExactEqualCaches': WHATEVER THE INPUT: true; the input reads as it did. -/
def fnExactEqualCachesSpec : ChangeSpec := { name := "fnExactEqualCaches", fn := fun _ => fun
  | [d1, d2] => { results := [.lit (.bool true)], args := [d1, d2] }
  | _ => none }
def fnExactEqualCachesRow : OpenClaim := { program := "ytjffopklnampaaa", sum := "f3af2f9619d9ce1327d0961c2b4d58ee2063cc8537addcbdbe3637f7bd1ea901", func := "loop.example/g01989/laws.FnExactEqualCaches", spec := "fnExactEqualCaches", unfollowed := true, recurses := true, apart := false }
def FnExactEqualCachesSaid : Prop := fnExactEqualCachesRow.holds Try.pinned (OpenSpec.ofChange fnExactEqualCachesSpec)

/-- ITS FALSE NEIGHBOUR: 'it returns false'. Refute it at one input. -/
def fnExactEqualCachesWrong : ChangeSpec := { name := "fnExactEqualCaches", fn := fun _ => fun
  | [d1, d2] => { results := [.lit (.bool false)], args := [d1, d2] }
  | _ => none }
def FnExactEqualCachesWrongFalsely : Prop := fnExactEqualCachesRow.holds Try.pinned (OpenSpec.ofChange fnExactEqualCachesWrong)

/-- 'laws.FnExactDropOld': WHATEVER THE INPUT: true; the input reads as it did. -/
def fnExactDropOldSpec : ChangeSpec := { name := "fnExactDropOld", fn := fun _ => fun
  | [d1, d2] => { results := [.lit (.bool true)], args := [d1, d2] }
  | _ => none }
def fnExactDropOldRow : OpenClaim := { program := "ytjffopklnampaaa", sum := "f3af2f9619d9ce1327d0961c2b4d58ee2063cc8537addcbdbe3637f7bd1ea901", func := "loop.example/g01989/laws.FnExactDropOld", spec := "fnExactDropOld", unfollowed := true, recurses := true, apart := false }
def FnExactDropOldSaid : Prop := fnExactDropOldRow.holds Try.pinned (OpenSpec.ofChange fnExactDropOldSpec)

/-- ITS FALSE NEIGHBOUR: 'it returns false'. Refute it at one input. -/
def fnExactDropOldWrong : ChangeSpec := { name := "fnExactDropOld", fn := fun _ => fun
  | [d1, d2] => { results := [.lit (.bool false)], args := [d1, d2] }
  | _ => none }
def FnExactDropOldWrongFalsely : Prop := fnExactDropOldRow.holds Try.pinned (OpenSpec.ofChange fnExactDropOldWrong)

/-- 'laws.FnExactLookCache': WHATEVER THE INPUT: true; the input reads as it did. -/
def fnExactLookCacheSpec : ChangeSpec := { name := "fnExactLookCache", fn := fun _ => fun
  | [d1, d2, d3] => { results := [.lit (.bool true)], args := [d1, d2, d3] }
  | _ => none }
def fnExactLookCacheRow : OpenClaim := { program := "ytjffopklnampaaa", sum := "f3af2f9619d9ce1327d0961c2b4d58ee2063cc8537addcbdbe3637f7bd1ea901", func := "loop.example/g01989/laws.FnExactLookCache", spec := "fnExactLookCache", unfollowed := true, recurses := true, apart := false }
def FnExactLookCacheSaid : Prop := fnExactLookCacheRow.holds Try.pinned (OpenSpec.ofChange fnExactLookCacheSpec)

/-- ITS FALSE NEIGHBOUR: 'it returns false'. Refute it at one input. -/
def fnExactLookCacheWrong : ChangeSpec := { name := "fnExactLookCache", fn := fun _ => fun
  | [d1, d2, d3] => { results := [.lit (.bool false)], args := [d1, d2, d3] }
  | _ => none }
def FnExactLookCacheWrongFalsely : Prop := fnExactLookCacheRow.holds Try.pinned (OpenSpec.ofChange fnExactLookCacheWrong)

/-- 'laws.FnExactNewAnswers': WHATEVER THE INPUT: true; the input reads as it did. -/
def fnExactNewAnswersSpec : ChangeSpec := { name := "fnExactNewAnswers", fn := fun _ => fun
  | [d1, d2] => { results := [.lit (.bool true)], args := [d1, d2] }
  | _ => none }
def fnExactNewAnswersRow : OpenClaim := { program := "ytjffopklnampaaa", sum := "f3af2f9619d9ce1327d0961c2b4d58ee2063cc8537addcbdbe3637f7bd1ea901", func := "loop.example/g01989/laws.FnExactNewAnswers", spec := "fnExactNewAnswers", inPlace := ["slices.overlaps[[]int]"], unfollowed := true, recurses := true, apart := false }
def FnExactNewAnswersSaid : Prop := fnExactNewAnswersRow.holds Try.pinned (OpenSpec.ofChange fnExactNewAnswersSpec)

/-- ITS FALSE NEIGHBOUR: 'it returns false'. Refute it at one input. -/
def fnExactNewAnswersWrong : ChangeSpec := { name := "fnExactNewAnswers", fn := fun _ => fun
  | [d1, d2] => { results := [.lit (.bool false)], args := [d1, d2] }
  | _ => none }
def FnExactNewAnswersWrongFalsely : Prop := fnExactNewAnswersRow.holds Try.pinned (OpenSpec.ofChange fnExactNewAnswersWrong)

/-- 'laws.FnExactDomainOf': WHATEVER THE INPUT: true; the input reads as it did. -/
def fnExactDomainOfSpec : ChangeSpec := { name := "fnExactDomainOf", fn := fun _ => fun
  | [d1, d2, d3] => { results := [.lit (.bool true)], args := [d1, d2, d3] }
  | _ => none }
def fnExactDomainOfRow : OpenClaim := { program := "ytjffopklnampaaa", sum := "f3af2f9619d9ce1327d0961c2b4d58ee2063cc8537addcbdbe3637f7bd1ea901", func := "loop.example/g01989/laws.FnExactDomainOf", spec := "fnExactDomainOf", unfollowed := true, recurses := true, apart := false }
def FnExactDomainOfSaid : Prop := fnExactDomainOfRow.holds Try.pinned (OpenSpec.ofChange fnExactDomainOfSpec)

/-- ITS FALSE NEIGHBOUR: 'it returns false'. Refute it at one input. -/
def fnExactDomainOfWrong : ChangeSpec := { name := "fnExactDomainOf", fn := fun _ => fun
  | [d1, d2, d3] => { results := [.lit (.bool false)], args := [d1, d2, d3] }
  | _ => none }
def FnExactDomainOfWrongFalsely : Prop := fnExactDomainOfRow.holds Try.pinned (OpenSpec.ofChange fnExactDomainOfWrong)

/-- 'laws.FnExactPutCache': WHATEVER THE INPUT: true; the input reads as it did. -/
def fnExactPutCacheSpec : ChangeSpec := { name := "fnExactPutCache", fn := fun _ => fun
  | [d1, d2, d3, d4] => { results := [.lit (.bool true)], args := [d1, d2, d3, d4] }
  | _ => none }
def fnExactPutCacheRow : OpenClaim := { program := "ytjffopklnampaaa", sum := "f3af2f9619d9ce1327d0961c2b4d58ee2063cc8537addcbdbe3637f7bd1ea901", func := "loop.example/g01989/laws.FnExactPutCache", spec := "fnExactPutCache", inPlace := ["slices.overlaps[loop.example/g01989/impl.Stored]"], unfollowed := true, recurses := true, apart := false }
def FnExactPutCacheSaid : Prop := fnExactPutCacheRow.holds Try.pinned (OpenSpec.ofChange fnExactPutCacheSpec)

/-- ITS FALSE NEIGHBOUR: 'it returns false'. Refute it at one input. -/
def fnExactPutCacheWrong : ChangeSpec := { name := "fnExactPutCache", fn := fun _ => fun
  | [d1, d2, d3, d4] => { results := [.lit (.bool false)], args := [d1, d2, d3, d4] }
  | _ => none }
def FnExactPutCacheWrongFalsely : Prop := fnExactPutCacheRow.holds Try.pinned (OpenSpec.ofChange fnExactPutCacheWrong)

/- THE SECOND FORM. 'bulk': how many values and letters a reading holds, each counted each time it is reached (what is shared counts as often as it is met; a slice's spare places count too). A statement '..UptoSaid' is the law's where the arguments, and the package variables that the reading takes, are together of bulk at most 1048576: NARROWER than '..Said'. Prove '..Said' where nothing that the law and all that it calls make is longer than what came in: it says more and counts as full. Else prove '..UptoSaid'. A law counts once. -/
mutual
def uptoBulk {H : Type} : DataW H → Nat
  | .lit (.string bytes) => bytes.length + 1
  | .lit _ => 1
  | .nil => 1
  | .ptr d => uptoBulk d + 1
  | .slice elems spare => uptoBulkAll elems + uptoBulkAll spare + 1
  | .agg parts => uptoBulkAll parts + 1
  | .iface _ d => uptoBulk d + 1
  | .map entries => uptoBulkEntries entries + 1
  | .held _ => 1
def uptoBulkAll {H : Type} : List (DataW H) → Nat
  | [] => 0
  | d :: r => uptoBulk d + uptoBulkAll r
def uptoBulkEntries {H : Type} : List (Lit × DataW H) → Nat
  | [] => 0
  | x :: r => uptoBulkEntry x + uptoBulkEntries r
def uptoBulkEntry {H : Type} : Lit × DataW H → Nat
  | (.string bytes, d) => bytes.length + uptoBulk d + 1
  | (_, d) => uptoBulk d + 1
 end
def uptoSmall : (H : Type) → List (DataW H) → Bool := fun _ ds => decide (uptoBulkAll ds ≤ 1048576)
def OpenSpec.upto (s : _root_.Go.ChangeSpec) : _root_.Go.OpenSpec := { _root_.Go.OpenSpec.ofChange s with cond := some uptoSmall }

/-- 'laws.FnExactFindStored', WHERE WHAT IT READS IS OF BULK AT MOST 1048576: true; the input reads as it did. -/
def fnExactFindStoredUptoRow : OpenClaim := { program := "ytjffopklnampaaa", sum := "f3af2f9619d9ce1327d0961c2b4d58ee2063cc8537addcbdbe3637f7bd1ea901", func := "loop.example/g01989/laws.FnExactFindStored", spec := "fnExactFindStored", unfollowed := true, recurses := true, apart := false, narrowed := true }
def FnExactFindStoredUptoSaid : Prop := fnExactFindStoredUptoRow.holds Try.pinned (OpenSpec.upto fnExactFindStoredSpec)

/-- 'laws.FnExactIsHopeless', WHERE WHAT IT READS IS OF BULK AT MOST 1048576: true; the input reads as it did. -/
def fnExactIsHopelessUptoRow : OpenClaim := { program := "ytjffopklnampaaa", sum := "f3af2f9619d9ce1327d0961c2b4d58ee2063cc8537addcbdbe3637f7bd1ea901", func := "loop.example/g01989/laws.FnExactIsHopeless", spec := "fnExactIsHopeless", apart := false, narrowed := true }
def FnExactIsHopelessUptoSaid : Prop := fnExactIsHopelessUptoRow.holds Try.pinned (OpenSpec.upto fnExactIsHopelessSpec)

/-- 'laws.FnExactIsExistential', WHERE WHAT IT READS IS OF BULK AT MOST 1048576: true; the input reads as it did. -/
def fnExactIsExistentialUptoRow : OpenClaim := { program := "ytjffopklnampaaa", sum := "f3af2f9619d9ce1327d0961c2b4d58ee2063cc8537addcbdbe3637f7bd1ea901", func := "loop.example/g01989/laws.FnExactIsExistential", spec := "fnExactIsExistential", apart := false, narrowed := true }
def FnExactIsExistentialUptoSaid : Prop := fnExactIsExistentialUptoRow.holds Try.pinned (OpenSpec.upto fnExactIsExistentialSpec)

/-- 'laws.FnExactFilterFacts', WHERE WHAT IT READS IS OF BULK AT MOST 1048576: true; the input reads as it did. -/
def fnExactFilterFactsUptoRow : OpenClaim := { program := "ytjffopklnampaaa", sum := "f3af2f9619d9ce1327d0961c2b4d58ee2063cc8537addcbdbe3637f7bd1ea901", func := "loop.example/g01989/laws.FnExactFilterFacts", spec := "fnExactFilterFacts", apart := false, narrowed := true }
def FnExactFilterFactsUptoSaid : Prop := fnExactFilterFactsUptoRow.holds Try.pinned (OpenSpec.upto fnExactFilterFactsSpec)

/-- 'laws.FnExactAtomsFor', WHERE WHAT IT READS IS OF BULK AT MOST 1048576: true; the input reads as it did. -/
def fnExactAtomsForUptoRow : OpenClaim := { program := "ytjffopklnampaaa", sum := "f3af2f9619d9ce1327d0961c2b4d58ee2063cc8537addcbdbe3637f7bd1ea901", func := "loop.example/g01989/laws.FnExactAtomsFor", spec := "fnExactAtomsFor", apart := false, narrowed := true }
def FnExactAtomsForUptoSaid : Prop := fnExactAtomsForUptoRow.holds Try.pinned (OpenSpec.upto fnExactAtomsForSpec)

/-- 'laws.FnExactEqualLazy', WHERE WHAT IT READS IS OF BULK AT MOST 1048576: true; the input reads as it did. -/
def fnExactEqualLazyUptoRow : OpenClaim := { program := "ytjffopklnampaaa", sum := "f3af2f9619d9ce1327d0961c2b4d58ee2063cc8537addcbdbe3637f7bd1ea901", func := "loop.example/g01989/laws.FnExactEqualLazy", spec := "fnExactEqualLazy", unfollowed := true, recurses := true, apart := false, narrowed := true }
def FnExactEqualLazyUptoSaid : Prop := fnExactEqualLazyUptoRow.holds Try.pinned (OpenSpec.upto fnExactEqualLazySpec)

/-- 'laws.FnExactEqualCaches', WHERE WHAT IT READS IS OF BULK AT MOST 1048576: true; the input reads as it did. -/
def fnExactEqualCachesUptoRow : OpenClaim := { program := "ytjffopklnampaaa", sum := "f3af2f9619d9ce1327d0961c2b4d58ee2063cc8537addcbdbe3637f7bd1ea901", func := "loop.example/g01989/laws.FnExactEqualCaches", spec := "fnExactEqualCaches", unfollowed := true, recurses := true, apart := false, narrowed := true }
def FnExactEqualCachesUptoSaid : Prop := fnExactEqualCachesUptoRow.holds Try.pinned (OpenSpec.upto fnExactEqualCachesSpec)

/-- 'laws.FnExactDropOld', WHERE WHAT IT READS IS OF BULK AT MOST 1048576: true; the input reads as it did. -/
def fnExactDropOldUptoRow : OpenClaim := { program := "ytjffopklnampaaa", sum := "f3af2f9619d9ce1327d0961c2b4d58ee2063cc8537addcbdbe3637f7bd1ea901", func := "loop.example/g01989/laws.FnExactDropOld", spec := "fnExactDropOld", unfollowed := true, recurses := true, apart := false, narrowed := true }
def FnExactDropOldUptoSaid : Prop := fnExactDropOldUptoRow.holds Try.pinned (OpenSpec.upto fnExactDropOldSpec)

/-- 'laws.FnExactLookCache', WHERE WHAT IT READS IS OF BULK AT MOST 1048576: true; the input reads as it did. -/
def fnExactLookCacheUptoRow : OpenClaim := { program := "ytjffopklnampaaa", sum := "f3af2f9619d9ce1327d0961c2b4d58ee2063cc8537addcbdbe3637f7bd1ea901", func := "loop.example/g01989/laws.FnExactLookCache", spec := "fnExactLookCache", unfollowed := true, recurses := true, apart := false, narrowed := true }
def FnExactLookCacheUptoSaid : Prop := fnExactLookCacheUptoRow.holds Try.pinned (OpenSpec.upto fnExactLookCacheSpec)

/-- 'laws.FnExactNewAnswers', WHERE WHAT IT READS IS OF BULK AT MOST 1048576: true; the input reads as it did. -/
def fnExactNewAnswersUptoRow : OpenClaim := { program := "ytjffopklnampaaa", sum := "f3af2f9619d9ce1327d0961c2b4d58ee2063cc8537addcbdbe3637f7bd1ea901", func := "loop.example/g01989/laws.FnExactNewAnswers", spec := "fnExactNewAnswers", inPlace := ["slices.overlaps[[]int]"], unfollowed := true, recurses := true, apart := false, narrowed := true }
def FnExactNewAnswersUptoSaid : Prop := fnExactNewAnswersUptoRow.holds Try.pinned (OpenSpec.upto fnExactNewAnswersSpec)

/-- 'laws.FnExactDomainOf', WHERE WHAT IT READS IS OF BULK AT MOST 1048576: true; the input reads as it did. -/
def fnExactDomainOfUptoRow : OpenClaim := { program := "ytjffopklnampaaa", sum := "f3af2f9619d9ce1327d0961c2b4d58ee2063cc8537addcbdbe3637f7bd1ea901", func := "loop.example/g01989/laws.FnExactDomainOf", spec := "fnExactDomainOf", unfollowed := true, recurses := true, apart := false, narrowed := true }
def FnExactDomainOfUptoSaid : Prop := fnExactDomainOfUptoRow.holds Try.pinned (OpenSpec.upto fnExactDomainOfSpec)

/-- 'laws.FnExactPutCache', WHERE WHAT IT READS IS OF BULK AT MOST 1048576: true; the input reads as it did. -/
def fnExactPutCacheUptoRow : OpenClaim := { program := "ytjffopklnampaaa", sum := "f3af2f9619d9ce1327d0961c2b4d58ee2063cc8537addcbdbe3637f7bd1ea901", func := "loop.example/g01989/laws.FnExactPutCache", spec := "fnExactPutCache", inPlace := ["slices.overlaps[loop.example/g01989/impl.Stored]"], unfollowed := true, recurses := true, apart := false, narrowed := true }
def FnExactPutCacheUptoSaid : Prop := fnExactPutCacheUptoRow.holds Try.pinned (OpenSpec.upto fnExactPutCacheSpec)

end Rows
end Go.Proofs.Ytjffopklnampaaa
