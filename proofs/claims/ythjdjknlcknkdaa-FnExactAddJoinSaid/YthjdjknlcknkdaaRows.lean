/-
  No cell of these rows narrows 'for every input' (looked for: loops, veiled, ifaces, maps, wideKeys, modest, calm, conditions, laid).
  DERIVED. THE GIVEN ROWS OF THIS SEAT. 5 by the template 'for every input the law returns true; each argument reads behind the call as it read before'; 0 by the template 'total and deterministic' (their statements: YthjdjknlcknkdaaTotals.lean).
  GIVEN WITH THE SEED: the statements are not yours to turn. If you find one false, say at which input.
  Laid BY PROGRAM, IN A SANDBOX (cutbox-rows.mjs): the forced cells as the released guide's own fill.sh prints them over the translation c5d86cc12928cf1e… (all of the seat's roots in one cut). By AI agents, Wed Nov 11 2026. No macro, syntax, notation, axiom, sorry.
-/
import Derived.Test.YthjdjknlcknkdaaChecked
import GoSem.Claim
import GoSem.ClaimJoined
import GoSem.ClaimMapViews
import Derived.JoinedTies
import Derived.KernelRfl
namespace Go.Proofs.Ythjdjknlcknkdaa
/- THE CELL 'sum', in the pinned program and in every row, IS THE sha256 OF THE DUMP (.gsa) THAT YthjdjknlcknkdaaProg.lean LOADS. Nothing in Lean hashes anything: it is a label: what it is worth is what the hold of that sum in a sandbox is worth. -/
noncomputable def Try.pinned : Pinned := { name := "ythjdjknlcknkdaa", sum := "c5d86cc12928cf1ed7ab8a792dddf846ddde95d51fdbb3f4b8b13b9415adaf7a", checked := Try.checked }
namespace Rows
def none {H : Type} : Left H := { results := [], args := [] }

/-- 'laws.FnExactAddJoin': WHATEVER THE INPUT: true; the input reads as it did. -/
def fnExactAddJoinSpec : ChangeSpec := { name := "fnExactAddJoin", fn := fun _ => fun
  | [d1, d2, d3, d4] => { results := [.lit (.bool true)], args := [d1, d2, d3, d4] }
  | _ => none }
def fnExactAddJoinRow : OpenClaim := { program := "ythjdjknlcknkdaa", sum := "c5d86cc12928cf1ed7ab8a792dddf846ddde95d51fdbb3f4b8b13b9415adaf7a", func := "loop.example/g00728/laws.FnExactAddJoin", spec := "fnExactAddJoin", unfollowed := true, recurses := true, apart := false }
def FnExactAddJoinSaid : Prop := fnExactAddJoinRow.holds Try.pinned (OpenSpec.ofChange fnExactAddJoinSpec)

/-- ITS FALSE NEIGHBOUR: 'it returns false'. Refute it at one input. -/
def fnExactAddJoinWrong : ChangeSpec := { name := "fnExactAddJoin", fn := fun _ => fun
  | [d1, d2, d3, d4] => { results := [.lit (.bool false)], args := [d1, d2, d3, d4] }
  | _ => none }
def FnExactAddJoinWrongFalsely : Prop := fnExactAddJoinRow.holds Try.pinned (OpenSpec.ofChange fnExactAddJoinWrong)

/-- 'laws.FnExactSamePairs': WHATEVER THE INPUT: true; the input reads as it did. -/
def fnExactSamePairsSpec : ChangeSpec := { name := "fnExactSamePairs", fn := fun _ => fun
  | [d1, d2] => { results := [.lit (.bool true)], args := [d1, d2] }
  | _ => none }
def fnExactSamePairsRow : OpenClaim := { program := "ythjdjknlcknkdaa", sum := "c5d86cc12928cf1ed7ab8a792dddf846ddde95d51fdbb3f4b8b13b9415adaf7a", func := "loop.example/g00728/laws.FnExactSamePairs", spec := "fnExactSamePairs", unfollowed := true, recurses := true, apart := false }
def FnExactSamePairsSaid : Prop := fnExactSamePairsRow.holds Try.pinned (OpenSpec.ofChange fnExactSamePairsSpec)

/-- ITS FALSE NEIGHBOUR: 'it returns false'. Refute it at one input. -/
def fnExactSamePairsWrong : ChangeSpec := { name := "fnExactSamePairs", fn := fun _ => fun
  | [d1, d2] => { results := [.lit (.bool false)], args := [d1, d2] }
  | _ => none }
def FnExactSamePairsWrongFalsely : Prop := fnExactSamePairsRow.holds Try.pinned (OpenSpec.ofChange fnExactSamePairsWrong)

/-- 'laws.FnExactPlayJoin': WHATEVER THE INPUT: true; the input reads as it did. -/
def fnExactPlayJoinSpec : ChangeSpec := { name := "fnExactPlayJoin", fn := fun _ => fun
  | [d1, d2, d3] => { results := [.lit (.bool true)], args := [d1, d2, d3] }
  | _ => none }
def fnExactPlayJoinRow : OpenClaim := { program := "ythjdjknlcknkdaa", sum := "c5d86cc12928cf1ed7ab8a792dddf846ddde95d51fdbb3f4b8b13b9415adaf7a", func := "loop.example/g00728/laws.FnExactPlayJoin", spec := "fnExactPlayJoin", unfollowed := true, recurses := true, apart := false }
def FnExactPlayJoinSaid : Prop := fnExactPlayJoinRow.holds Try.pinned (OpenSpec.ofChange fnExactPlayJoinSpec)

/-- ITS FALSE NEIGHBOUR: 'it returns false'. Refute it at one input. -/
def fnExactPlayJoinWrong : ChangeSpec := { name := "fnExactPlayJoin", fn := fun _ => fun
  | [d1, d2, d3] => { results := [.lit (.bool false)], args := [d1, d2, d3] }
  | _ => none }
def FnExactPlayJoinWrongFalsely : Prop := fnExactPlayJoinRow.holds Try.pinned (OpenSpec.ofChange fnExactPlayJoinWrong)

/-- 'laws.FnExactSortPairs': WHATEVER THE INPUT: true; the input reads as it did. -/
def fnExactSortPairsSpec : ChangeSpec := { name := "fnExactSortPairs", fn := fun _ => fun
  | [d] => { results := [.lit (.bool true)], args := [d] }
  | _ => none }
def fnExactSortPairsRow : OpenClaim := { program := "ythjdjknlcknkdaa", sum := "c5d86cc12928cf1ed7ab8a792dddf846ddde95d51fdbb3f4b8b13b9415adaf7a", func := "loop.example/g00728/laws.FnExactSortPairs", spec := "fnExactSortPairs", unfollowed := true, recurses := true, apart := false }
def FnExactSortPairsSaid : Prop := fnExactSortPairsRow.holds Try.pinned (OpenSpec.ofChange fnExactSortPairsSpec)

/-- ITS FALSE NEIGHBOUR: 'it returns false'. Refute it at one input. -/
def fnExactSortPairsWrong : ChangeSpec := { name := "fnExactSortPairs", fn := fun _ => fun
  | [d] => { results := [.lit (.bool false)], args := [d] }
  | _ => none }
def FnExactSortPairsWrongFalsely : Prop := fnExactSortPairsRow.holds Try.pinned (OpenSpec.ofChange fnExactSortPairsWrong)

/-- 'laws.FnJoins': WHATEVER THE INPUT: true; the input reads as it did. -/
def fnJoinsSpec : ChangeSpec := { name := "fnJoins", fn := fun _ => fun
  | [d] => { results := [.lit (.bool true)], args := [d] }
  | _ => none }
def fnJoinsRow : OpenClaim := { program := "ythjdjknlcknkdaa", sum := "c5d86cc12928cf1ed7ab8a792dddf846ddde95d51fdbb3f4b8b13b9415adaf7a", func := "loop.example/g00728/laws.FnJoins", spec := "fnJoins", unfollowed := true, recurses := true, apart := false }
def FnJoinsSaid : Prop := fnJoinsRow.holds Try.pinned (OpenSpec.ofChange fnJoinsSpec)

/-- ITS FALSE NEIGHBOUR: 'it returns false'. Refute it at one input. -/
def fnJoinsWrong : ChangeSpec := { name := "fnJoins", fn := fun _ => fun
  | [d] => { results := [.lit (.bool false)], args := [d] }
  | _ => none }
def FnJoinsWrongFalsely : Prop := fnJoinsRow.holds Try.pinned (OpenSpec.ofChange fnJoinsWrong)

/- THE SECOND FORM. 'bulk': how many values and letters a reading holds, each counted each time it is reached (what is shared counts as often as it is met; a slice's spare places count too). A statement '..UptoSaid' is the law's where the arguments, and the package variables that the reading takes, are together of bulk at most 1048576: NARROWER than '..Said'. Prove '..Said' where nothing that the law and all that it calls make is longer than what came in: it says more and counts as full. Else prove '..UptoSaid'. A law counts once. -/
mutual
def uptoBulk {H : Type} : DataW H → Nat
  | .lit (.string bytes) => bytes.length + 1
  | .lit _ => 1
  | .nil => 1
  | .ptr d => uptoBulk d + 1
  | .slice elems spare => uptoBulkAll elems + uptoBulkAll spare + 1
  | .agg parts => uptoBulkAll parts + 1
  | .iface _ d => uptoBulk d + 1
  | .map entries => uptoBulkEntries entries + 1
  | .held _ => 1
def uptoBulkAll {H : Type} : List (DataW H) → Nat
  | [] => 0
  | d :: r => uptoBulk d + uptoBulkAll r
def uptoBulkEntries {H : Type} : List (Lit × DataW H) → Nat
  | [] => 0
  | x :: r => uptoBulkEntry x + uptoBulkEntries r
def uptoBulkEntry {H : Type} : Lit × DataW H → Nat
  | (.string bytes, d) => bytes.length + uptoBulk d + 1
  | (_, d) => uptoBulk d + 1
 end
def uptoSmall : (H : Type) → List (DataW H) → Bool := fun _ ds => decide (uptoBulkAll ds ≤ 1048576)
def OpenSpec.upto (s : _root_.Go.ChangeSpec) : _root_.Go.OpenSpec := { _root_.Go.OpenSpec.ofChange s with cond := some uptoSmall }

/-- 'laws.FnExactAddJoin', WHERE WHAT IT READS IS OF BULK AT MOST 1048576: true; the input reads as it did. -/
def fnExactAddJoinUptoRow : OpenClaim := { program := "ythjdjknlcknkdaa", sum := "c5d86cc12928cf1ed7ab8a792dddf846ddde95d51fdbb3f4b8b13b9415adaf7a", func := "loop.example/g00728/laws.FnExactAddJoin", spec := "fnExactAddJoin", unfollowed := true, recurses := true, apart := false, narrowed := true }
def FnExactAddJoinUptoSaid : Prop := fnExactAddJoinUptoRow.holds Try.pinned (OpenSpec.upto fnExactAddJoinSpec)

/-- 'laws.FnExactSamePairs', WHERE WHAT IT READS IS OF BULK AT MOST 1048576: true; the input reads as it did. -/
def fnExactSamePairsUptoRow : OpenClaim := { program := "ythjdjknlcknkdaa", sum := "c5d86cc12928cf1ed7ab8a792dddf846ddde95d51fdbb3f4b8b13b9415adaf7a", func := "loop.example/g00728/laws.FnExactSamePairs", spec := "fnExactSamePairs", unfollowed := true, recurses := true, apart := false, narrowed := true }
def FnExactSamePairsUptoSaid : Prop := fnExactSamePairsUptoRow.holds Try.pinned (OpenSpec.upto fnExactSamePairsSpec)

/-- 'laws.FnExactPlayJoin', WHERE WHAT IT READS IS OF BULK AT MOST 1048576: true; the input reads as it did. -/
def fnExactPlayJoinUptoRow : OpenClaim := { program := "ythjdjknlcknkdaa", sum := "c5d86cc12928cf1ed7ab8a792dddf846ddde95d51fdbb3f4b8b13b9415adaf7a", func := "loop.example/g00728/laws.FnExactPlayJoin", spec := "fnExactPlayJoin", unfollowed := true, recurses := true, apart := false, narrowed := true }
def FnExactPlayJoinUptoSaid : Prop := fnExactPlayJoinUptoRow.holds Try.pinned (OpenSpec.upto fnExactPlayJoinSpec)

/-- 'laws.FnExactSortPairs', WHERE WHAT IT READS IS OF BULK AT MOST 1048576: true; the input reads as it did. -/
def fnExactSortPairsUptoRow : OpenClaim := { program := "ythjdjknlcknkdaa", sum := "c5d86cc12928cf1ed7ab8a792dddf846ddde95d51fdbb3f4b8b13b9415adaf7a", func := "loop.example/g00728/laws.FnExactSortPairs", spec := "fnExactSortPairs", unfollowed := true, recurses := true, apart := false, narrowed := true }
def FnExactSortPairsUptoSaid : Prop := fnExactSortPairsUptoRow.holds Try.pinned (OpenSpec.upto fnExactSortPairsSpec)

/-- 'laws.FnJoins', WHERE WHAT IT READS IS OF BULK AT MOST 1048576: true; the input reads as it did. -/
def fnJoinsUptoRow : OpenClaim := { program := "ythjdjknlcknkdaa", sum := "c5d86cc12928cf1ed7ab8a792dddf846ddde95d51fdbb3f4b8b13b9415adaf7a", func := "loop.example/g00728/laws.FnJoins", spec := "fnJoins", unfollowed := true, recurses := true, apart := false, narrowed := true }
def FnJoinsUptoSaid : Prop := fnJoinsUptoRow.holds Try.pinned (OpenSpec.upto fnJoinsSpec)

end Rows
end Go.Proofs.Ythjdjknlcknkdaa
