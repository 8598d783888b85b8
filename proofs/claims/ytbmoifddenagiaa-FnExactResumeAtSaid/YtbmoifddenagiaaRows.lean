/-
  No cell of these rows narrows 'for every input' (looked for: loops, veiled, ifaces, maps, wideKeys, modest, calm, conditions, laid).
  DERIVED. THE GIVEN ROWS OF THIS SEAT. 9 by the template 'for every input the law returns true; each argument reads behind the call as it read before'; 0 by the template 'total and deterministic' (their statements: YtbmoifddenagiaaTotals.lean).
  GIVEN WITH THE SEED: the statements are not yours to turn. If you find one false, say at which input.
  Laid BY PROGRAM, IN A SANDBOX (cutbox-rows.mjs): the forced cells as the released guide's own fill.sh prints them over the translation 23ffaa16c57c6bc2… (all of the seat's roots in one cut). By AI agents, Wed Nov 11 2026. No macro, syntax, notation, axiom, sorry.
-/
import Derived.Test.YtbmoifddenagiaaChecked
import GoSem.Claim
import GoSem.ClaimJoined
import GoSem.ClaimMapViews
import Derived.JoinedTies
import Derived.KernelRfl
namespace Go.Proofs.Ytbmoifddenagiaa
/- THE CELL 'sum', in the pinned program and in every row, IS THE sha256 OF THE DUMP (.gsa) THAT YtbmoifddenagiaaProg.lean LOADS. Nothing in Lean hashes anything: it is a label: what it is worth is what the hold of that sum in a sandbox is worth. -/
noncomputable def Try.pinned : Pinned := { name := "ytbmoifddenagiaa", sum := "23ffaa16c57c6bc2ff8e73c8bdccfb5d8c5c72ae487ef42226a70215ee8a45d0", checked := Try.checked }
namespace Rows
def none {H : Type} : Left H := { results := [], args := [] }

/-- 'laws.FnExactTakeSave': WHATEVER THE INPUT: true; the input reads as it did. -/
def fnExactTakeSaveSpec : ChangeSpec := { name := "fnExactTakeSave", fn := fun _ => fun
  | [d] => { results := [.lit (.bool true)], args := [d] }
  | _ => none }
def fnExactTakeSaveRow : OpenClaim := { program := "ytbmoifddenagiaa", sum := "23ffaa16c57c6bc2ff8e73c8bdccfb5d8c5c72ae487ef42226a70215ee8a45d0", func := "loop.example/g00728/laws.FnExactTakeSave", spec := "fnExactTakeSave", unfollowed := true, recurses := true, apart := false }
def FnExactTakeSaveSaid : Prop := fnExactTakeSaveRow.holds Try.pinned (OpenSpec.ofChange fnExactTakeSaveSpec)

/-- ITS FALSE NEIGHBOUR: 'it returns false'. Refute it at one input. -/
def fnExactTakeSaveWrong : ChangeSpec := { name := "fnExactTakeSave", fn := fun _ => fun
  | [d] => { results := [.lit (.bool false)], args := [d] }
  | _ => none }
def FnExactTakeSaveWrongFalsely : Prop := fnExactTakeSaveRow.holds Try.pinned (OpenSpec.ofChange fnExactTakeSaveWrong)

/-- 'laws.FnExactResumeAt': WHATEVER THE INPUT: true; the input reads as it did. -/
def fnExactResumeAtSpec : ChangeSpec := { name := "fnExactResumeAt", fn := fun _ => fun
  | [d1, d2] => { results := [.lit (.bool true)], args := [d1, d2] }
  | _ => none }
def fnExactResumeAtRow : OpenClaim := { program := "ytbmoifddenagiaa", sum := "23ffaa16c57c6bc2ff8e73c8bdccfb5d8c5c72ae487ef42226a70215ee8a45d0", func := "loop.example/g00728/laws.FnExactResumeAt", spec := "fnExactResumeAt", unfollowed := true, recurses := true, apart := false }
def FnExactResumeAtSaid : Prop := fnExactResumeAtRow.holds Try.pinned (OpenSpec.ofChange fnExactResumeAtSpec)

/-- ITS FALSE NEIGHBOUR: 'it returns false'. Refute it at one input. -/
def fnExactResumeAtWrong : ChangeSpec := { name := "fnExactResumeAt", fn := fun _ => fun
  | [d1, d2] => { results := [.lit (.bool false)], args := [d1, d2] }
  | _ => none }
def FnExactResumeAtWrongFalsely : Prop := fnExactResumeAtRow.holds Try.pinned (OpenSpec.ofChange fnExactResumeAtWrong)

/-- 'laws.FnExactPutSaves': WHATEVER THE INPUT: true; the input reads as it did. -/
def fnExactPutSavesSpec : ChangeSpec := { name := "fnExactPutSaves", fn := fun _ => fun
  | [d] => { results := [.lit (.bool true)], args := [d] }
  | _ => none }
def fnExactPutSavesRow : OpenClaim := { program := "ytbmoifddenagiaa", sum := "23ffaa16c57c6bc2ff8e73c8bdccfb5d8c5c72ae487ef42226a70215ee8a45d0", func := "loop.example/g00728/laws.FnExactPutSaves", spec := "fnExactPutSaves", unfollowed := true, recurses := true, apart := false }
def FnExactPutSavesSaid : Prop := fnExactPutSavesRow.holds Try.pinned (OpenSpec.ofChange fnExactPutSavesSpec)

/-- ITS FALSE NEIGHBOUR: 'it returns false'. Refute it at one input. -/
def fnExactPutSavesWrong : ChangeSpec := { name := "fnExactPutSaves", fn := fun _ => fun
  | [d] => { results := [.lit (.bool false)], args := [d] }
  | _ => none }
def FnExactPutSavesWrongFalsely : Prop := fnExactPutSavesRow.holds Try.pinned (OpenSpec.ofChange fnExactPutSavesWrong)

/-- 'laws.FnExactTakeSaves': WHATEVER THE INPUT: true; the input reads as it did. -/
def fnExactTakeSavesSpec : ChangeSpec := { name := "fnExactTakeSaves", fn := fun _ => fun
  | [d] => { results := [.lit (.bool true)], args := [d] }
  | _ => none }
def fnExactTakeSavesRow : OpenClaim := { program := "ytbmoifddenagiaa", sum := "23ffaa16c57c6bc2ff8e73c8bdccfb5d8c5c72ae487ef42226a70215ee8a45d0", func := "loop.example/g00728/laws.FnExactTakeSaves", spec := "fnExactTakeSaves", unfollowed := true, recurses := true, apart := false }
def FnExactTakeSavesSaid : Prop := fnExactTakeSavesRow.holds Try.pinned (OpenSpec.ofChange fnExactTakeSavesSpec)

/-- ITS FALSE NEIGHBOUR: 'it returns false'. Refute it at one input. -/
def fnExactTakeSavesWrong : ChangeSpec := { name := "fnExactTakeSaves", fn := fun _ => fun
  | [d] => { results := [.lit (.bool false)], args := [d] }
  | _ => none }
def FnExactTakeSavesWrongFalsely : Prop := fnExactTakeSavesRow.holds Try.pinned (OpenSpec.ofChange fnExactTakeSavesWrong)

/-- 'laws.FnSaves': WHATEVER THE INPUT: true; the input reads as it did. -/
def fnSavesSpec : ChangeSpec := { name := "fnSaves", fn := fun _ => fun
  | [d] => { results := [.lit (.bool true)], args := [d] }
  | _ => none }
def fnSavesRow : OpenClaim := { program := "ytbmoifddenagiaa", sum := "23ffaa16c57c6bc2ff8e73c8bdccfb5d8c5c72ae487ef42226a70215ee8a45d0", func := "loop.example/g00728/laws.FnSaves", spec := "fnSaves", unfollowed := true, recurses := true, apart := false }
def FnSavesSaid : Prop := fnSavesRow.holds Try.pinned (OpenSpec.ofChange fnSavesSpec)

/-- ITS FALSE NEIGHBOUR: 'it returns false'. Refute it at one input. -/
def fnSavesWrong : ChangeSpec := { name := "fnSaves", fn := fun _ => fun
  | [d] => { results := [.lit (.bool false)], args := [d] }
  | _ => none }
def FnSavesWrongFalsely : Prop := fnSavesRow.holds Try.pinned (OpenSpec.ofChange fnSavesWrong)

/-- 'laws.FnCrash': WHATEVER THE INPUT: true; the input reads as it did. -/
def fnCrashSpec : ChangeSpec := { name := "fnCrash", fn := fun _ => fun
  | [d] => { results := [.lit (.bool true)], args := [d] }
  | _ => none }
def fnCrashRow : OpenClaim := { program := "ytbmoifddenagiaa", sum := "23ffaa16c57c6bc2ff8e73c8bdccfb5d8c5c72ae487ef42226a70215ee8a45d0", func := "loop.example/g00728/laws.FnCrash", spec := "fnCrash", inPlace := ["slices.overlaps[loop.example/g00728/impl.Agg]"], unfollowed := true, recurses := true, apart := false }
def FnCrashSaid : Prop := fnCrashRow.holds Try.pinned (OpenSpec.ofChange fnCrashSpec)

/-- ITS FALSE NEIGHBOUR: 'it returns false'. Refute it at one input. -/
def fnCrashWrong : ChangeSpec := { name := "fnCrash", fn := fun _ => fun
  | [d] => { results := [.lit (.bool false)], args := [d] }
  | _ => none }
def FnCrashWrongFalsely : Prop := fnCrashRow.holds Try.pinned (OpenSpec.ofChange fnCrashWrong)

/-- 'laws.FnExactAddAll': WHATEVER THE INPUT: true; the input reads as it did. -/
def fnExactAddAllSpec : ChangeSpec := { name := "fnExactAddAll", fn := fun _ => fun
  | [d1, d2, d3, d4, d5] => { results := [.lit (.bool true)], args := [d1, d2, d3, d4, d5] }
  | _ => none }
def fnExactAddAllRow : OpenClaim := { program := "ytbmoifddenagiaa", sum := "23ffaa16c57c6bc2ff8e73c8bdccfb5d8c5c72ae487ef42226a70215ee8a45d0", func := "loop.example/g00728/laws.FnExactAddAll", spec := "fnExactAddAll", inPlace := ["slices.overlaps[loop.example/g00728/impl.Agg]"], unfollowed := true, recurses := true, apart := false }
def FnExactAddAllSaid : Prop := fnExactAddAllRow.holds Try.pinned (OpenSpec.ofChange fnExactAddAllSpec)

/-- ITS FALSE NEIGHBOUR: 'it returns false'. Refute it at one input. -/
def fnExactAddAllWrong : ChangeSpec := { name := "fnExactAddAll", fn := fun _ => fun
  | [d1, d2, d3, d4, d5] => { results := [.lit (.bool false)], args := [d1, d2, d3, d4, d5] }
  | _ => none }
def FnExactAddAllWrongFalsely : Prop := fnExactAddAllRow.holds Try.pinned (OpenSpec.ofChange fnExactAddAllWrong)

/-- 'laws.FnExactSavesOf': WHATEVER THE INPUT: true; the input reads as it did. -/
def fnExactSavesOfSpec : ChangeSpec := { name := "fnExactSavesOf", fn := fun _ => fun
  | [d1, d2, d3, d4] => { results := [.lit (.bool true)], args := [d1, d2, d3, d4] }
  | _ => none }
def fnExactSavesOfRow : OpenClaim := { program := "ytbmoifddenagiaa", sum := "23ffaa16c57c6bc2ff8e73c8bdccfb5d8c5c72ae487ef42226a70215ee8a45d0", func := "loop.example/g00728/laws.FnExactSavesOf", spec := "fnExactSavesOf", inPlace := ["slices.overlaps[loop.example/g00728/impl.Agg]"], unfollowed := true, recurses := true, apart := false }
def FnExactSavesOfSaid : Prop := fnExactSavesOfRow.holds Try.pinned (OpenSpec.ofChange fnExactSavesOfSpec)

/-- ITS FALSE NEIGHBOUR: 'it returns false'. Refute it at one input. -/
def fnExactSavesOfWrong : ChangeSpec := { name := "fnExactSavesOf", fn := fun _ => fun
  | [d1, d2, d3, d4] => { results := [.lit (.bool false)], args := [d1, d2, d3, d4] }
  | _ => none }
def FnExactSavesOfWrongFalsely : Prop := fnExactSavesOfRow.holds Try.pinned (OpenSpec.ofChange fnExactSavesOfWrong)

/-- 'laws.FnExactCrashAt': WHATEVER THE INPUT: true; the input reads as it did. -/
def fnExactCrashAtSpec : ChangeSpec := { name := "fnExactCrashAt", fn := fun _ => fun
  | [d1, d2, d3, d4, d5] => { results := [.lit (.bool true)], args := [d1, d2, d3, d4, d5] }
  | _ => none }
def fnExactCrashAtRow : OpenClaim := { program := "ytbmoifddenagiaa", sum := "23ffaa16c57c6bc2ff8e73c8bdccfb5d8c5c72ae487ef42226a70215ee8a45d0", func := "loop.example/g00728/laws.FnExactCrashAt", spec := "fnExactCrashAt", inPlace := ["slices.overlaps[loop.example/g00728/impl.Agg]"], unfollowed := true, recurses := true, apart := false }
def FnExactCrashAtSaid : Prop := fnExactCrashAtRow.holds Try.pinned (OpenSpec.ofChange fnExactCrashAtSpec)

/-- ITS FALSE NEIGHBOUR: 'it returns false'. Refute it at one input. -/
def fnExactCrashAtWrong : ChangeSpec := { name := "fnExactCrashAt", fn := fun _ => fun
  | [d1, d2, d3, d4, d5] => { results := [.lit (.bool false)], args := [d1, d2, d3, d4, d5] }
  | _ => none }
def FnExactCrashAtWrongFalsely : Prop := fnExactCrashAtRow.holds Try.pinned (OpenSpec.ofChange fnExactCrashAtWrong)

/- THE SECOND FORM. 'bulk': how many values and letters a reading holds, each counted each time it is reached (what is shared counts as often as it is met; a slice's spare places count too). A statement '..UptoSaid' is the law's where the arguments, and the package variables that the reading takes, are together of bulk at most 1048576: NARROWER than '..Said'. Prove '..Said' where nothing that the law and all that it calls make is longer than what came in: it says more and counts as full. Else prove '..UptoSaid'. A law counts once. -/
mutual
def uptoBulk {H : Type} : DataW H → Nat
  | .lit (.string bytes) => bytes.length + 1
  | .lit _ => 1
  | .nil => 1
  | .ptr d => uptoBulk d + 1
  | .slice elems spare => uptoBulkAll elems + uptoBulkAll spare + 1
  | .agg parts => uptoBulkAll parts + 1
  | .iface _ d => uptoBulk d + 1
  | .map entries => uptoBulkEntries entries + 1
  | .held _ => 1
def uptoBulkAll {H : Type} : List (DataW H) → Nat
  | [] => 0
  | d :: r => uptoBulk d + uptoBulkAll r
def uptoBulkEntries {H : Type} : List (Lit × DataW H) → Nat
  | [] => 0
  | x :: r => uptoBulkEntry x + uptoBulkEntries r
def uptoBulkEntry {H : Type} : Lit × DataW H → Nat
  | (.string bytes, d) => bytes.length + uptoBulk d + 1
  | (_, d) => uptoBulk d + 1
 end
def uptoSmall : (H : Type) → List (DataW H) → Bool := fun _ ds => decide (uptoBulkAll ds ≤ 1048576)
def OpenSpec.upto (s : _root_.Go.ChangeSpec) : _root_.Go.OpenSpec := { _root_.Go.OpenSpec.ofChange s with cond := some uptoSmall }

/-- 'laws.FnExactTakeSave', WHERE WHAT IT READS IS OF BULK AT MOST 1048576: true; the input reads as it did. -/
def fnExactTakeSaveUptoRow : OpenClaim := { program := "ytbmoifddenagiaa", sum := "23ffaa16c57c6bc2ff8e73c8bdccfb5d8c5c72ae487ef42226a70215ee8a45d0", func := "loop.example/g00728/laws.FnExactTakeSave", spec := "fnExactTakeSave", unfollowed := true, recurses := true, apart := false, narrowed := true }
def FnExactTakeSaveUptoSaid : Prop := fnExactTakeSaveUptoRow.holds Try.pinned (OpenSpec.upto fnExactTakeSaveSpec)

/-- 'laws.FnExactResumeAt', WHERE WHAT IT READS IS OF BULK AT MOST 1048576: true; the input reads as it did. -/
def fnExactResumeAtUptoRow : OpenClaim := { program := "ytbmoifddenagiaa", sum := "23ffaa16c57c6bc2ff8e73c8bdccfb5d8c5c72ae487ef42226a70215ee8a45d0", func := "loop.example/g00728/laws.FnExactResumeAt", spec := "fnExactResumeAt", unfollowed := true, recurses := true, apart := false, narrowed := true }
def FnExactResumeAtUptoSaid : Prop := fnExactResumeAtUptoRow.holds Try.pinned (OpenSpec.upto fnExactResumeAtSpec)

/-- 'laws.FnExactPutSaves', WHERE WHAT IT READS IS OF BULK AT MOST 1048576: true; the input reads as it did. -/
def fnExactPutSavesUptoRow : OpenClaim := { program := "ytbmoifddenagiaa", sum := "23ffaa16c57c6bc2ff8e73c8bdccfb5d8c5c72ae487ef42226a70215ee8a45d0", func := "loop.example/g00728/laws.FnExactPutSaves", spec := "fnExactPutSaves", unfollowed := true, recurses := true, apart := false, narrowed := true }
def FnExactPutSavesUptoSaid : Prop := fnExactPutSavesUptoRow.holds Try.pinned (OpenSpec.upto fnExactPutSavesSpec)

/-- 'laws.FnExactTakeSaves', WHERE WHAT IT READS IS OF BULK AT MOST 1048576: true; the input reads as it did. -/
def fnExactTakeSavesUptoRow : OpenClaim := { program := "ytbmoifddenagiaa", sum := "23ffaa16c57c6bc2ff8e73c8bdccfb5d8c5c72ae487ef42226a70215ee8a45d0", func := "loop.example/g00728/laws.FnExactTakeSaves", spec := "fnExactTakeSaves", unfollowed := true, recurses := true, apart := false, narrowed := true }
def FnExactTakeSavesUptoSaid : Prop := fnExactTakeSavesUptoRow.holds Try.pinned (OpenSpec.upto fnExactTakeSavesSpec)

/-- 'laws.FnSaves', WHERE WHAT IT READS IS OF BULK AT MOST 1048576: true; the input reads as it did. -/
def fnSavesUptoRow : OpenClaim := { program := "ytbmoifddenagiaa", sum := "23ffaa16c57c6bc2ff8e73c8bdccfb5d8c5c72ae487ef42226a70215ee8a45d0", func := "loop.example/g00728/laws.FnSaves", spec := "fnSaves", unfollowed := true, recurses := true, apart := false, narrowed := true }
def FnSavesUptoSaid : Prop := fnSavesUptoRow.holds Try.pinned (OpenSpec.upto fnSavesSpec)

/-- 'laws.FnCrash', WHERE WHAT IT READS IS OF BULK AT MOST 1048576: true; the input reads as it did. -/
def fnCrashUptoRow : OpenClaim := { program := "ytbmoifddenagiaa", sum := "23ffaa16c57c6bc2ff8e73c8bdccfb5d8c5c72ae487ef42226a70215ee8a45d0", func := "loop.example/g00728/laws.FnCrash", spec := "fnCrash", inPlace := ["slices.overlaps[loop.example/g00728/impl.Agg]"], unfollowed := true, recurses := true, apart := false, narrowed := true }
def FnCrashUptoSaid : Prop := fnCrashUptoRow.holds Try.pinned (OpenSpec.upto fnCrashSpec)

/-- 'laws.FnExactAddAll', WHERE WHAT IT READS IS OF BULK AT MOST 1048576: true; the input reads as it did. -/
def fnExactAddAllUptoRow : OpenClaim := { program := "ytbmoifddenagiaa", sum := "23ffaa16c57c6bc2ff8e73c8bdccfb5d8c5c72ae487ef42226a70215ee8a45d0", func := "loop.example/g00728/laws.FnExactAddAll", spec := "fnExactAddAll", inPlace := ["slices.overlaps[loop.example/g00728/impl.Agg]"], unfollowed := true, recurses := true, apart := false, narrowed := true }
def FnExactAddAllUptoSaid : Prop := fnExactAddAllUptoRow.holds Try.pinned (OpenSpec.upto fnExactAddAllSpec)

/-- 'laws.FnExactSavesOf', WHERE WHAT IT READS IS OF BULK AT MOST 1048576: true; the input reads as it did. -/
def fnExactSavesOfUptoRow : OpenClaim := { program := "ytbmoifddenagiaa", sum := "23ffaa16c57c6bc2ff8e73c8bdccfb5d8c5c72ae487ef42226a70215ee8a45d0", func := "loop.example/g00728/laws.FnExactSavesOf", spec := "fnExactSavesOf", inPlace := ["slices.overlaps[loop.example/g00728/impl.Agg]"], unfollowed := true, recurses := true, apart := false, narrowed := true }
def FnExactSavesOfUptoSaid : Prop := fnExactSavesOfUptoRow.holds Try.pinned (OpenSpec.upto fnExactSavesOfSpec)

/-- 'laws.FnExactCrashAt', WHERE WHAT IT READS IS OF BULK AT MOST 1048576: true; the input reads as it did. -/
def fnExactCrashAtUptoRow : OpenClaim := { program := "ytbmoifddenagiaa", sum := "23ffaa16c57c6bc2ff8e73c8bdccfb5d8c5c72ae487ef42226a70215ee8a45d0", func := "loop.example/g00728/laws.FnExactCrashAt", spec := "fnExactCrashAt", inPlace := ["slices.overlaps[loop.example/g00728/impl.Agg]"], unfollowed := true, recurses := true, apart := false, narrowed := true }
def FnExactCrashAtUptoSaid : Prop := fnExactCrashAtUptoRow.holds Try.pinned (OpenSpec.upto fnExactCrashAtSpec)

end Rows
end Go.Proofs.Ytbmoifddenagiaa
