/-
  No cell of these rows narrows 'for every input' (looked for: loops, veiled, ifaces, maps, wideKeys, modest, calm, conditions, laid).
  DERIVED. THE GIVEN ROWS OF THIS SEAT. 4 by the template 'for every input the law returns true; each argument reads behind the call as it read before'; 0 by the template 'total and deterministic' (their statements: YtpchnmbcbcfhjaaGreatTotals.lean).
  GIVEN WITH THE SEED: the statements are not yours to turn. If you find one false, say at which input.
  Laid BY PROGRAM, IN A SANDBOX (cutbox-rows.mjs): the forced cells as the released guide's own fill.sh prints them over the translation 92af0980e74acd25… (all of the seat's roots in one cut). By AI agents, Wed Nov 11 2026. No macro, syntax, notation, axiom, sorry.
-/
import Derived.Test.YtpchnmbcbcfhjaaGreatChecked
import GoSem.Claim
import GoSem.ClaimJoined
import GoSem.ClaimMapViews
import Derived.JoinedTies
import Derived.KernelRfl
namespace Go.Proofs.YtpchnmbcbcfhjaaGreat
/- THE CELL 'sum', in the pinned program and in every row, IS THE sha256 OF THE DUMP (.gsa) THAT YtpchnmbcbcfhjaaGreatProg.lean LOADS. Nothing in Lean hashes anything: it is a label: what it is worth is what the hold of that sum in a sandbox is worth. -/
noncomputable def Tryz.pinned : Pinned := { name := "ytpchnmbcbcfhjaagreat", sum := "92af0980e74acd25bc24cab1b23a32f7c2ba5b50dc1f3956d4fba64094e7d01e", checked := Tryz.checked }
namespace Rows
def none {H : Type} : Left H := { results := [], args := [] }

/-- 'laws.FnPresumed': WHATEVER THE INPUT: true; the input reads as it did. -/
def fnPresumedSpec : ChangeSpec := { name := "fnPresumed", fn := fun _ => fun
  | [d] => { results := [.lit (.bool true)], args := [d] }
  | _ => none }
def fnPresumedRow : OpenClaim := { program := "ytpchnmbcbcfhjaagreat", sum := "92af0980e74acd25bc24cab1b23a32f7c2ba5b50dc1f3956d4fba64094e7d01e", func := "loop.example/g00244/laws.FnPresumed", spec := "fnPresumed", inPlace := ["slices.overlaps[loop.example/g00244/impl.Pair]"], unfollowed := true, recurses := true, apart := false }
def FnPresumedSaid : Prop := fnPresumedRow.holds Tryz.pinned (OpenSpec.ofChange fnPresumedSpec)

/-- ITS FALSE NEIGHBOUR: 'it returns false'. Refute it at one input. -/
def fnPresumedWrong : ChangeSpec := { name := "fnPresumed", fn := fun _ => fun
  | [d] => { results := [.lit (.bool false)], args := [d] }
  | _ => none }
def FnPresumedWrongFalsely : Prop := fnPresumedRow.holds Tryz.pinned (OpenSpec.ofChange fnPresumedWrong)

/-- 'laws.FnDrained': WHATEVER THE INPUT: true; the input reads as it did. -/
def fnDrainedSpec : ChangeSpec := { name := "fnDrained", fn := fun _ => fun
  | [d] => { results := [.lit (.bool true)], args := [d] }
  | _ => none }
def fnDrainedRow : OpenClaim := { program := "ytpchnmbcbcfhjaagreat", sum := "92af0980e74acd25bc24cab1b23a32f7c2ba5b50dc1f3956d4fba64094e7d01e", func := "loop.example/g00244/laws.FnDrained", spec := "fnDrained", inPlace := ["slices.overlaps[loop.example/g00244/impl.Pair]"], unfollowed := true, recurses := true, apart := false }
def FnDrainedSaid : Prop := fnDrainedRow.holds Tryz.pinned (OpenSpec.ofChange fnDrainedSpec)

/-- ITS FALSE NEIGHBOUR: 'it returns false'. Refute it at one input. -/
def fnDrainedWrong : ChangeSpec := { name := "fnDrained", fn := fun _ => fun
  | [d] => { results := [.lit (.bool false)], args := [d] }
  | _ => none }
def FnDrainedWrongFalsely : Prop := fnDrainedRow.holds Tryz.pinned (OpenSpec.ofChange fnDrainedWrong)

/-- 'laws.FnModels': WHATEVER THE INPUT: true; the input reads as it did. -/
def fnModelsSpec : ChangeSpec := { name := "fnModels", fn := fun _ => fun
  | [d] => { results := [.lit (.bool true)], args := [d] }
  | _ => none }
def fnModelsRow : OpenClaim := { program := "ytpchnmbcbcfhjaagreat", sum := "92af0980e74acd25bc24cab1b23a32f7c2ba5b50dc1f3956d4fba64094e7d01e", func := "loop.example/g00244/laws.FnModels", spec := "fnModels", inPlace := ["slices.overlaps[loop.example/g00244/impl.Pair]"], unfollowed := true, recurses := true, apart := false }
def FnModelsSaid : Prop := fnModelsRow.holds Tryz.pinned (OpenSpec.ofChange fnModelsSpec)

/-- ITS FALSE NEIGHBOUR: 'it returns false'. Refute it at one input. -/
def fnModelsWrong : ChangeSpec := { name := "fnModels", fn := fun _ => fun
  | [d] => { results := [.lit (.bool false)], args := [d] }
  | _ => none }
def FnModelsWrongFalsely : Prop := fnModelsRow.holds Tryz.pinned (OpenSpec.ofChange fnModelsWrong)

/-- 'laws.FnPlayed': WHATEVER THE INPUT: true; the input reads as it did. -/
def fnPlayedSpec : ChangeSpec := { name := "fnPlayed", fn := fun _ => fun
  | [d] => { results := [.lit (.bool true)], args := [d] }
  | _ => none }
def fnPlayedRow : OpenClaim := { program := "ytpchnmbcbcfhjaagreat", sum := "92af0980e74acd25bc24cab1b23a32f7c2ba5b50dc1f3956d4fba64094e7d01e", func := "loop.example/g00244/laws.FnPlayed", spec := "fnPlayed", inPlace := ["slices.overlaps[loop.example/g00244/impl.Pair]"], unfollowed := true, recurses := true, apart := false }
def FnPlayedSaid : Prop := fnPlayedRow.holds Tryz.pinned (OpenSpec.ofChange fnPlayedSpec)

/-- ITS FALSE NEIGHBOUR: 'it returns false'. Refute it at one input. -/
def fnPlayedWrong : ChangeSpec := { name := "fnPlayed", fn := fun _ => fun
  | [d] => { results := [.lit (.bool false)], args := [d] }
  | _ => none }
def FnPlayedWrongFalsely : Prop := fnPlayedRow.holds Tryz.pinned (OpenSpec.ofChange fnPlayedWrong)

/- THE SECOND FORM. 'bulk': how many values and letters a reading holds, each counted each time it is reached (what is shared counts as often as it is met; a slice's spare places count too). A statement '..UptoSaid' is the law's where the arguments, and the package variables that the reading takes, are together of bulk at most 1048576: NARROWER than '..Said'. Prove '..Said' where nothing that the law and all that it calls make is longer than what came in: it says more and counts as full. Else prove '..UptoSaid'. A law counts once. -/
mutual
def uptoBulk {H : Type} : DataW H → Nat
  | .lit (.string bytes) => bytes.length + 1
  | .lit _ => 1
  | .nil => 1
  | .ptr d => uptoBulk d + 1
  | .slice elems spare => uptoBulkAll elems + uptoBulkAll spare + 1
  | .agg parts => uptoBulkAll parts + 1
  | .iface _ d => uptoBulk d + 1
  | .map entries => uptoBulkEntries entries + 1
  | .held _ => 1
def uptoBulkAll {H : Type} : List (DataW H) → Nat
  | [] => 0
  | d :: r => uptoBulk d + uptoBulkAll r
def uptoBulkEntries {H : Type} : List (Lit × DataW H) → Nat
  | [] => 0
  | x :: r => uptoBulkEntry x + uptoBulkEntries r
def uptoBulkEntry {H : Type} : Lit × DataW H → Nat
  | (.string bytes, d) => bytes.length + uptoBulk d + 1
  | (_, d) => uptoBulk d + 1
 end
def uptoSmall : (H : Type) → List (DataW H) → Bool := fun _ ds => decide (uptoBulkAll ds ≤ 1048576)
def OpenSpec.upto (s : _root_.Go.ChangeSpec) : _root_.Go.OpenSpec := { _root_.Go.OpenSpec.ofChange s with cond := some uptoSmall }

/-- 'laws.FnPresumed', WHERE WHAT IT READS IS OF BULK AT MOST 1048576: true; the input reads as it did. -/
def fnPresumedUptoRow : OpenClaim := { program := "ytpchnmbcbcfhjaagreat", sum := "92af0980e74acd25bc24cab1b23a32f7c2ba5b50dc1f3956d4fba64094e7d01e", func := "loop.example/g00244/laws.FnPresumed", spec := "fnPresumed", inPlace := ["slices.overlaps[loop.example/g00244/impl.Pair]"], unfollowed := true, recurses := true, apart := false, narrowed := true }
def FnPresumedUptoSaid : Prop := fnPresumedUptoRow.holds Tryz.pinned (OpenSpec.upto fnPresumedSpec)

/-- 'laws.FnDrained', WHERE WHAT IT READS IS OF BULK AT MOST 1048576: true; the input reads as it did. -/
def fnDrainedUptoRow : OpenClaim := { program := "ytpchnmbcbcfhjaagreat", sum := "92af0980e74acd25bc24cab1b23a32f7c2ba5b50dc1f3956d4fba64094e7d01e", func := "loop.example/g00244/laws.FnDrained", spec := "fnDrained", inPlace := ["slices.overlaps[loop.example/g00244/impl.Pair]"], unfollowed := true, recurses := true, apart := false, narrowed := true }
def FnDrainedUptoSaid : Prop := fnDrainedUptoRow.holds Tryz.pinned (OpenSpec.upto fnDrainedSpec)

/-- 'laws.FnModels', WHERE WHAT IT READS IS OF BULK AT MOST 1048576: true; the input reads as it did. -/
def fnModelsUptoRow : OpenClaim := { program := "ytpchnmbcbcfhjaagreat", sum := "92af0980e74acd25bc24cab1b23a32f7c2ba5b50dc1f3956d4fba64094e7d01e", func := "loop.example/g00244/laws.FnModels", spec := "fnModels", inPlace := ["slices.overlaps[loop.example/g00244/impl.Pair]"], unfollowed := true, recurses := true, apart := false, narrowed := true }
def FnModelsUptoSaid : Prop := fnModelsUptoRow.holds Tryz.pinned (OpenSpec.upto fnModelsSpec)

/-- 'laws.FnPlayed', WHERE WHAT IT READS IS OF BULK AT MOST 1048576: true; the input reads as it did. -/
def fnPlayedUptoRow : OpenClaim := { program := "ytpchnmbcbcfhjaagreat", sum := "92af0980e74acd25bc24cab1b23a32f7c2ba5b50dc1f3956d4fba64094e7d01e", func := "loop.example/g00244/laws.FnPlayed", spec := "fnPlayed", inPlace := ["slices.overlaps[loop.example/g00244/impl.Pair]"], unfollowed := true, recurses := true, apart := false, narrowed := true }
def FnPlayedUptoSaid : Prop := fnPlayedUptoRow.holds Tryz.pinned (OpenSpec.upto fnPlayedSpec)

end Rows
end Go.Proofs.YtpchnmbcbcfhjaaGreat
