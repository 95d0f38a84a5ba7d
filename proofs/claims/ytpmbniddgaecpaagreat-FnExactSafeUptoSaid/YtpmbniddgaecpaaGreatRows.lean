/-
  No cell of these rows narrows 'for every input' (looked for: loops, veiled, ifaces, maps, wideKeys, modest, calm, conditions, laid).
  DERIVED. THE GIVEN ROWS OF THIS SEAT. 2 by the template 'for every input the law returns true; each argument reads behind the call as it read before'; 0 by the template 'total and deterministic' (their statements: YtpmbniddgaecpaaGreatTotals.lean).
  GIVEN WITH THE SEED: the statements are not yours to turn. If you find one false, say at which input.
  Laid BY PROGRAM, IN A SANDBOX (cutbox-rows.mjs): the forced cells as the released guide's own fill.sh prints them over the translation c5baa61ab73be826… (all of the seat's roots in one cut). By AI agents, Wed Nov 11 2026. No macro, syntax, notation, axiom, sorry.
-/
import Derived.Test.YtpmbniddgaecpaaGreatChecked
import GoSem.Claim
import GoSem.ClaimJoined
import GoSem.ClaimMapViews
import Derived.JoinedTies
import Derived.KernelRfl
namespace Go.Proofs.YtpmbniddgaecpaaGreat
/- THE CELL 'sum', in the pinned program and in every row, IS THE sha256 OF THE DUMP (.gsa) THAT YtpmbniddgaecpaaGreatProg.lean LOADS. Nothing in Lean hashes anything: it is a label: what it is worth is what the hold of that sum in a sandbox is worth. -/
noncomputable def Tryz.pinned : Pinned := { name := "ytpmbniddgaecpaagreat", sum := "c5baa61ab73be826619e623fa4b4dd02a2f1f4514d8d87b073a2c997e084360e", checked := Tryz.checked }
namespace Rows
def none {H : Type} : Left H := { results := [], args := [] }

/-- 'laws.FnExactSafe': WHATEVER THE INPUT: true; the input reads as it did. -/
def fnExactSafeSpec : ChangeSpec := { name := "fnExactSafe", fn := fun _ => fun
  | [d] => { results := [.lit (.bool true)], args := [d] }
  | _ => none }
def fnExactSafeRow : OpenClaim := { program := "ytpmbniddgaecpaagreat", sum := "c5baa61ab73be826619e623fa4b4dd02a2f1f4514d8d87b073a2c997e084360e", func := "loop.example/g00244/laws.FnExactSafe", spec := "fnExactSafe", inPlace := ["slices.overlaps[loop.example/g00244/impl.Pair]"], unfollowed := true, recurses := true, apart := false }
def FnExactSafeSaid : Prop := fnExactSafeRow.holds Tryz.pinned (OpenSpec.ofChange fnExactSafeSpec)

/-- ITS FALSE NEIGHBOUR: 'it returns false'. Refute it at one input. -/
def fnExactSafeWrong : ChangeSpec := { name := "fnExactSafe", fn := fun _ => fun
  | [d] => { results := [.lit (.bool false)], args := [d] }
  | _ => none }
def FnExactSafeWrongFalsely : Prop := fnExactSafeRow.holds Tryz.pinned (OpenSpec.ofChange fnExactSafeWrong)

/-- 'laws.FnSafe': WHATEVER THE INPUT: true; the input reads as it did. -/
def fnSafeSpec : ChangeSpec := { name := "fnSafe", fn := fun _ => fun
  | [d] => { results := [.lit (.bool true)], args := [d] }
  | _ => none }
def fnSafeRow : OpenClaim := { program := "ytpmbniddgaecpaagreat", sum := "c5baa61ab73be826619e623fa4b4dd02a2f1f4514d8d87b073a2c997e084360e", func := "loop.example/g00244/laws.FnSafe", spec := "fnSafe", inPlace := ["slices.overlaps[loop.example/g00244/impl.Pair]"], unfollowed := true, recurses := true, apart := false }
def FnSafeSaid : Prop := fnSafeRow.holds Tryz.pinned (OpenSpec.ofChange fnSafeSpec)

/-- ITS FALSE NEIGHBOUR: 'it returns false'. Refute it at one input. -/
def fnSafeWrong : ChangeSpec := { name := "fnSafe", fn := fun _ => fun
  | [d] => { results := [.lit (.bool false)], args := [d] }
  | _ => none }
def FnSafeWrongFalsely : Prop := fnSafeRow.holds Tryz.pinned (OpenSpec.ofChange fnSafeWrong)

/- THE SECOND FORM. 'bulk': how many values and letters a reading holds, each counted each time it is reached (what is shared counts as often as it is met; a slice's spare places count too). A statement '..UptoSaid' is the law's where the arguments, and the package variables that the reading takes, are together of bulk at most 1048576: NARROWER than '..Said'. Prove '..Said' where nothing that the law and all that it calls make is longer than what came in: it says more and counts as full. Else prove '..UptoSaid'. A law counts once. -/
mutual
def uptoBulk {H : Type} : DataW H → Nat
  | .lit (.string bytes) => bytes.length + 1
  | .lit _ => 1
  | .nil => 1
  | .ptr d => uptoBulk d + 1
  | .slice elems spare => uptoBulkAll elems + uptoBulkAll spare + 1
  | .agg parts => uptoBulkAll parts + 1
  | .iface _ d => uptoBulk d + 1
  | .map entries => uptoBulkEntries entries + 1
  | .held _ => 1
def uptoBulkAll {H : Type} : List (DataW H) → Nat
  | [] => 0
  | d :: r => uptoBulk d + uptoBulkAll r
def uptoBulkEntries {H : Type} : List (Lit × DataW H) → Nat
  | [] => 0
  | x :: r => uptoBulkEntry x + uptoBulkEntries r
def uptoBulkEntry {H : Type} : Lit × DataW H → Nat
  | (.string bytes, d) => bytes.length + uptoBulk d + 1
  | (_, d) => uptoBulk d + 1
 end
def uptoSmall : (H : Type) → List (DataW H) → Bool := fun _ ds => decide (uptoBulkAll ds ≤ 1048576)
def OpenSpec.upto (s : _root_.Go.ChangeSpec) : _root_.Go.OpenSpec := { _root_.Go.OpenSpec.ofChange s with cond := some uptoSmall }

/-- 'laws.FnExactSafe', WHERE WHAT IT READS IS OF BULK AT MOST 1048576: true; the input reads as it did. -/
def fnExactSafeUptoRow : OpenClaim := { program := "ytpmbniddgaecpaagreat", sum := "c5baa61ab73be826619e623fa4b4dd02a2f1f4514d8d87b073a2c997e084360e", func := "loop.example/g00244/laws.FnExactSafe", spec := "fnExactSafe", inPlace := ["slices.overlaps[loop.example/g00244/impl.Pair]"], unfollowed := true, recurses := true, apart := false, narrowed := true }
def FnExactSafeUptoSaid : Prop := fnExactSafeUptoRow.holds Tryz.pinned (OpenSpec.upto fnExactSafeSpec)

/-- 'laws.FnSafe', WHERE WHAT IT READS IS OF BULK AT MOST 1048576: true; the input reads as it did. -/
def fnSafeUptoRow : OpenClaim := { program := "ytpmbniddgaecpaagreat", sum := "c5baa61ab73be826619e623fa4b4dd02a2f1f4514d8d87b073a2c997e084360e", func := "loop.example/g00244/laws.FnSafe", spec := "fnSafe", inPlace := ["slices.overlaps[loop.example/g00244/impl.Pair]"], unfollowed := true, recurses := true, apart := false, narrowed := true }
def FnSafeUptoSaid : Prop := fnSafeUptoRow.holds Tryz.pinned (OpenSpec.upto fnSafeSpec)

end Rows
end Go.Proofs.YtpmbniddgaecpaaGreat
