/-
  No cell of these rows narrows 'for every input' (looked for: loops, veiled, ifaces, maps, wideKeys, modest, calm, conditions, laid).
  DERIVED. THE GIVEN ROWS OF THIS SEAT. 4 by the template 'for every input the law returns true; each argument reads behind the call as it read before'; 0 by the template 'total and deterministic' (their statements: YtdnejilapfmnlaaTotals.lean).
  GIVEN WITH THE SEED: the statements are not yours to turn. If you find one false, say at which input.
  Laid BY PROGRAM, IN A SANDBOX (cutbox-rows.mjs): the forced cells as the released guide's own fill.sh prints them over the translation 692cc9008a251dc6… (all of the seat's roots in one cut). By AI agents, Wed Nov 11 2026. No macro, syntax, notation, axiom, sorry.
-/
import Derived.Test.YtdnejilapfmnlaaChecked
import GoSem.Claim
import GoSem.ClaimJoined
import GoSem.ClaimMapViews
import Derived.JoinedTies
import Derived.KernelRfl
namespace Go.Proofs.Ytdnejilapfmnlaa
/- THE CELL 'sum', in the pinned program and in every row, IS THE sha256 OF THE DUMP (.gsa) THAT YtdnejilapfmnlaaProg.lean LOADS. Nothing in Lean hashes anything: it is a label: what it is worth is what the hold of that sum in a sandbox is worth. -/
noncomputable def Try.pinned : Pinned := { name := "ytdnejilapfmnlaa", sum := "692cc9008a251dc669d18fdd4249281cc2cbc9535888b0255a051b37604a8325", checked := Try.checked }
namespace Rows
def none {H : Type} : Left H := { results := [], args := [] }

/-- 'laws.FnExactSuperOf': WHATEVER THE INPUT: true; the input reads as it did. -/
def fnExactSuperOfSpec : ChangeSpec := { name := "fnExactSuperOf", fn := fun _ => fun
  | [d1, d2, d3] => { results := [.lit (.bool true)], args := [d1, d2, d3] }
  | _ => none }
def fnExactSuperOfRow : OpenClaim := { program := "ytdnejilapfmnlaa", sum := "692cc9008a251dc669d18fdd4249281cc2cbc9535888b0255a051b37604a8325", func := "loop.example/g00244/laws.FnExactSuperOf", spec := "fnExactSuperOf", unfollowed := true, recurses := true, apart := false }
def FnExactSuperOfSaid : Prop := fnExactSuperOfRow.holds Try.pinned (OpenSpec.ofChange fnExactSuperOfSpec)

/-- ITS FALSE NEIGHBOUR: 'it returns false'. Refute it at one input. -/
def fnExactSuperOfWrong : ChangeSpec := { name := "fnExactSuperOf", fn := fun _ => fun
  | [d1, d2, d3] => { results := [.lit (.bool false)], args := [d1, d2, d3] }
  | _ => none }
def FnExactSuperOfWrongFalsely : Prop := fnExactSuperOfRow.holds Try.pinned (OpenSpec.ofChange fnExactSuperOfWrong)

/-- 'laws.FnExactSealOk': WHATEVER THE INPUT: true; the input reads as it did. -/
def fnExactSealOkSpec : ChangeSpec := { name := "fnExactSealOk", fn := fun _ => fun
  | [d] => { results := [.lit (.bool true)], args := [d] }
  | _ => none }
def fnExactSealOkRow : OpenClaim := { program := "ytdnejilapfmnlaa", sum := "692cc9008a251dc669d18fdd4249281cc2cbc9535888b0255a051b37604a8325", func := "loop.example/g00244/laws.FnExactSealOk", spec := "fnExactSealOk", unfollowed := true, recurses := true, apart := false }
def FnExactSealOkSaid : Prop := fnExactSealOkRow.holds Try.pinned (OpenSpec.ofChange fnExactSealOkSpec)

/-- ITS FALSE NEIGHBOUR: 'it returns false'. Refute it at one input. -/
def fnExactSealOkWrong : ChangeSpec := { name := "fnExactSealOk", fn := fun _ => fun
  | [d] => { results := [.lit (.bool false)], args := [d] }
  | _ => none }
def FnExactSealOkWrongFalsely : Prop := fnExactSealOkRow.holds Try.pinned (OpenSpec.ofChange fnExactSealOkWrong)

/-- 'laws.FnChains': WHATEVER THE INPUT: true; the input reads as it did. -/
def fnChainsSpec : ChangeSpec := { name := "fnChains", fn := fun _ => fun
  | [d] => { results := [.lit (.bool true)], args := [d] }
  | _ => none }
def fnChainsRow : OpenClaim := { program := "ytdnejilapfmnlaa", sum := "692cc9008a251dc669d18fdd4249281cc2cbc9535888b0255a051b37604a8325", func := "loop.example/g00244/laws.FnChains", spec := "fnChains", unfollowed := true, recurses := true, apart := false }
def FnChainsSaid : Prop := fnChainsRow.holds Try.pinned (OpenSpec.ofChange fnChainsSpec)

/-- ITS FALSE NEIGHBOUR: 'it returns false'. Refute it at one input. -/
def fnChainsWrong : ChangeSpec := { name := "fnChains", fn := fun _ => fun
  | [d] => { results := [.lit (.bool false)], args := [d] }
  | _ => none }
def FnChainsWrongFalsely : Prop := fnChainsRow.holds Try.pinned (OpenSpec.ofChange fnChainsWrong)

/-- 'laws.FnExactChainOk': WHATEVER THE INPUT: true; the input reads as it did. -/
def fnExactChainOkSpec : ChangeSpec := { name := "fnExactChainOk", fn := fun _ => fun
  | [d] => { results := [.lit (.bool true)], args := [d] }
  | _ => none }
def fnExactChainOkRow : OpenClaim := { program := "ytdnejilapfmnlaa", sum := "692cc9008a251dc669d18fdd4249281cc2cbc9535888b0255a051b37604a8325", func := "loop.example/g00244/laws.FnExactChainOk", spec := "fnExactChainOk", unfollowed := true, recurses := true, apart := false }
def FnExactChainOkSaid : Prop := fnExactChainOkRow.holds Try.pinned (OpenSpec.ofChange fnExactChainOkSpec)

/-- ITS FALSE NEIGHBOUR: 'it returns false'. Refute it at one input. -/
def fnExactChainOkWrong : ChangeSpec := { name := "fnExactChainOk", fn := fun _ => fun
  | [d] => { results := [.lit (.bool false)], args := [d] }
  | _ => none }
def FnExactChainOkWrongFalsely : Prop := fnExactChainOkRow.holds Try.pinned (OpenSpec.ofChange fnExactChainOkWrong)

/- THE SECOND FORM. 'bulk': how many values and letters a reading holds, each counted each time it is reached (what is shared counts as often as it is met; a slice's spare places count too). A statement '..UptoSaid' is the law's where the arguments, and the package variables that the reading takes, are together of bulk at most 1048576: NARROWER than '..Said'. Prove '..Said' where nothing that the law and all that it calls make is longer than what came in: it says more and counts as full. Else prove '..UptoSaid'. A law counts once. -/
mutual
def uptoBulk {H : Type} : DataW H → Nat
  | .lit (.string bytes) => bytes.length + 1
  | .lit _ => 1
  | .nil => 1
  | .ptr d => uptoBulk d + 1
  | .slice elems spare => uptoBulkAll elems + uptoBulkAll spare + 1
  | .agg parts => uptoBulkAll parts + 1
  | .iface _ d => uptoBulk d + 1
  | .map entries => uptoBulkEntries entries + 1
  | .held _ => 1
def uptoBulkAll {H : Type} : List (DataW H) → Nat
  | [] => 0
  | d :: r => uptoBulk d + uptoBulkAll r
def uptoBulkEntries {H : Type} : List (Lit × DataW H) → Nat
  | [] => 0
  | x :: r => uptoBulkEntry x + uptoBulkEntries r
def uptoBulkEntry {H : Type} : Lit × DataW H → Nat
  | (.string bytes, d) => bytes.length + uptoBulk d + 1
  | (_, d) => uptoBulk d + 1
 end
def uptoSmall : (H : Type) → List (DataW H) → Bool := fun _ ds => decide (uptoBulkAll ds ≤ 1048576)
def OpenSpec.upto (s : _root_.Go.ChangeSpec) : _root_.Go.OpenSpec := { _root_.Go.OpenSpec.ofChange s with cond := some uptoSmall }

/-- 'laws.FnExactSuperOf', WHERE WHAT IT READS IS OF BULK AT MOST 1048576: true; the input reads as it did. -/
def fnExactSuperOfUptoRow : OpenClaim := { program := "ytdnejilapfmnlaa", sum := "692cc9008a251dc669d18fdd4249281cc2cbc9535888b0255a051b37604a8325", func := "loop.example/g00244/laws.FnExactSuperOf", spec := "fnExactSuperOf", unfollowed := true, recurses := true, apart := false, narrowed := true }
def FnExactSuperOfUptoSaid : Prop := fnExactSuperOfUptoRow.holds Try.pinned (OpenSpec.upto fnExactSuperOfSpec)

/-- 'laws.FnExactSealOk', WHERE WHAT IT READS IS OF BULK AT MOST 1048576: true; the input reads as it did. -/
def fnExactSealOkUptoRow : OpenClaim := { program := "ytdnejilapfmnlaa", sum := "692cc9008a251dc669d18fdd4249281cc2cbc9535888b0255a051b37604a8325", func := "loop.example/g00244/laws.FnExactSealOk", spec := "fnExactSealOk", unfollowed := true, recurses := true, apart := false, narrowed := true }
def FnExactSealOkUptoSaid : Prop := fnExactSealOkUptoRow.holds Try.pinned (OpenSpec.upto fnExactSealOkSpec)

/-- 'laws.FnChains', WHERE WHAT IT READS IS OF BULK AT MOST 1048576: true; the input reads as it did. -/
def fnChainsUptoRow : OpenClaim := { program := "ytdnejilapfmnlaa", sum := "692cc9008a251dc669d18fdd4249281cc2cbc9535888b0255a051b37604a8325", func := "loop.example/g00244/laws.FnChains", spec := "fnChains", unfollowed := true, recurses := true, apart := false, narrowed := true }
def FnChainsUptoSaid : Prop := fnChainsUptoRow.holds Try.pinned (OpenSpec.upto fnChainsSpec)

/-- 'laws.FnExactChainOk', WHERE WHAT IT READS IS OF BULK AT MOST 1048576: true; the input reads as it did. -/
def fnExactChainOkUptoRow : OpenClaim := { program := "ytdnejilapfmnlaa", sum := "692cc9008a251dc669d18fdd4249281cc2cbc9535888b0255a051b37604a8325", func := "loop.example/g00244/laws.FnExactChainOk", spec := "fnExactChainOk", unfollowed := true, recurses := true, apart := false, narrowed := true }
def FnExactChainOkUptoSaid : Prop := fnExactChainOkUptoRow.holds Try.pinned (OpenSpec.upto fnExactChainOkSpec)

end Rows
end Go.Proofs.Ytdnejilapfmnlaa
