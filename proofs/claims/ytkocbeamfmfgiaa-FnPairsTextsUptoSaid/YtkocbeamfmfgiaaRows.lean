/-
  No cell of these rows narrows 'for every input' (looked for: loops, veiled, ifaces, maps, wideKeys, modest, calm, conditions, laid).
  DERIVED. THE GIVEN ROWS OF THIS SEAT. 6 by the template 'for every input the law returns true; each argument reads behind the call as it read before'; 0 by the template 'total and deterministic' (their statements: YtkocbeamfmfgiaaTotals.lean).
  GIVEN WITH THE SEED: the statements are not yours to turn. If you find one false, say at which input.
  Laid BY PROGRAM, IN A SANDBOX (cutbox-rows.mjs): the forced cells as the released guide's own fill.sh prints them over the translation 1f1384796e2130e7… (all of the seat's roots in one cut). By AI agents, Wed Nov 11 2026. No macro, syntax, notation, axiom, sorry.
-/
import Derived.Test.YtkocbeamfmfgiaaChecked
import GoSem.Claim
import GoSem.ClaimJoined
import GoSem.ClaimMapViews
import Derived.JoinedTies
import Derived.KernelRfl
namespace Go.Proofs.Ytkocbeamfmfgiaa
/- THE CELL 'sum', in the pinned program and in every row, IS THE sha256 OF THE DUMP (.gsa) THAT YtkocbeamfmfgiaaProg.lean LOADS. Nothing in Lean hashes anything: it is a label: what it is worth is what the hold of that sum in a sandbox is worth. -/
noncomputable def Try.pinned : Pinned := { name := "ytkocbeamfmfgiaa", sum := "1f1384796e2130e7529551e35d9013bcbc3db073674e05f815538e8a0a1f0288", checked := Try.checked }
namespace Rows
def none {H : Type} : Left H := { results := [], args := [] }

/-- 'laws.FnExactPairsText': WHATEVER THE INPUT: true; the input reads as it did. -/
def fnExactPairsTextSpec : ChangeSpec := { name := "fnExactPairsText", fn := fun _ => fun
  | [d] => { results := [.lit (.bool true)], args := [d] }
  | _ => none }
def fnExactPairsTextRow : OpenClaim := { program := "ytkocbeamfmfgiaa", sum := "1f1384796e2130e7529551e35d9013bcbc3db073674e05f815538e8a0a1f0288", func := "loop.example/g00244/laws.FnExactPairsText", spec := "fnExactPairsText", inPlace := ["internal/abi.NoEscape", "internal/bytealg.MakeNoZero"], apart := false }
def FnExactPairsTextSaid : Prop := fnExactPairsTextRow.holds Try.pinned (OpenSpec.ofChange fnExactPairsTextSpec)

/-- ITS FALSE NEIGHBOUR: 'it returns false'. Refute it at one input. -/
def fnExactPairsTextWrong : ChangeSpec := { name := "fnExactPairsText", fn := fun _ => fun
  | [d] => { results := [.lit (.bool false)], args := [d] }
  | _ => none }
def FnExactPairsTextWrongFalsely : Prop := fnExactPairsTextRow.holds Try.pinned (OpenSpec.ofChange fnExactPairsTextWrong)

/-- 'laws.FnPairsTexts': WHATEVER THE INPUT: true; the input reads as it did. -/
def fnPairsTextsSpec : ChangeSpec := { name := "fnPairsTexts", fn := fun _ => fun
  | [d] => { results := [.lit (.bool true)], args := [d] }
  | _ => none }
def fnPairsTextsRow : OpenClaim := { program := "ytkocbeamfmfgiaa", sum := "1f1384796e2130e7529551e35d9013bcbc3db073674e05f815538e8a0a1f0288", func := "loop.example/g00244/laws.FnPairsTexts", spec := "fnPairsTexts", inPlace := ["internal/abi.NoEscape", "internal/bytealg.MakeNoZero"], apart := false }
def FnPairsTextsSaid : Prop := fnPairsTextsRow.holds Try.pinned (OpenSpec.ofChange fnPairsTextsSpec)

/-- ITS FALSE NEIGHBOUR: 'it returns false'. Refute it at one input. -/
def fnPairsTextsWrong : ChangeSpec := { name := "fnPairsTexts", fn := fun _ => fun
  | [d] => { results := [.lit (.bool false)], args := [d] }
  | _ => none }
def FnPairsTextsWrongFalsely : Prop := fnPairsTextsRow.holds Try.pinned (OpenSpec.ofChange fnPairsTextsWrong)

/-- 'laws.FnExactOpsText': WHATEVER THE INPUT: true; the input reads as it did. -/
def fnExactOpsTextSpec : ChangeSpec := { name := "fnExactOpsText", fn := fun _ => fun
  | [d] => { results := [.lit (.bool true)], args := [d] }
  | _ => none }
def fnExactOpsTextRow : OpenClaim := { program := "ytkocbeamfmfgiaa", sum := "1f1384796e2130e7529551e35d9013bcbc3db073674e05f815538e8a0a1f0288", func := "loop.example/g00244/laws.FnExactOpsText", spec := "fnExactOpsText", inPlace := ["internal/abi.NoEscape", "internal/bytealg.MakeNoZero"], apart := false }
def FnExactOpsTextSaid : Prop := fnExactOpsTextRow.holds Try.pinned (OpenSpec.ofChange fnExactOpsTextSpec)

/-- ITS FALSE NEIGHBOUR: 'it returns false'. Refute it at one input. -/
def fnExactOpsTextWrong : ChangeSpec := { name := "fnExactOpsText", fn := fun _ => fun
  | [d] => { results := [.lit (.bool false)], args := [d] }
  | _ => none }
def FnExactOpsTextWrongFalsely : Prop := fnExactOpsTextRow.holds Try.pinned (OpenSpec.ofChange fnExactOpsTextWrong)

/-- 'laws.FnExactSuperOf': WHATEVER THE INPUT: true; the input reads as it did. -/
def fnExactSuperOfSpec : ChangeSpec := { name := "fnExactSuperOf", fn := fun _ => fun
  | [d1, d2, d3] => { results := [.lit (.bool true)], args := [d1, d2, d3] }
  | _ => none }
def fnExactSuperOfRow : OpenClaim := { program := "ytkocbeamfmfgiaa", sum := "1f1384796e2130e7529551e35d9013bcbc3db073674e05f815538e8a0a1f0288", func := "loop.example/g00244/laws.FnExactSuperOf", spec := "fnExactSuperOf", unfollowed := true, recurses := true, apart := false }
def FnExactSuperOfSaid : Prop := fnExactSuperOfRow.holds Try.pinned (OpenSpec.ofChange fnExactSuperOfSpec)

/-- ITS FALSE NEIGHBOUR: 'it returns false'. Refute it at one input. -/
def fnExactSuperOfWrong : ChangeSpec := { name := "fnExactSuperOf", fn := fun _ => fun
  | [d1, d2, d3] => { results := [.lit (.bool false)], args := [d1, d2, d3] }
  | _ => none }
def FnExactSuperOfWrongFalsely : Prop := fnExactSuperOfRow.holds Try.pinned (OpenSpec.ofChange fnExactSuperOfWrong)

/-- 'laws.FnExactSealOk': WHATEVER THE INPUT: true; the input reads as it did. -/
def fnExactSealOkSpec : ChangeSpec := { name := "fnExactSealOk", fn := fun _ => fun
  | [d] => { results := [.lit (.bool true)], args := [d] }
  | _ => none }
def fnExactSealOkRow : OpenClaim := { program := "ytkocbeamfmfgiaa", sum := "1f1384796e2130e7529551e35d9013bcbc3db073674e05f815538e8a0a1f0288", func := "loop.example/g00244/laws.FnExactSealOk", spec := "fnExactSealOk", unfollowed := true, recurses := true, apart := false }
def FnExactSealOkSaid : Prop := fnExactSealOkRow.holds Try.pinned (OpenSpec.ofChange fnExactSealOkSpec)

/-- ITS FALSE NEIGHBOUR: 'it returns false'. Refute it at one input. -/
def fnExactSealOkWrong : ChangeSpec := { name := "fnExactSealOk", fn := fun _ => fun
  | [d] => { results := [.lit (.bool false)], args := [d] }
  | _ => none }
def FnExactSealOkWrongFalsely : Prop := fnExactSealOkRow.holds Try.pinned (OpenSpec.ofChange fnExactSealOkWrong)

/-- 'laws.FnChains': WHATEVER THE INPUT: true; the input reads as it did. -/
def fnChainsSpec : ChangeSpec := { name := "fnChains", fn := fun _ => fun
  | [d] => { results := [.lit (.bool true)], args := [d] }
  | _ => none }
def fnChainsRow : OpenClaim := { program := "ytkocbeamfmfgiaa", sum := "1f1384796e2130e7529551e35d9013bcbc3db073674e05f815538e8a0a1f0288", func := "loop.example/g00244/laws.FnChains", spec := "fnChains", unfollowed := true, recurses := true, apart := false }
def FnChainsSaid : Prop := fnChainsRow.holds Try.pinned (OpenSpec.ofChange fnChainsSpec)

/-- ITS FALSE NEIGHBOUR: 'it returns false'. Refute it at one input. -/
def fnChainsWrong : ChangeSpec := { name := "fnChains", fn := fun _ => fun
  | [d] => { results := [.lit (.bool false)], args := [d] }
  | _ => none }
def FnChainsWrongFalsely : Prop := fnChainsRow.holds Try.pinned (OpenSpec.ofChange fnChainsWrong)

/- THE SECOND FORM. 'bulk': how many values and letters a reading holds, each counted each time it is reached (what is shared counts as often as it is met; a slice's spare places count too). A statement '..UptoSaid' is the law's where the arguments, and the package variables that the reading takes, are together of bulk at most 1048576: NARROWER than '..Said'. Prove '..Said' where nothing that the law and all that it calls make is longer than what came in: it says more and counts as full. Else prove '..UptoSaid'. A law counts once. -/
mutual
def uptoBulk {H : Type} : DataW H → Nat
  | .lit (.string bytes) => bytes.length + 1
  | .lit _ => 1
  | .nil => 1
  | .ptr d => uptoBulk d + 1
  | .slice elems spare => uptoBulkAll elems + uptoBulkAll spare + 1
  | .agg parts => uptoBulkAll parts + 1
  | .iface _ d => uptoBulk d + 1
  | .map entries => uptoBulkEntries entries + 1
  | .held _ => 1
def uptoBulkAll {H : Type} : List (DataW H) → Nat
  | [] => 0
  | d :: r => uptoBulk d + uptoBulkAll r
def uptoBulkEntries {H : Type} : List (Lit × DataW H) → Nat
  | [] => 0
  | x :: r => uptoBulkEntry x + uptoBulkEntries r
def uptoBulkEntry {H : Type} : Lit × DataW H → Nat
  | (.string bytes, d) => bytes.length + uptoBulk d + 1
  | (_, d) => uptoBulk d + 1
 end
def uptoSmall : (H : Type) → List (DataW H) → Bool := fun _ ds => decide (uptoBulkAll ds ≤ 1048576)
def OpenSpec.upto (s : _root_.Go.ChangeSpec) : _root_.Go.OpenSpec := { _root_.Go.OpenSpec.ofChange s with cond := some uptoSmall }

/-- 'laws.FnExactPairsText', WHERE WHAT IT READS IS OF BULK AT MOST 1048576: true; the input reads as it did. -/
def fnExactPairsTextUptoRow : OpenClaim := { program := "ytkocbeamfmfgiaa", sum := "1f1384796e2130e7529551e35d9013bcbc3db073674e05f815538e8a0a1f0288", func := "loop.example/g00244/laws.FnExactPairsText", spec := "fnExactPairsText", inPlace := ["internal/abi.NoEscape", "internal/bytealg.MakeNoZero"], apart := false, narrowed := true }
def FnExactPairsTextUptoSaid : Prop := fnExactPairsTextUptoRow.holds Try.pinned (OpenSpec.upto fnExactPairsTextSpec)

/-- 'laws.FnPairsTexts', WHERE WHAT IT READS IS OF BULK AT MOST 1048576: true; the input reads as it did. -/
def fnPairsTextsUptoRow : OpenClaim := { program := "ytkocbeamfmfgiaa", sum := "1f1384796e2130e7529551e35d9013bcbc3db073674e05f815538e8a0a1f0288", func := "loop.example/g00244/laws.FnPairsTexts", spec := "fnPairsTexts", inPlace := ["internal/abi.NoEscape", "internal/bytealg.MakeNoZero"], apart := false, narrowed := true }
def FnPairsTextsUptoSaid : Prop := fnPairsTextsUptoRow.holds Try.pinned (OpenSpec.upto fnPairsTextsSpec)

/-- 'laws.FnExactOpsText', WHERE WHAT IT READS IS OF BULK AT MOST 1048576: true; the input reads as it did. -/
def fnExactOpsTextUptoRow : OpenClaim := { program := "ytkocbeamfmfgiaa", sum := "1f1384796e2130e7529551e35d9013bcbc3db073674e05f815538e8a0a1f0288", func := "loop.example/g00244/laws.FnExactOpsText", spec := "fnExactOpsText", inPlace := ["internal/abi.NoEscape", "internal/bytealg.MakeNoZero"], apart := false, narrowed := true }
def FnExactOpsTextUptoSaid : Prop := fnExactOpsTextUptoRow.holds Try.pinned (OpenSpec.upto fnExactOpsTextSpec)

/-- 'laws.FnExactSuperOf', WHERE WHAT IT READS IS OF BULK AT MOST 1048576: true; the input reads as it did. -/
def fnExactSuperOfUptoRow : OpenClaim := { program := "ytkocbeamfmfgiaa", sum := "1f1384796e2130e7529551e35d9013bcbc3db073674e05f815538e8a0a1f0288", func := "loop.example/g00244/laws.FnExactSuperOf", spec := "fnExactSuperOf", unfollowed := true, recurses := true, apart := false, narrowed := true }
def FnExactSuperOfUptoSaid : Prop := fnExactSuperOfUptoRow.holds Try.pinned (OpenSpec.upto fnExactSuperOfSpec)

/-- 'laws.FnExactSealOk', WHERE WHAT IT READS IS OF BULK AT MOST 1048576: true; the input reads as it did. -/
def fnExactSealOkUptoRow : OpenClaim := { program := "ytkocbeamfmfgiaa", sum := "1f1384796e2130e7529551e35d9013bcbc3db073674e05f815538e8a0a1f0288", func := "loop.example/g00244/laws.FnExactSealOk", spec := "fnExactSealOk", unfollowed := true, recurses := true, apart := false, narrowed := true }
def FnExactSealOkUptoSaid : Prop := fnExactSealOkUptoRow.holds Try.pinned (OpenSpec.upto fnExactSealOkSpec)

/-- 'laws.FnChains', WHERE WHAT IT READS IS OF BULK AT MOST 1048576: true; the input reads as it did. -/
def fnChainsUptoRow : OpenClaim := { program := "ytkocbeamfmfgiaa", sum := "1f1384796e2130e7529551e35d9013bcbc3db073674e05f815538e8a0a1f0288", func := "loop.example/g00244/laws.FnChains", spec := "fnChains", unfollowed := true, recurses := true, apart := false, narrowed := true }
def FnChainsUptoSaid : Prop := fnChainsUptoRow.holds Try.pinned (OpenSpec.upto fnChainsSpec)

end Rows
end Go.Proofs.Ytkocbeamfmfgiaa
