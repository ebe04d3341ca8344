/-
  No cell of these rows narrows 'for every input' (looked for: loops, veiled, ifaces, maps, wideKeys, modest, calm, conditions, laid).
  DERIVED. THE GIVEN ROWS OF THIS SEAT. 16 by the template 'for every input the law returns true; each argument reads behind the call as it read before'; 0 by the template 'total and deterministic' (their statements: YtnggbahcmhdjnaaTotals.lean).
  GIVEN WITH THE SEED: the statements are not yours to turn. If you find one false, say at which input.
  Laid BY PROGRAM, IN A SANDBOX (cutbox-rows.mjs): the forced cells as the released guide's own fill.sh prints them over the translation adef098a741c20a0… (all of the seat's roots in one cut). By AI agents, Wed Nov 11 2026. No macro, syntax, notation, axiom, sorry.
-/
import Derived.Test.YtnggbahcmhdjnaaChecked
import GoSem.Claim
import GoSem.ClaimJoined
import GoSem.ClaimMapViews
import Derived.JoinedTies
import Derived.KernelRfl
namespace Go.Proofs.Ytnggbahcmhdjnaa
/- THE CELL 'sum', in the pinned program and in every row, IS THE sha256 OF THE DUMP (.gsa) THAT YtnggbahcmhdjnaaProg.lean LOADS. Nothing in Lean hashes anything: it is a label: what it is worth is what the hold of that sum in a sandbox is worth. -/
noncomputable def Try.pinned : Pinned := { name := "ytnggbahcmhdjnaa", sum := "adef098a741c20a09da7727d06fd8f2aa1457b1f967d02ece10d32833eb1aa4a", checked := Try.checked }
namespace Rows
def none {H : Type} : Left H := { results := [], args := [] }

/-- 'laws.FnExactExtAdd': WHATEVER THE INPUT: true; the input reads as it did. -/
def fnExactExtAddSpec : ChangeSpec := { name := "fnExactExtAdd", fn := fun _ => fun
  | [d1, d2] => { results := [.lit (.bool true)], args := [d1, d2] }
  | _ => none }
def fnExactExtAddRow : OpenClaim := { program := "ytnggbahcmhdjnaa", sum := "adef098a741c20a09da7727d06fd8f2aa1457b1f967d02ece10d32833eb1aa4a", func := "loop.example/g00348/laws.FnExactExtAdd", spec := "fnExactExtAdd", unfollowed := true, recurses := true, apart := false }
def FnExactExtAddSaid : Prop := fnExactExtAddRow.holds Try.pinned (OpenSpec.ofChange fnExactExtAddSpec)

/-- ITS FALSE NEIGHBOUR: 'it returns false'. Refute it at one input. -/
def fnExactExtAddWrong : ChangeSpec := { name := "fnExactExtAdd", fn := fun _ => fun
  | [d1, d2] => { results := [.lit (.bool false)], args := [d1, d2] }
  | _ => none }
def FnExactExtAddWrongFalsely : Prop := fnExactExtAddRow.holds Try.pinned (OpenSpec.ofChange fnExactExtAddWrong)

/-- 'laws.FnExactExtSub': WHATEVER THE INPUT: true; the input reads as it did. -/
def fnExactExtSubSpec : ChangeSpec := { name := "fnExactExtSub", fn := fun _ => fun
  | [d1, d2] => { results := [.lit (.bool true)], args := [d1, d2] }
  | _ => none }
def fnExactExtSubRow : OpenClaim := { program := "ytnggbahcmhdjnaa", sum := "adef098a741c20a09da7727d06fd8f2aa1457b1f967d02ece10d32833eb1aa4a", func := "loop.example/g00348/laws.FnExactExtSub", spec := "fnExactExtSub", unfollowed := true, recurses := true, apart := false }
def FnExactExtSubSaid : Prop := fnExactExtSubRow.holds Try.pinned (OpenSpec.ofChange fnExactExtSubSpec)

/-- ITS FALSE NEIGHBOUR: 'it returns false'. Refute it at one input. -/
def fnExactExtSubWrong : ChangeSpec := { name := "fnExactExtSub", fn := fun _ => fun
  | [d1, d2] => { results := [.lit (.bool false)], args := [d1, d2] }
  | _ => none }
def FnExactExtSubWrongFalsely : Prop := fnExactExtSubRow.holds Try.pinned (OpenSpec.ofChange fnExactExtSubWrong)

/-- 'laws.FnExactExtMul': WHATEVER THE INPUT: true; the input reads as it did. -/
def fnExactExtMulSpec : ChangeSpec := { name := "fnExactExtMul", fn := fun _ => fun
  | [d1, d2] => { results := [.lit (.bool true)], args := [d1, d2] }
  | _ => none }
def fnExactExtMulRow : OpenClaim := { program := "ytnggbahcmhdjnaa", sum := "adef098a741c20a09da7727d06fd8f2aa1457b1f967d02ece10d32833eb1aa4a", func := "loop.example/g00348/laws.FnExactExtMul", spec := "fnExactExtMul", unfollowed := true, recurses := true, apart := false }
def FnExactExtMulSaid : Prop := fnExactExtMulRow.holds Try.pinned (OpenSpec.ofChange fnExactExtMulSpec)

/-- ITS FALSE NEIGHBOUR: 'it returns false'. Refute it at one input. -/
def fnExactExtMulWrong : ChangeSpec := { name := "fnExactExtMul", fn := fun _ => fun
  | [d1, d2] => { results := [.lit (.bool false)], args := [d1, d2] }
  | _ => none }
def FnExactExtMulWrongFalsely : Prop := fnExactExtMulRow.holds Try.pinned (OpenSpec.ofChange fnExactExtMulWrong)

/-- 'laws.FnExactPow': WHATEVER THE INPUT: true; the input reads as it did. -/
def fnExactPowSpec : ChangeSpec := { name := "fnExactPow", fn := fun _ => fun
  | [d1, d2] => { results := [.lit (.bool true)], args := [d1, d2] }
  | _ => none }
def fnExactPowRow : OpenClaim := { program := "ytnggbahcmhdjnaa", sum := "adef098a741c20a09da7727d06fd8f2aa1457b1f967d02ece10d32833eb1aa4a", func := "loop.example/g00348/laws.FnExactPow", spec := "fnExactPow", apart := false }
def FnExactPowSaid : Prop := fnExactPowRow.holds Try.pinned (OpenSpec.ofChange fnExactPowSpec)

/-- ITS FALSE NEIGHBOUR: 'it returns false'. Refute it at one input. -/
def fnExactPowWrong : ChangeSpec := { name := "fnExactPow", fn := fun _ => fun
  | [d1, d2] => { results := [.lit (.bool false)], args := [d1, d2] }
  | _ => none }
def FnExactPowWrongFalsely : Prop := fnExactPowRow.holds Try.pinned (OpenSpec.ofChange fnExactPowWrong)

/-- 'laws.FnExactInverse': WHATEVER THE INPUT: true; the input reads as it did. -/
def fnExactInverseSpec : ChangeSpec := { name := "fnExactInverse", fn := fun _ => fun
  | [d] => { results := [.lit (.bool true)], args := [d] }
  | _ => none }
def fnExactInverseRow : OpenClaim := { program := "ytnggbahcmhdjnaa", sum := "adef098a741c20a09da7727d06fd8f2aa1457b1f967d02ece10d32833eb1aa4a", func := "loop.example/g00348/laws.FnExactInverse", spec := "fnExactInverse", apart := false }
def FnExactInverseSaid : Prop := fnExactInverseRow.holds Try.pinned (OpenSpec.ofChange fnExactInverseSpec)

/-- ITS FALSE NEIGHBOUR: 'it returns false'. Refute it at one input. -/
def fnExactInverseWrong : ChangeSpec := { name := "fnExactInverse", fn := fun _ => fun
  | [d] => { results := [.lit (.bool false)], args := [d] }
  | _ => none }
def FnExactInverseWrongFalsely : Prop := fnExactInverseRow.holds Try.pinned (OpenSpec.ofChange fnExactInverseWrong)

/-- 'laws.FnRoots': WHATEVER THE INPUT: true; the input reads as it did. -/
def fnRootsSpec : ChangeSpec := { name := "fnRoots", fn := fun _ => fun
  | [d] => { results := [.lit (.bool true)], args := [d] }
  | _ => none }
def fnRootsRow : OpenClaim := { program := "ytnggbahcmhdjnaa", sum := "adef098a741c20a09da7727d06fd8f2aa1457b1f967d02ece10d32833eb1aa4a", func := "loop.example/g00348/laws.FnRoots", spec := "fnRoots", unfollowed := true, recurses := true, apart := false }
def FnRootsSaid : Prop := fnRootsRow.holds Try.pinned (OpenSpec.ofChange fnRootsSpec)

/-- ITS FALSE NEIGHBOUR: 'it returns false'. Refute it at one input. -/
def fnRootsWrong : ChangeSpec := { name := "fnRoots", fn := fun _ => fun
  | [d] => { results := [.lit (.bool false)], args := [d] }
  | _ => none }
def FnRootsWrongFalsely : Prop := fnRootsRow.holds Try.pinned (OpenSpec.ofChange fnRootsWrong)

/-- 'laws.FnExactExtPow': WHATEVER THE INPUT: true; the input reads as it did. -/
def fnExactExtPowSpec : ChangeSpec := { name := "fnExactExtPow", fn := fun _ => fun
  | [d1, d2] => { results := [.lit (.bool true)], args := [d1, d2] }
  | _ => none }
def fnExactExtPowRow : OpenClaim := { program := "ytnggbahcmhdjnaa", sum := "adef098a741c20a09da7727d06fd8f2aa1457b1f967d02ece10d32833eb1aa4a", func := "loop.example/g00348/laws.FnExactExtPow", spec := "fnExactExtPow", apart := false }
def FnExactExtPowSaid : Prop := fnExactExtPowRow.holds Try.pinned (OpenSpec.ofChange fnExactExtPowSpec)

/-- ITS FALSE NEIGHBOUR: 'it returns false'. Refute it at one input. -/
def fnExactExtPowWrong : ChangeSpec := { name := "fnExactExtPow", fn := fun _ => fun
  | [d1, d2] => { results := [.lit (.bool false)], args := [d1, d2] }
  | _ => none }
def FnExactExtPowWrongFalsely : Prop := fnExactExtPowRow.holds Try.pinned (OpenSpec.ofChange fnExactExtPowWrong)

/-- 'laws.FnExactExtInverse': WHATEVER THE INPUT: true; the input reads as it did. -/
def fnExactExtInverseSpec : ChangeSpec := { name := "fnExactExtInverse", fn := fun _ => fun
  | [d] => { results := [.lit (.bool true)], args := [d] }
  | _ => none }
def fnExactExtInverseRow : OpenClaim := { program := "ytnggbahcmhdjnaa", sum := "adef098a741c20a09da7727d06fd8f2aa1457b1f967d02ece10d32833eb1aa4a", func := "loop.example/g00348/laws.FnExactExtInverse", spec := "fnExactExtInverse", apart := false }
def FnExactExtInverseSaid : Prop := fnExactExtInverseRow.holds Try.pinned (OpenSpec.ofChange fnExactExtInverseSpec)

/-- ITS FALSE NEIGHBOUR: 'it returns false'. Refute it at one input. -/
def fnExactExtInverseWrong : ChangeSpec := { name := "fnExactExtInverse", fn := fun _ => fun
  | [d] => { results := [.lit (.bool false)], args := [d] }
  | _ => none }
def FnExactExtInverseWrongFalsely : Prop := fnExactExtInverseRow.holds Try.pinned (OpenSpec.ofChange fnExactExtInverseWrong)

/-- 'laws.FnField': WHATEVER THE INPUT: true; the input reads as it did. -/
def fnFieldSpec : ChangeSpec := { name := "fnField", fn := fun _ => fun
  | [d1, d2] => { results := [.lit (.bool true)], args := [d1, d2] }
  | _ => none }
def fnFieldRow : OpenClaim := { program := "ytnggbahcmhdjnaa", sum := "adef098a741c20a09da7727d06fd8f2aa1457b1f967d02ece10d32833eb1aa4a", func := "loop.example/g00348/laws.FnField", spec := "fnField", unfollowed := true, recurses := true, apart := false }
def FnFieldSaid : Prop := fnFieldRow.holds Try.pinned (OpenSpec.ofChange fnFieldSpec)

/-- ITS FALSE NEIGHBOUR: 'it returns false'. Refute it at one input. -/
def fnFieldWrong : ChangeSpec := { name := "fnField", fn := fun _ => fun
  | [d1, d2] => { results := [.lit (.bool false)], args := [d1, d2] }
  | _ => none }
def FnFieldWrongFalsely : Prop := fnFieldRow.holds Try.pinned (OpenSpec.ofChange fnFieldWrong)

/-- 'laws.FnExt': WHATEVER THE INPUT: true; the input reads as it did. -/
def fnExtSpec : ChangeSpec := { name := "fnExt", fn := fun _ => fun
  | [d1, d2] => { results := [.lit (.bool true)], args := [d1, d2] }
  | _ => none }
def fnExtRow : OpenClaim := { program := "ytnggbahcmhdjnaa", sum := "adef098a741c20a09da7727d06fd8f2aa1457b1f967d02ece10d32833eb1aa4a", func := "loop.example/g00348/laws.FnExt", spec := "fnExt", unfollowed := true, recurses := true, apart := false }
def FnExtSaid : Prop := fnExtRow.holds Try.pinned (OpenSpec.ofChange fnExtSpec)

/-- ITS FALSE NEIGHBOUR: 'it returns false'. Refute it at one input. -/
def fnExtWrong : ChangeSpec := { name := "fnExt", fn := fun _ => fun
  | [d1, d2] => { results := [.lit (.bool false)], args := [d1, d2] }
  | _ => none }
def FnExtWrongFalsely : Prop := fnExtRow.holds Try.pinned (OpenSpec.ofChange fnExtWrong)

/-- 'laws.FnExactSourceOK': WHATEVER THE INPUT: true; the input reads as it did. -/
def fnExactSourceOKSpec : ChangeSpec := { name := "fnExactSourceOK", fn := fun _ => fun
  | [d] => { results := [.lit (.bool true)], args := [d] }
  | _ => none }
def fnExactSourceOKRow : OpenClaim := { program := "ytnggbahcmhdjnaa", sum := "adef098a741c20a09da7727d06fd8f2aa1457b1f967d02ece10d32833eb1aa4a", func := "loop.example/g00348/laws.FnExactSourceOK", spec := "fnExactSourceOK", unfollowed := true, recurses := true, apart := false }
def FnExactSourceOKSaid : Prop := fnExactSourceOKRow.holds Try.pinned (OpenSpec.ofChange fnExactSourceOKSpec)

/-- ITS FALSE NEIGHBOUR: 'it returns false'. Refute it at one input. -/
def fnExactSourceOKWrong : ChangeSpec := { name := "fnExactSourceOK", fn := fun _ => fun
  | [d] => { results := [.lit (.bool false)], args := [d] }
  | _ => none }
def FnExactSourceOKWrongFalsely : Prop := fnExactSourceOKRow.holds Try.pinned (OpenSpec.ofChange fnExactSourceOKWrong)

/-- 'laws.FnExactBatchInverse': WHATEVER THE INPUT: true; the input reads as it did. -/
def fnExactBatchInverseSpec : ChangeSpec := { name := "fnExactBatchInverse", fn := fun _ => fun
  | [d] => { results := [.lit (.bool true)], args := [d] }
  | _ => none }
def fnExactBatchInverseRow : OpenClaim := { program := "ytnggbahcmhdjnaa", sum := "adef098a741c20a09da7727d06fd8f2aa1457b1f967d02ece10d32833eb1aa4a", func := "loop.example/g00348/laws.FnExactBatchInverse", spec := "fnExactBatchInverse", unfollowed := true, recurses := true, apart := false }
def FnExactBatchInverseSaid : Prop := fnExactBatchInverseRow.holds Try.pinned (OpenSpec.ofChange fnExactBatchInverseSpec)

/-- ITS FALSE NEIGHBOUR: 'it returns false'. Refute it at one input. -/
def fnExactBatchInverseWrong : ChangeSpec := { name := "fnExactBatchInverse", fn := fun _ => fun
  | [d] => { results := [.lit (.bool false)], args := [d] }
  | _ => none }
def FnExactBatchInverseWrongFalsely : Prop := fnExactBatchInverseRow.holds Try.pinned (OpenSpec.ofChange fnExactBatchInverseWrong)

/-- 'laws.FnExactExtDot': WHATEVER THE INPUT: true; the input reads as it did. -/
def fnExactExtDotSpec : ChangeSpec := { name := "fnExactExtDot", fn := fun _ => fun
  | [d1, d2] => { results := [.lit (.bool true)], args := [d1, d2] }
  | _ => none }
def fnExactExtDotRow : OpenClaim := { program := "ytnggbahcmhdjnaa", sum := "adef098a741c20a09da7727d06fd8f2aa1457b1f967d02ece10d32833eb1aa4a", func := "loop.example/g00348/laws.FnExactExtDot", spec := "fnExactExtDot", unfollowed := true, recurses := true, apart := false }
def FnExactExtDotSaid : Prop := fnExactExtDotRow.holds Try.pinned (OpenSpec.ofChange fnExactExtDotSpec)

/-- ITS FALSE NEIGHBOUR: 'it returns false'. Refute it at one input. -/
def fnExactExtDotWrong : ChangeSpec := { name := "fnExactExtDot", fn := fun _ => fun
  | [d1, d2] => { results := [.lit (.bool false)], args := [d1, d2] }
  | _ => none }
def FnExactExtDotWrongFalsely : Prop := fnExactExtDotRow.holds Try.pinned (OpenSpec.ofChange fnExactExtDotWrong)

/-- 'laws.FnExactExtBytes': WHATEVER THE INPUT: true; the input reads as it did. -/
def fnExactExtBytesSpec : ChangeSpec := { name := "fnExactExtBytes", fn := fun _ => fun
  | [d] => { results := [.lit (.bool true)], args := [d] }
  | _ => none }
def fnExactExtBytesRow : OpenClaim := { program := "ytnggbahcmhdjnaa", sum := "adef098a741c20a09da7727d06fd8f2aa1457b1f967d02ece10d32833eb1aa4a", func := "loop.example/g00348/laws.FnExactExtBytes", spec := "fnExactExtBytes", unfollowed := true, recurses := true, apart := false }
def FnExactExtBytesSaid : Prop := fnExactExtBytesRow.holds Try.pinned (OpenSpec.ofChange fnExactExtBytesSpec)

/-- ITS FALSE NEIGHBOUR: 'it returns false'. Refute it at one input. -/
def fnExactExtBytesWrong : ChangeSpec := { name := "fnExactExtBytes", fn := fun _ => fun
  | [d] => { results := [.lit (.bool false)], args := [d] }
  | _ => none }
def FnExactExtBytesWrongFalsely : Prop := fnExactExtBytesRow.holds Try.pinned (OpenSpec.ofChange fnExactExtBytesWrong)

/-- 'laws.FnExactReadExts': WHATEVER THE INPUT: true; the input reads as it did. -/
def fnExactReadExtsSpec : ChangeSpec := { name := "fnExactReadExts", fn := fun _ => fun
  | [d] => { results := [.lit (.bool true)], args := [d] }
  | _ => none }
def fnExactReadExtsRow : OpenClaim := { program := "ytnggbahcmhdjnaa", sum := "adef098a741c20a09da7727d06fd8f2aa1457b1f967d02ece10d32833eb1aa4a", func := "loop.example/g00348/laws.FnExactReadExts", spec := "fnExactReadExts", unfollowed := true, recurses := true, apart := false }
def FnExactReadExtsSaid : Prop := fnExactReadExtsRow.holds Try.pinned (OpenSpec.ofChange fnExactReadExtsSpec)

/-- ITS FALSE NEIGHBOUR: 'it returns false'. Refute it at one input. -/
def fnExactReadExtsWrong : ChangeSpec := { name := "fnExactReadExts", fn := fun _ => fun
  | [d] => { results := [.lit (.bool false)], args := [d] }
  | _ => none }
def FnExactReadExtsWrongFalsely : Prop := fnExactReadExtsRow.holds Try.pinned (OpenSpec.ofChange fnExactReadExtsWrong)

/-- 'laws.FnPowers': WHATEVER THE INPUT: true; the input reads as it did. -/
def fnPowersSpec : ChangeSpec := { name := "fnPowers", fn := fun _ => fun
  | [d1, d2] => { results := [.lit (.bool true)], args := [d1, d2] }
  | _ => none }
def fnPowersRow : OpenClaim := { program := "ytnggbahcmhdjnaa", sum := "adef098a741c20a09da7727d06fd8f2aa1457b1f967d02ece10d32833eb1aa4a", func := "loop.example/g00348/laws.FnPowers", spec := "fnPowers", unfollowed := true, recurses := true, apart := false }
def FnPowersSaid : Prop := fnPowersRow.holds Try.pinned (OpenSpec.ofChange fnPowersSpec)

/-- ITS FALSE NEIGHBOUR: 'it returns false'. Refute it at one input. -/
def fnPowersWrong : ChangeSpec := { name := "fnPowers", fn := fun _ => fun
  | [d1, d2] => { results := [.lit (.bool false)], args := [d1, d2] }
  | _ => none }
def FnPowersWrongFalsely : Prop := fnPowersRow.holds Try.pinned (OpenSpec.ofChange fnPowersWrong)

/- THE SECOND FORM. 'bulk': how many values and letters a reading holds, each counted each time it is reached (what is shared counts as often as it is met; a slice's spare places count too). A statement '..UptoSaid' is the law's where the arguments, and the package variables that the reading takes, are together of bulk at most 1048576: NARROWER than '..Said'. Prove '..Said' where nothing that the law and all that it calls make is longer than what came in: it says more and counts as full. Else prove '..UptoSaid'. A law counts once. -/
mutual
def uptoBulk {H : Type} : DataW H → Nat
  | .lit (.string bytes) => bytes.length + 1
  | .lit _ => 1
  | .nil => 1
  | .ptr d => uptoBulk d + 1
  | .slice elems spare => uptoBulkAll elems + uptoBulkAll spare + 1
  | .agg parts => uptoBulkAll parts + 1
  | .iface _ d => uptoBulk d + 1
  | .map entries => uptoBulkEntries entries + 1
  | .held _ => 1
def uptoBulkAll {H : Type} : List (DataW H) → Nat
  | [] => 0
  | d :: r => uptoBulk d + uptoBulkAll r
def uptoBulkEntries {H : Type} : List (Lit × DataW H) → Nat
  | [] => 0
  | x :: r => uptoBulkEntry x + uptoBulkEntries r
def uptoBulkEntry {H : Type} : Lit × DataW H → Nat
  | (.string bytes, d) => bytes.length + uptoBulk d + 1
  | (_, d) => uptoBulk d + 1
 end
def uptoSmall : (H : Type) → List (DataW H) → Bool := fun _ ds => decide (uptoBulkAll ds ≤ 1048576)
def OpenSpec.upto (s : _root_.Go.ChangeSpec) : _root_.Go.OpenSpec := { _root_.Go.OpenSpec.ofChange s with cond := some uptoSmall }

/-- 'laws.FnExactExtAdd', WHERE WHAT IT READS IS OF BULK AT MOST 1048576: true; the input reads as it did. -/
def fnExactExtAddUptoRow : OpenClaim := { program := "ytnggbahcmhdjnaa", sum := "adef098a741c20a09da7727d06fd8f2aa1457b1f967d02ece10d32833eb1aa4a", func := "loop.example/g00348/laws.FnExactExtAdd", spec := "fnExactExtAdd", unfollowed := true, recurses := true, apart := false, narrowed := true }
def FnExactExtAddUptoSaid : Prop := fnExactExtAddUptoRow.holds Try.pinned (OpenSpec.upto fnExactExtAddSpec)

/-- 'laws.FnExactExtSub', WHERE WHAT IT READS IS OF BULK AT MOST 1048576: true; the input reads as it did. -/
def fnExactExtSubUptoRow : OpenClaim := { program := "ytnggbahcmhdjnaa", sum := "adef098a741c20a09da7727d06fd8f2aa1457b1f967d02ece10d32833eb1aa4a", func := "loop.example/g00348/laws.FnExactExtSub", spec := "fnExactExtSub", unfollowed := true, recurses := true, apart := false, narrowed := true }
def FnExactExtSubUptoSaid : Prop := fnExactExtSubUptoRow.holds Try.pinned (OpenSpec.upto fnExactExtSubSpec)

/-- 'laws.FnExactExtMul', WHERE WHAT IT READS IS OF BULK AT MOST 1048576: true; the input reads as it did. -/
def fnExactExtMulUptoRow : OpenClaim := { program := "ytnggbahcmhdjnaa", sum := "adef098a741c20a09da7727d06fd8f2aa1457b1f967d02ece10d32833eb1aa4a", func := "loop.example/g00348/laws.FnExactExtMul", spec := "fnExactExtMul", unfollowed := true, recurses := true, apart := false, narrowed := true }
def FnExactExtMulUptoSaid : Prop := fnExactExtMulUptoRow.holds Try.pinned (OpenSpec.upto fnExactExtMulSpec)

/-- 'laws.FnExactPow', WHERE WHAT IT READS IS OF BULK AT MOST 1048576: true; the input reads as it did. -/
def fnExactPowUptoRow : OpenClaim := { program := "ytnggbahcmhdjnaa", sum := "adef098a741c20a09da7727d06fd8f2aa1457b1f967d02ece10d32833eb1aa4a", func := "loop.example/g00348/laws.FnExactPow", spec := "fnExactPow", apart := false, narrowed := true }
def FnExactPowUptoSaid : Prop := fnExactPowUptoRow.holds Try.pinned (OpenSpec.upto fnExactPowSpec)

/-- 'laws.FnExactInverse', WHERE WHAT IT READS IS OF BULK AT MOST 1048576: true; the input reads as it did. -/
def fnExactInverseUptoRow : OpenClaim := { program := "ytnggbahcmhdjnaa", sum := "adef098a741c20a09da7727d06fd8f2aa1457b1f967d02ece10d32833eb1aa4a", func := "loop.example/g00348/laws.FnExactInverse", spec := "fnExactInverse", apart := false, narrowed := true }
def FnExactInverseUptoSaid : Prop := fnExactInverseUptoRow.holds Try.pinned (OpenSpec.upto fnExactInverseSpec)

/-- 'laws.FnRoots', WHERE WHAT IT READS IS OF BULK AT MOST 1048576: true; the input reads as it did. -/
def fnRootsUptoRow : OpenClaim := { program := "ytnggbahcmhdjnaa", sum := "adef098a741c20a09da7727d06fd8f2aa1457b1f967d02ece10d32833eb1aa4a", func := "loop.example/g00348/laws.FnRoots", spec := "fnRoots", unfollowed := true, recurses := true, apart := false, narrowed := true }
def FnRootsUptoSaid : Prop := fnRootsUptoRow.holds Try.pinned (OpenSpec.upto fnRootsSpec)

/-- 'laws.FnExactExtPow', WHERE WHAT IT READS IS OF BULK AT MOST 1048576: true; the input reads as it did. -/
def fnExactExtPowUptoRow : OpenClaim := { program := "ytnggbahcmhdjnaa", sum := "adef098a741c20a09da7727d06fd8f2aa1457b1f967d02ece10d32833eb1aa4a", func := "loop.example/g00348/laws.FnExactExtPow", spec := "fnExactExtPow", apart := false, narrowed := true }
def FnExactExtPowUptoSaid : Prop := fnExactExtPowUptoRow.holds Try.pinned (OpenSpec.upto fnExactExtPowSpec)

/-- 'laws.FnExactExtInverse', WHERE WHAT IT READS IS OF BULK AT MOST 1048576: true; the input reads as it did. -/
def fnExactExtInverseUptoRow : OpenClaim := { program := "ytnggbahcmhdjnaa", sum := "adef098a741c20a09da7727d06fd8f2aa1457b1f967d02ece10d32833eb1aa4a", func := "loop.example/g00348/laws.FnExactExtInverse", spec := "fnExactExtInverse", apart := false, narrowed := true }
def FnExactExtInverseUptoSaid : Prop := fnExactExtInverseUptoRow.holds Try.pinned (OpenSpec.upto fnExactExtInverseSpec)

/-- 'laws.FnField', WHERE WHAT IT READS IS OF BULK AT MOST 1048576: true; the input reads as it did. -/
def fnFieldUptoRow : OpenClaim := { program := "ytnggbahcmhdjnaa", sum := "adef098a741c20a09da7727d06fd8f2aa1457b1f967d02ece10d32833eb1aa4a", func := "loop.example/g00348/laws.FnField", spec := "fnField", unfollowed := true, recurses := true, apart := false, narrowed := true }
def FnFieldUptoSaid : Prop := fnFieldUptoRow.holds Try.pinned (OpenSpec.upto fnFieldSpec)

/-- 'laws.FnExt', WHERE WHAT IT READS IS OF BULK AT MOST 1048576: true; the input reads as it did. -/
def fnExtUptoRow : OpenClaim := { program := "ytnggbahcmhdjnaa", sum := "adef098a741c20a09da7727d06fd8f2aa1457b1f967d02ece10d32833eb1aa4a", func := "loop.example/g00348/laws.FnExt", spec := "fnExt", unfollowed := true, recurses := true, apart := false, narrowed := true }
def FnExtUptoSaid : Prop := fnExtUptoRow.holds Try.pinned (OpenSpec.upto fnExtSpec)

/-- 'laws.FnExactSourceOK', WHERE WHAT IT READS IS OF BULK AT MOST 1048576: true; the input reads as it did. -/
def fnExactSourceOKUptoRow : OpenClaim := { program := "ytnggbahcmhdjnaa", sum := "adef098a741c20a09da7727d06fd8f2aa1457b1f967d02ece10d32833eb1aa4a", func := "loop.example/g00348/laws.FnExactSourceOK", spec := "fnExactSourceOK", unfollowed := true, recurses := true, apart := false, narrowed := true }
def FnExactSourceOKUptoSaid : Prop := fnExactSourceOKUptoRow.holds Try.pinned (OpenSpec.upto fnExactSourceOKSpec)

/-- 'laws.FnExactBatchInverse', WHERE WHAT IT READS IS OF BULK AT MOST 1048576: true; the input reads as it did. -/
def fnExactBatchInverseUptoRow : OpenClaim := { program := "ytnggbahcmhdjnaa", sum := "adef098a741c20a09da7727d06fd8f2aa1457b1f967d02ece10d32833eb1aa4a", func := "loop.example/g00348/laws.FnExactBatchInverse", spec := "fnExactBatchInverse", unfollowed := true, recurses := true, apart := false, narrowed := true }
def FnExactBatchInverseUptoSaid : Prop := fnExactBatchInverseUptoRow.holds Try.pinned (OpenSpec.upto fnExactBatchInverseSpec)

/-- 'laws.FnExactExtDot', WHERE WHAT IT READS IS OF BULK AT MOST 1048576: true; the input reads as it did. -/
def fnExactExtDotUptoRow : OpenClaim := { program := "ytnggbahcmhdjnaa", sum := "adef098a741c20a09da7727d06fd8f2aa1457b1f967d02ece10d32833eb1aa4a", func := "loop.example/g00348/laws.FnExactExtDot", spec := "fnExactExtDot", unfollowed := true, recurses := true, apart := false, narrowed := true }
def FnExactExtDotUptoSaid : Prop := fnExactExtDotUptoRow.holds Try.pinned (OpenSpec.upto fnExactExtDotSpec)

/-- 'laws.FnExactExtBytes', WHERE WHAT IT READS IS OF BULK AT MOST 1048576: true; the input reads as it did. -/
def fnExactExtBytesUptoRow : OpenClaim := { program := "ytnggbahcmhdjnaa", sum := "adef098a741c20a09da7727d06fd8f2aa1457b1f967d02ece10d32833eb1aa4a", func := "loop.example/g00348/laws.FnExactExtBytes", spec := "fnExactExtBytes", unfollowed := true, recurses := true, apart := false, narrowed := true }
def FnExactExtBytesUptoSaid : Prop := fnExactExtBytesUptoRow.holds Try.pinned (OpenSpec.upto fnExactExtBytesSpec)

/-- 'laws.FnExactReadExts', WHERE WHAT IT READS IS OF BULK AT MOST 1048576: true; the input reads as it did. -/
def fnExactReadExtsUptoRow : OpenClaim := { program := "ytnggbahcmhdjnaa", sum := "adef098a741c20a09da7727d06fd8f2aa1457b1f967d02ece10d32833eb1aa4a", func := "loop.example/g00348/laws.FnExactReadExts", spec := "fnExactReadExts", unfollowed := true, recurses := true, apart := false, narrowed := true }
def FnExactReadExtsUptoSaid : Prop := fnExactReadExtsUptoRow.holds Try.pinned (OpenSpec.upto fnExactReadExtsSpec)

/-- 'laws.FnPowers', WHERE WHAT IT READS IS OF BULK AT MOST 1048576: true; the input reads as it did. -/
def fnPowersUptoRow : OpenClaim := { program := "ytnggbahcmhdjnaa", sum := "adef098a741c20a09da7727d06fd8f2aa1457b1f967d02ece10d32833eb1aa4a", func := "loop.example/g00348/laws.FnPowers", spec := "fnPowers", unfollowed := true, recurses := true, apart := false, narrowed := true }
def FnPowersUptoSaid : Prop := fnPowersUptoRow.holds Try.pinned (OpenSpec.upto fnPowersSpec)

end Rows
end Go.Proofs.Ytnggbahcmhdjnaa
