/-
  No cell of these rows narrows 'for every input' (looked for: loops, veiled, ifaces, maps, wideKeys, modest, calm, conditions, laid).
  DERIVED. THE GIVEN ROWS OF THIS SEAT. 12 by the template 'for every input the law returns true; each argument reads behind the call as it read before'; 0 by the template 'total and deterministic' (their statements: YtgagjilenbbajaaTotals.lean).
  GIVEN WITH THE SEED: the statements are not yours to turn. If you find one false, say at which input.
  Laid BY PROGRAM, IN A SANDBOX (cutbox-rows.mjs): the forced cells as the released guide's own fill.sh prints them over the translation c9a19b2551260be6… (all of the seat's roots in one cut). By AI agents, Wed Nov 11 2026. No macro, syntax, notation, axiom, sorry.
-/
import Derived.Test.YtgagjilenbbajaaChecked
import GoSem.Claim
import GoSem.ClaimJoined
import GoSem.ClaimMapViews
import Derived.JoinedTies
import Derived.KernelRfl
namespace Go.Proofs.Ytgagjilenbbajaa
/- THE CELL 'sum', in the pinned program and in every row, IS THE sha256 OF THE DUMP (.gsa) THAT YtgagjilenbbajaaProg.lean LOADS. Nothing in Lean hashes anything: it is a label: what it is worth is what the hold of that sum in a sandbox is worth. -/
noncomputable def Try.pinned : Pinned := { name := "ytgagjilenbbajaa", sum := "c9a19b2551260be64ee2231b1c16016abbef1fcb6e4189abc1c12f12ae2a815e", checked := Try.checked }
namespace Rows
def none {H : Type} : Left H := { results := [], args := [] }

/-- 'laws.FnExactConstants': WHATEVER THE INPUT: true; the input reads as it did. -/
def fnExactConstantsSpec : ChangeSpec := { name := "fnExactConstants", fn := fun _ => fun
  | [] => { results := [.lit (.bool true)], args := [] }
  | _ => none }
def fnExactConstantsRow : OpenClaim := { program := "ytgagjilenbbajaa", sum := "c9a19b2551260be64ee2231b1c16016abbef1fcb6e4189abc1c12f12ae2a815e", func := "loop.example/g00348/laws.FnExactConstants", spec := "fnExactConstants", apart := false }
def FnExactConstantsSaid : Prop := fnExactConstantsRow.holds Try.pinned (OpenSpec.ofChange fnExactConstantsSpec)

/-- ITS FALSE NEIGHBOUR: 'it returns false'. Refute it at one input. -/
def fnExactConstantsWrong : ChangeSpec := { name := "fnExactConstants", fn := fun _ => fun
  | [] => { results := [.lit (.bool false)], args := [] }
  | _ => none }
def FnExactConstantsWrongFalsely : Prop := fnExactConstantsRow.holds Try.pinned (OpenSpec.ofChange fnExactConstantsWrong)

/-- 'laws.FnExactFieldOK': WHATEVER THE INPUT: true; the input reads as it did. -/
def fnExactFieldOKSpec : ChangeSpec := { name := "fnExactFieldOK", fn := fun _ => fun
  | [d] => { results := [.lit (.bool true)], args := [d] }
  | _ => none }
def fnExactFieldOKRow : OpenClaim := { program := "ytgagjilenbbajaa", sum := "c9a19b2551260be64ee2231b1c16016abbef1fcb6e4189abc1c12f12ae2a815e", func := "loop.example/g00348/laws.FnExactFieldOK", spec := "fnExactFieldOK", apart := false }
def FnExactFieldOKSaid : Prop := fnExactFieldOKRow.holds Try.pinned (OpenSpec.ofChange fnExactFieldOKSpec)

/-- ITS FALSE NEIGHBOUR: 'it returns false'. Refute it at one input. -/
def fnExactFieldOKWrong : ChangeSpec := { name := "fnExactFieldOK", fn := fun _ => fun
  | [d] => { results := [.lit (.bool false)], args := [d] }
  | _ => none }
def FnExactFieldOKWrongFalsely : Prop := fnExactFieldOKRow.holds Try.pinned (OpenSpec.ofChange fnExactFieldOKWrong)

/-- 'laws.FnExactExtOK': WHATEVER THE INPUT: true; the input reads as it did. -/
def fnExactExtOKSpec : ChangeSpec := { name := "fnExactExtOK", fn := fun _ => fun
  | [d] => { results := [.lit (.bool true)], args := [d] }
  | _ => none }
def fnExactExtOKRow : OpenClaim := { program := "ytgagjilenbbajaa", sum := "c9a19b2551260be64ee2231b1c16016abbef1fcb6e4189abc1c12f12ae2a815e", func := "loop.example/g00348/laws.FnExactExtOK", spec := "fnExactExtOK", apart := false }
def FnExactExtOKSaid : Prop := fnExactExtOKRow.holds Try.pinned (OpenSpec.ofChange fnExactExtOKSpec)

/-- ITS FALSE NEIGHBOUR: 'it returns false'. Refute it at one input. -/
def fnExactExtOKWrong : ChangeSpec := { name := "fnExactExtOK", fn := fun _ => fun
  | [d] => { results := [.lit (.bool false)], args := [d] }
  | _ => none }
def FnExactExtOKWrongFalsely : Prop := fnExactExtOKRow.holds Try.pinned (OpenSpec.ofChange fnExactExtOKWrong)

/-- 'laws.FnExactKeccakCalls': WHATEVER THE INPUT: true; the input reads as it did. -/
def fnExactKeccakCallsSpec : ChangeSpec := { name := "fnExactKeccakCalls", fn := fun _ => fun
  | [d] => { results := [.lit (.bool true)], args := [d] }
  | _ => none }
def fnExactKeccakCallsRow : OpenClaim := { program := "ytgagjilenbbajaa", sum := "c9a19b2551260be64ee2231b1c16016abbef1fcb6e4189abc1c12f12ae2a815e", func := "loop.example/g00348/laws.FnExactKeccakCalls", spec := "fnExactKeccakCalls", apart := false }
def FnExactKeccakCallsSaid : Prop := fnExactKeccakCallsRow.holds Try.pinned (OpenSpec.ofChange fnExactKeccakCallsSpec)

/-- ITS FALSE NEIGHBOUR: 'it returns false'. Refute it at one input. -/
def fnExactKeccakCallsWrong : ChangeSpec := { name := "fnExactKeccakCalls", fn := fun _ => fun
  | [d] => { results := [.lit (.bool false)], args := [d] }
  | _ => none }
def FnExactKeccakCallsWrongFalsely : Prop := fnExactKeccakCallsRow.holds Try.pinned (OpenSpec.ofChange fnExactKeccakCallsWrong)

/-- 'laws.FnExactCodeWord': WHATEVER THE INPUT: true; the input reads as it did. -/
def fnExactCodeWordSpec : ChangeSpec := { name := "fnExactCodeWord", fn := fun _ => fun
  | [d] => { results := [.lit (.bool true)], args := [d] }
  | _ => none }
def fnExactCodeWordRow : OpenClaim := { program := "ytgagjilenbbajaa", sum := "c9a19b2551260be64ee2231b1c16016abbef1fcb6e4189abc1c12f12ae2a815e", func := "loop.example/g00348/laws.FnExactCodeWord", spec := "fnExactCodeWord", apart := false }
def FnExactCodeWordSaid : Prop := fnExactCodeWordRow.holds Try.pinned (OpenSpec.ofChange fnExactCodeWordSpec)

/-- ITS FALSE NEIGHBOUR: 'it returns false'. Refute it at one input. -/
def fnExactCodeWordWrong : ChangeSpec := { name := "fnExactCodeWord", fn := fun _ => fun
  | [d] => { results := [.lit (.bool false)], args := [d] }
  | _ => none }
def FnExactCodeWordWrongFalsely : Prop := fnExactCodeWordRow.holds Try.pinned (OpenSpec.ofChange fnExactCodeWordWrong)

/-- 'laws.FnExactCodeOf': WHATEVER THE INPUT: true; the input reads as it did. -/
def fnExactCodeOfSpec : ChangeSpec := { name := "fnExactCodeOf", fn := fun _ => fun
  | [d] => { results := [.lit (.bool true)], args := [d] }
  | _ => none }
def fnExactCodeOfRow : OpenClaim := { program := "ytgagjilenbbajaa", sum := "c9a19b2551260be64ee2231b1c16016abbef1fcb6e4189abc1c12f12ae2a815e", func := "loop.example/g00348/laws.FnExactCodeOf", spec := "fnExactCodeOf", apart := false }
def FnExactCodeOfSaid : Prop := fnExactCodeOfRow.holds Try.pinned (OpenSpec.ofChange fnExactCodeOfSpec)

/-- ITS FALSE NEIGHBOUR: 'it returns false'. Refute it at one input. -/
def fnExactCodeOfWrong : ChangeSpec := { name := "fnExactCodeOf", fn := fun _ => fun
  | [d] => { results := [.lit (.bool false)], args := [d] }
  | _ => none }
def FnExactCodeOfWrongFalsely : Prop := fnExactCodeOfRow.holds Try.pinned (OpenSpec.ofChange fnExactCodeOfWrong)

/-- 'laws.FnExactHashText': WHATEVER THE INPUT: true; the input reads as it did. -/
def fnExactHashTextSpec : ChangeSpec := { name := "fnExactHashText", fn := fun _ => fun
  | [d] => { results := [.lit (.bool true)], args := [d] }
  | _ => none }
def fnExactHashTextRow : OpenClaim := { program := "ytgagjilenbbajaa", sum := "c9a19b2551260be64ee2231b1c16016abbef1fcb6e4189abc1c12f12ae2a815e", func := "loop.example/g00348/laws.FnExactHashText", spec := "fnExactHashText", apart := false }
def FnExactHashTextSaid : Prop := fnExactHashTextRow.holds Try.pinned (OpenSpec.ofChange fnExactHashTextSpec)

/-- ITS FALSE NEIGHBOUR: 'it returns false'. Refute it at one input. -/
def fnExactHashTextWrong : ChangeSpec := { name := "fnExactHashText", fn := fun _ => fun
  | [d] => { results := [.lit (.bool false)], args := [d] }
  | _ => none }
def FnExactHashTextWrongFalsely : Prop := fnExactHashTextRow.holds Try.pinned (OpenSpec.ofChange fnExactHashTextWrong)

/-- 'laws.FnExactAdd': WHATEVER THE INPUT: true; the input reads as it did. -/
def fnExactAddSpec : ChangeSpec := { name := "fnExactAdd", fn := fun _ => fun
  | [d1, d2] => { results := [.lit (.bool true)], args := [d1, d2] }
  | _ => none }
def fnExactAddRow : OpenClaim := { program := "ytgagjilenbbajaa", sum := "c9a19b2551260be64ee2231b1c16016abbef1fcb6e4189abc1c12f12ae2a815e", func := "loop.example/g00348/laws.FnExactAdd", spec := "fnExactAdd", unfollowed := true, recurses := true, apart := false }
def FnExactAddSaid : Prop := fnExactAddRow.holds Try.pinned (OpenSpec.ofChange fnExactAddSpec)

/-- ITS FALSE NEIGHBOUR: 'it returns false'. Refute it at one input. -/
def fnExactAddWrong : ChangeSpec := { name := "fnExactAdd", fn := fun _ => fun
  | [d1, d2] => { results := [.lit (.bool false)], args := [d1, d2] }
  | _ => none }
def FnExactAddWrongFalsely : Prop := fnExactAddRow.holds Try.pinned (OpenSpec.ofChange fnExactAddWrong)

/-- 'laws.FnExactMul': WHATEVER THE INPUT: true; the input reads as it did. -/
def fnExactMulSpec : ChangeSpec := { name := "fnExactMul", fn := fun _ => fun
  | [d1, d2] => { results := [.lit (.bool true)], args := [d1, d2] }
  | _ => none }
def fnExactMulRow : OpenClaim := { program := "ytgagjilenbbajaa", sum := "c9a19b2551260be64ee2231b1c16016abbef1fcb6e4189abc1c12f12ae2a815e", func := "loop.example/g00348/laws.FnExactMul", spec := "fnExactMul", unfollowed := true, recurses := true, apart := false }
def FnExactMulSaid : Prop := fnExactMulRow.holds Try.pinned (OpenSpec.ofChange fnExactMulSpec)

/-- ITS FALSE NEIGHBOUR: 'it returns false'. Refute it at one input. -/
def fnExactMulWrong : ChangeSpec := { name := "fnExactMul", fn := fun _ => fun
  | [d1, d2] => { results := [.lit (.bool false)], args := [d1, d2] }
  | _ => none }
def FnExactMulWrongFalsely : Prop := fnExactMulRow.holds Try.pinned (OpenSpec.ofChange fnExactMulWrong)

/-- 'laws.FnExactSub': WHATEVER THE INPUT: true; the input reads as it did. -/
def fnExactSubSpec : ChangeSpec := { name := "fnExactSub", fn := fun _ => fun
  | [d1, d2] => { results := [.lit (.bool true)], args := [d1, d2] }
  | _ => none }
def fnExactSubRow : OpenClaim := { program := "ytgagjilenbbajaa", sum := "c9a19b2551260be64ee2231b1c16016abbef1fcb6e4189abc1c12f12ae2a815e", func := "loop.example/g00348/laws.FnExactSub", spec := "fnExactSub", unfollowed := true, recurses := true, apart := false }
def FnExactSubSaid : Prop := fnExactSubRow.holds Try.pinned (OpenSpec.ofChange fnExactSubSpec)

/-- ITS FALSE NEIGHBOUR: 'it returns false'. Refute it at one input. -/
def fnExactSubWrong : ChangeSpec := { name := "fnExactSub", fn := fun _ => fun
  | [d1, d2] => { results := [.lit (.bool false)], args := [d1, d2] }
  | _ => none }
def FnExactSubWrongFalsely : Prop := fnExactSubRow.holds Try.pinned (OpenSpec.ofChange fnExactSubWrong)

/-- 'laws.FnExactNorm': WHATEVER THE INPUT: true; the input reads as it did. -/
def fnExactNormSpec : ChangeSpec := { name := "fnExactNorm", fn := fun _ => fun
  | [d] => { results := [.lit (.bool true)], args := [d] }
  | _ => none }
def fnExactNormRow : OpenClaim := { program := "ytgagjilenbbajaa", sum := "c9a19b2551260be64ee2231b1c16016abbef1fcb6e4189abc1c12f12ae2a815e", func := "loop.example/g00348/laws.FnExactNorm", spec := "fnExactNorm", apart := false }
def FnExactNormSaid : Prop := fnExactNormRow.holds Try.pinned (OpenSpec.ofChange fnExactNormSpec)

/-- ITS FALSE NEIGHBOUR: 'it returns false'. Refute it at one input. -/
def fnExactNormWrong : ChangeSpec := { name := "fnExactNorm", fn := fun _ => fun
  | [d] => { results := [.lit (.bool false)], args := [d] }
  | _ => none }
def FnExactNormWrongFalsely : Prop := fnExactNormRow.holds Try.pinned (OpenSpec.ofChange fnExactNormWrong)

/-- 'laws.FnExactRootOf': WHATEVER THE INPUT: true; the input reads as it did. -/
def fnExactRootOfSpec : ChangeSpec := { name := "fnExactRootOf", fn := fun _ => fun
  | [d] => { results := [.lit (.bool true)], args := [d] }
  | _ => none }
def fnExactRootOfRow : OpenClaim := { program := "ytgagjilenbbajaa", sum := "c9a19b2551260be64ee2231b1c16016abbef1fcb6e4189abc1c12f12ae2a815e", func := "loop.example/g00348/laws.FnExactRootOf", spec := "fnExactRootOf", apart := false }
def FnExactRootOfSaid : Prop := fnExactRootOfRow.holds Try.pinned (OpenSpec.ofChange fnExactRootOfSpec)

/-- ITS FALSE NEIGHBOUR: 'it returns false'. Refute it at one input. -/
def fnExactRootOfWrong : ChangeSpec := { name := "fnExactRootOf", fn := fun _ => fun
  | [d] => { results := [.lit (.bool false)], args := [d] }
  | _ => none }
def FnExactRootOfWrongFalsely : Prop := fnExactRootOfRow.holds Try.pinned (OpenSpec.ofChange fnExactRootOfWrong)

/- THE SECOND FORM. 'bulk': how many values and letters a reading holds, each counted each time it is reached (what is shared counts as often as it is met; a slice's spare places count too). A statement '..UptoSaid' is the law's where the arguments, and the package variables that the reading takes, are together of bulk at most 1048576: NARROWER than '..Said'. Prove '..Said' where nothing that the law and all that it calls make is longer than what came in: it says more and counts as full. Else prove '..UptoSaid'. A law counts once. -/
mutual
def uptoBulk {H : Type} : DataW H → Nat
  | .lit (.string bytes) => bytes.length + 1
  | .lit _ => 1
  | .nil => 1
  | .ptr d => uptoBulk d + 1
  | .slice elems spare => uptoBulkAll elems + uptoBulkAll spare + 1
  | .agg parts => uptoBulkAll parts + 1
  | .iface _ d => uptoBulk d + 1
  | .map entries => uptoBulkEntries entries + 1
  | .held _ => 1
def uptoBulkAll {H : Type} : List (DataW H) → Nat
  | [] => 0
  | d :: r => uptoBulk d + uptoBulkAll r
def uptoBulkEntries {H : Type} : List (Lit × DataW H) → Nat
  | [] => 0
  | x :: r => uptoBulkEntry x + uptoBulkEntries r
def uptoBulkEntry {H : Type} : Lit × DataW H → Nat
  | (.string bytes, d) => bytes.length + uptoBulk d + 1
  | (_, d) => uptoBulk d + 1
 end
def uptoSmall : (H : Type) → List (DataW H) → Bool := fun _ ds => decide (uptoBulkAll ds ≤ 1048576)
def OpenSpec.upto (s : _root_.Go.ChangeSpec) : _root_.Go.OpenSpec := { _root_.Go.OpenSpec.ofChange s with cond := some uptoSmall }

/-- 'laws.FnExactConstants', WHERE WHAT IT READS IS OF BULK AT MOST 1048576: true; the input reads as it did. -/
def fnExactConstantsUptoRow : OpenClaim := { program := "ytgagjilenbbajaa", sum := "c9a19b2551260be64ee2231b1c16016abbef1fcb6e4189abc1c12f12ae2a815e", func := "loop.example/g00348/laws.FnExactConstants", spec := "fnExactConstants", apart := false, narrowed := true }
def FnExactConstantsUptoSaid : Prop := fnExactConstantsUptoRow.holds Try.pinned (OpenSpec.upto fnExactConstantsSpec)

/-- 'laws.FnExactFieldOK', WHERE WHAT IT READS IS OF BULK AT MOST 1048576: true; the input reads as it did. -/
def fnExactFieldOKUptoRow : OpenClaim := { program := "ytgagjilenbbajaa", sum := "c9a19b2551260be64ee2231b1c16016abbef1fcb6e4189abc1c12f12ae2a815e", func := "loop.example/g00348/laws.FnExactFieldOK", spec := "fnExactFieldOK", apart := false, narrowed := true }
def FnExactFieldOKUptoSaid : Prop := fnExactFieldOKUptoRow.holds Try.pinned (OpenSpec.upto fnExactFieldOKSpec)

/-- 'laws.FnExactExtOK', WHERE WHAT IT READS IS OF BULK AT MOST 1048576: true; the input reads as it did. -/
def fnExactExtOKUptoRow : OpenClaim := { program := "ytgagjilenbbajaa", sum := "c9a19b2551260be64ee2231b1c16016abbef1fcb6e4189abc1c12f12ae2a815e", func := "loop.example/g00348/laws.FnExactExtOK", spec := "fnExactExtOK", apart := false, narrowed := true }
def FnExactExtOKUptoSaid : Prop := fnExactExtOKUptoRow.holds Try.pinned (OpenSpec.upto fnExactExtOKSpec)

/-- 'laws.FnExactKeccakCalls', WHERE WHAT IT READS IS OF BULK AT MOST 1048576: true; the input reads as it did. -/
def fnExactKeccakCallsUptoRow : OpenClaim := { program := "ytgagjilenbbajaa", sum := "c9a19b2551260be64ee2231b1c16016abbef1fcb6e4189abc1c12f12ae2a815e", func := "loop.example/g00348/laws.FnExactKeccakCalls", spec := "fnExactKeccakCalls", apart := false, narrowed := true }
def FnExactKeccakCallsUptoSaid : Prop := fnExactKeccakCallsUptoRow.holds Try.pinned (OpenSpec.upto fnExactKeccakCallsSpec)

/-- 'laws.FnExactCodeWord', WHERE WHAT IT READS IS OF BULK AT MOST 1048576: true; the input reads as it did. -/
def fnExactCodeWordUptoRow : OpenClaim := { program := "ytgagjilenbbajaa", sum := "c9a19b2551260be64ee2231b1c16016abbef1fcb6e4189abc1c12f12ae2a815e", func := "loop.example/g00348/laws.FnExactCodeWord", spec := "fnExactCodeWord", apart := false, narrowed := true }
def FnExactCodeWordUptoSaid : Prop := fnExactCodeWordUptoRow.holds Try.pinned (OpenSpec.upto fnExactCodeWordSpec)

/-- 'laws.FnExactCodeOf', WHERE WHAT IT READS IS OF BULK AT MOST 1048576: true; the input reads as it did. -/
def fnExactCodeOfUptoRow : OpenClaim := { program := "ytgagjilenbbajaa", sum := "c9a19b2551260be64ee2231b1c16016abbef1fcb6e4189abc1c12f12ae2a815e", func := "loop.example/g00348/laws.FnExactCodeOf", spec := "fnExactCodeOf", apart := false, narrowed := true }
def FnExactCodeOfUptoSaid : Prop := fnExactCodeOfUptoRow.holds Try.pinned (OpenSpec.upto fnExactCodeOfSpec)

/-- 'laws.FnExactHashText', WHERE WHAT IT READS IS OF BULK AT MOST 1048576: true; the input reads as it did. -/
def fnExactHashTextUptoRow : OpenClaim := { program := "ytgagjilenbbajaa", sum := "c9a19b2551260be64ee2231b1c16016abbef1fcb6e4189abc1c12f12ae2a815e", func := "loop.example/g00348/laws.FnExactHashText", spec := "fnExactHashText", apart := false, narrowed := true }
def FnExactHashTextUptoSaid : Prop := fnExactHashTextUptoRow.holds Try.pinned (OpenSpec.upto fnExactHashTextSpec)

/-- 'laws.FnExactAdd', WHERE WHAT IT READS IS OF BULK AT MOST 1048576: true; the input reads as it did. -/
def fnExactAddUptoRow : OpenClaim := { program := "ytgagjilenbbajaa", sum := "c9a19b2551260be64ee2231b1c16016abbef1fcb6e4189abc1c12f12ae2a815e", func := "loop.example/g00348/laws.FnExactAdd", spec := "fnExactAdd", unfollowed := true, recurses := true, apart := false, narrowed := true }
def FnExactAddUptoSaid : Prop := fnExactAddUptoRow.holds Try.pinned (OpenSpec.upto fnExactAddSpec)

/-- 'laws.FnExactMul', WHERE WHAT IT READS IS OF BULK AT MOST 1048576: true; the input reads as it did. -/
def fnExactMulUptoRow : OpenClaim := { program := "ytgagjilenbbajaa", sum := "c9a19b2551260be64ee2231b1c16016abbef1fcb6e4189abc1c12f12ae2a815e", func := "loop.example/g00348/laws.FnExactMul", spec := "fnExactMul", unfollowed := true, recurses := true, apart := false, narrowed := true }
def FnExactMulUptoSaid : Prop := fnExactMulUptoRow.holds Try.pinned (OpenSpec.upto fnExactMulSpec)

/-- 'laws.FnExactSub', WHERE WHAT IT READS IS OF BULK AT MOST 1048576: true; the input reads as it did. -/
def fnExactSubUptoRow : OpenClaim := { program := "ytgagjilenbbajaa", sum := "c9a19b2551260be64ee2231b1c16016abbef1fcb6e4189abc1c12f12ae2a815e", func := "loop.example/g00348/laws.FnExactSub", spec := "fnExactSub", unfollowed := true, recurses := true, apart := false, narrowed := true }
def FnExactSubUptoSaid : Prop := fnExactSubUptoRow.holds Try.pinned (OpenSpec.upto fnExactSubSpec)

/-- 'laws.FnExactNorm', WHERE WHAT IT READS IS OF BULK AT MOST 1048576: true; the input reads as it did. -/
def fnExactNormUptoRow : OpenClaim := { program := "ytgagjilenbbajaa", sum := "c9a19b2551260be64ee2231b1c16016abbef1fcb6e4189abc1c12f12ae2a815e", func := "loop.example/g00348/laws.FnExactNorm", spec := "fnExactNorm", apart := false, narrowed := true }
def FnExactNormUptoSaid : Prop := fnExactNormUptoRow.holds Try.pinned (OpenSpec.upto fnExactNormSpec)

/-- 'laws.FnExactRootOf', WHERE WHAT IT READS IS OF BULK AT MOST 1048576: true; the input reads as it did. -/
def fnExactRootOfUptoRow : OpenClaim := { program := "ytgagjilenbbajaa", sum := "c9a19b2551260be64ee2231b1c16016abbef1fcb6e4189abc1c12f12ae2a815e", func := "loop.example/g00348/laws.FnExactRootOf", spec := "fnExactRootOf", apart := false, narrowed := true }
def FnExactRootOfUptoSaid : Prop := fnExactRootOfUptoRow.holds Try.pinned (OpenSpec.upto fnExactRootOfSpec)

end Rows
end Go.Proofs.Ytgagjilenbbajaa
