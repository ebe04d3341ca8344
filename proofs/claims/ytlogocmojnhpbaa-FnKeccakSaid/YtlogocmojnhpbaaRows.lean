/-
  No cell of these rows narrows 'for every input' (looked for: loops, veiled, ifaces, maps, wideKeys, modest, calm, conditions, laid).
  DERIVED. THE GIVEN ROWS OF THIS SEAT. 18 by the template 'for every input the law returns true; each argument reads behind the call as it read before'; 0 by the template 'total and deterministic' (their statements: YtlogocmojnhpbaaTotals.lean).
  GIVEN WITH THE SEED: the statements are not yours to turn. If you find one false, say at which input.
  Laid BY PROGRAM, IN A SANDBOX (cutbox-rows.mjs): the forced cells as the released guide's own fill.sh prints them over the translation 1924f9d3b597263c… (all of the seat's roots in one cut). By AI agents, Wed Nov 11 2026. No macro, syntax, notation, axiom, sorry.
-/
import Derived.Test.YtlogocmojnhpbaaChecked
import GoSem.Claim
import GoSem.ClaimJoined
import GoSem.ClaimMapViews
import Derived.JoinedTies
import Derived.KernelRfl
namespace Go.Proofs.Ytlogocmojnhpbaa
/- THE CELL 'sum', in the pinned program and in every row, IS THE sha256 OF THE DUMP (.gsa) THAT YtlogocmojnhpbaaProg.lean LOADS. Nothing in Lean hashes anything: it is a label: what it is worth is what the hold of that sum in a sandbox is worth. -/
noncomputable def Try.pinned : Pinned := { name := "ytlogocmojnhpbaa", sum := "1924f9d3b597263c3a36c48deb01f7d46fad87631635b7477ebf4378295f18dc", checked := Try.checked }
namespace Rows
def none {H : Type} : Left H := { results := [], args := [] }

/-- 'laws.FnExactPermute': WHATEVER THE INPUT: true; the input reads as it did. -/
def fnExactPermuteSpec : ChangeSpec := { name := "fnExactPermute", fn := fun _ => fun
  | [d] => { results := [.lit (.bool true)], args := [d] }
  | _ => none }
def fnExactPermuteRow : OpenClaim := { program := "ytlogocmojnhpbaa", sum := "1924f9d3b597263c3a36c48deb01f7d46fad87631635b7477ebf4378295f18dc", func := "loop.example/g00348/laws.FnExactPermute", spec := "fnExactPermute", apart := false }
def FnExactPermuteSaid : Prop := fnExactPermuteRow.holds Try.pinned (OpenSpec.ofChange fnExactPermuteSpec)

/-- ITS FALSE NEIGHBOUR: 'it returns false'. Refute it at one input. -/
def fnExactPermuteWrong : ChangeSpec := { name := "fnExactPermute", fn := fun _ => fun
  | [d] => { results := [.lit (.bool false)], args := [d] }
  | _ => none }
def FnExactPermuteWrongFalsely : Prop := fnExactPermuteRow.holds Try.pinned (OpenSpec.ofChange fnExactPermuteWrong)

/-- 'laws.FnExactKeccak256': WHATEVER THE INPUT: true; the input reads as it did. -/
def fnExactKeccak256Spec : ChangeSpec := { name := "fnExactKeccak256", fn := fun _ => fun
  | [d] => { results := [.lit (.bool true)], args := [d] }
  | _ => none }
def fnExactKeccak256Row : OpenClaim := { program := "ytlogocmojnhpbaa", sum := "1924f9d3b597263c3a36c48deb01f7d46fad87631635b7477ebf4378295f18dc", func := "loop.example/g00348/laws.FnExactKeccak256", spec := "fnExactKeccak256", apart := false }
def FnExactKeccak256Said : Prop := fnExactKeccak256Row.holds Try.pinned (OpenSpec.ofChange fnExactKeccak256Spec)

/-- ITS FALSE NEIGHBOUR: 'it returns false'. Refute it at one input. -/
def fnExactKeccak256Wrong : ChangeSpec := { name := "fnExactKeccak256", fn := fun _ => fun
  | [d] => { results := [.lit (.bool false)], args := [d] }
  | _ => none }
def FnExactKeccak256WrongFalsely : Prop := fnExactKeccak256Row.holds Try.pinned (OpenSpec.ofChange fnExactKeccak256Wrong)

/-- 'laws.FnExactLeafHash': WHATEVER THE INPUT: true; the input reads as it did. -/
def fnExactLeafHashSpec : ChangeSpec := { name := "fnExactLeafHash", fn := fun _ => fun
  | [d] => { results := [.lit (.bool true)], args := [d] }
  | _ => none }
def fnExactLeafHashRow : OpenClaim := { program := "ytlogocmojnhpbaa", sum := "1924f9d3b597263c3a36c48deb01f7d46fad87631635b7477ebf4378295f18dc", func := "loop.example/g00348/laws.FnExactLeafHash", spec := "fnExactLeafHash", apart := false }
def FnExactLeafHashSaid : Prop := fnExactLeafHashRow.holds Try.pinned (OpenSpec.ofChange fnExactLeafHashSpec)

/-- ITS FALSE NEIGHBOUR: 'it returns false'. Refute it at one input. -/
def fnExactLeafHashWrong : ChangeSpec := { name := "fnExactLeafHash", fn := fun _ => fun
  | [d] => { results := [.lit (.bool false)], args := [d] }
  | _ => none }
def FnExactLeafHashWrongFalsely : Prop := fnExactLeafHashRow.holds Try.pinned (OpenSpec.ofChange fnExactLeafHashWrong)

/-- 'laws.FnExactNodeHash': WHATEVER THE INPUT: true; the input reads as it did. -/
def fnExactNodeHashSpec : ChangeSpec := { name := "fnExactNodeHash", fn := fun _ => fun
  | [d1, d2] => { results := [.lit (.bool true)], args := [d1, d2] }
  | _ => none }
def fnExactNodeHashRow : OpenClaim := { program := "ytlogocmojnhpbaa", sum := "1924f9d3b597263c3a36c48deb01f7d46fad87631635b7477ebf4378295f18dc", func := "loop.example/g00348/laws.FnExactNodeHash", spec := "fnExactNodeHash", apart := false }
def FnExactNodeHashSaid : Prop := fnExactNodeHashRow.holds Try.pinned (OpenSpec.ofChange fnExactNodeHashSpec)

/-- ITS FALSE NEIGHBOUR: 'it returns false'. Refute it at one input. -/
def fnExactNodeHashWrong : ChangeSpec := { name := "fnExactNodeHash", fn := fun _ => fun
  | [d1, d2] => { results := [.lit (.bool false)], args := [d1, d2] }
  | _ => none }
def FnExactNodeHashWrongFalsely : Prop := fnExactNodeHashRow.holds Try.pinned (OpenSpec.ofChange fnExactNodeHashWrong)

/-- 'laws.FnKeccak': WHATEVER THE INPUT: true; the input reads as it did. -/
def fnKeccakSpec : ChangeSpec := { name := "fnKeccak", fn := fun _ => fun
  | [d] => { results := [.lit (.bool true)], args := [d] }
  | _ => none }
def fnKeccakRow : OpenClaim := { program := "ytlogocmojnhpbaa", sum := "1924f9d3b597263c3a36c48deb01f7d46fad87631635b7477ebf4378295f18dc", func := "loop.example/g00348/laws.FnKeccak", spec := "fnKeccak", apart := false }
def FnKeccakSaid : Prop := fnKeccakRow.holds Try.pinned (OpenSpec.ofChange fnKeccakSpec)

/-- ITS FALSE NEIGHBOUR: 'it returns false'. Refute it at one input. -/
def fnKeccakWrong : ChangeSpec := { name := "fnKeccak", fn := fun _ => fun
  | [d] => { results := [.lit (.bool false)], args := [d] }
  | _ => none }
def FnKeccakWrongFalsely : Prop := fnKeccakRow.holds Try.pinned (OpenSpec.ofChange fnKeccakWrong)

/-- 'laws.FnExactNewSponge': WHATEVER THE INPUT: true; the input reads as it did. -/
def fnExactNewSpongeSpec : ChangeSpec := { name := "fnExactNewSponge", fn := fun _ => fun
  | [d] => { results := [.lit (.bool true)], args := [d] }
  | _ => none }
def fnExactNewSpongeRow : OpenClaim := { program := "ytlogocmojnhpbaa", sum := "1924f9d3b597263c3a36c48deb01f7d46fad87631635b7477ebf4378295f18dc", func := "loop.example/g00348/laws.FnExactNewSponge", spec := "fnExactNewSponge", apart := false }
def FnExactNewSpongeSaid : Prop := fnExactNewSpongeRow.holds Try.pinned (OpenSpec.ofChange fnExactNewSpongeSpec)

/-- ITS FALSE NEIGHBOUR: 'it returns false'. Refute it at one input. -/
def fnExactNewSpongeWrong : ChangeSpec := { name := "fnExactNewSponge", fn := fun _ => fun
  | [d] => { results := [.lit (.bool false)], args := [d] }
  | _ => none }
def FnExactNewSpongeWrongFalsely : Prop := fnExactNewSpongeRow.holds Try.pinned (OpenSpec.ofChange fnExactNewSpongeWrong)

/-- 'laws.FnExactMerkleRoot': WHATEVER THE INPUT: true; the input reads as it did. -/
def fnExactMerkleRootSpec : ChangeSpec := { name := "fnExactMerkleRoot", fn := fun _ => fun
  | [d] => { results := [.lit (.bool true)], args := [d] }
  | _ => none }
def fnExactMerkleRootRow : OpenClaim := { program := "ytlogocmojnhpbaa", sum := "1924f9d3b597263c3a36c48deb01f7d46fad87631635b7477ebf4378295f18dc", func := "loop.example/g00348/laws.FnExactMerkleRoot", spec := "fnExactMerkleRoot", unfollowed := true, recurses := true, apart := false }
def FnExactMerkleRootSaid : Prop := fnExactMerkleRootRow.holds Try.pinned (OpenSpec.ofChange fnExactMerkleRootSpec)

/-- ITS FALSE NEIGHBOUR: 'it returns false'. Refute it at one input. -/
def fnExactMerkleRootWrong : ChangeSpec := { name := "fnExactMerkleRoot", fn := fun _ => fun
  | [d] => { results := [.lit (.bool false)], args := [d] }
  | _ => none }
def FnExactMerkleRootWrongFalsely : Prop := fnExactMerkleRootRow.holds Try.pinned (OpenSpec.ofChange fnExactMerkleRootWrong)

/-- 'laws.FnExactMerklePath': WHATEVER THE INPUT: true; the input reads as it did. -/
def fnExactMerklePathSpec : ChangeSpec := { name := "fnExactMerklePath", fn := fun _ => fun
  | [d1, d2] => { results := [.lit (.bool true)], args := [d1, d2] }
  | _ => none }
def fnExactMerklePathRow : OpenClaim := { program := "ytlogocmojnhpbaa", sum := "1924f9d3b597263c3a36c48deb01f7d46fad87631635b7477ebf4378295f18dc", func := "loop.example/g00348/laws.FnExactMerklePath", spec := "fnExactMerklePath", unfollowed := true, recurses := true, apart := false }
def FnExactMerklePathSaid : Prop := fnExactMerklePathRow.holds Try.pinned (OpenSpec.ofChange fnExactMerklePathSpec)

/-- ITS FALSE NEIGHBOUR: 'it returns false'. Refute it at one input. -/
def fnExactMerklePathWrong : ChangeSpec := { name := "fnExactMerklePath", fn := fun _ => fun
  | [d1, d2] => { results := [.lit (.bool false)], args := [d1, d2] }
  | _ => none }
def FnExactMerklePathWrongFalsely : Prop := fnExactMerklePathRow.holds Try.pinned (OpenSpec.ofChange fnExactMerklePathWrong)

/-- 'laws.FnExactCheckPath': WHATEVER THE INPUT: true; the input reads as it did. -/
def fnExactCheckPathSpec : ChangeSpec := { name := "fnExactCheckPath", fn := fun _ => fun
  | [d1, d2, d3, d4, d5] => { results := [.lit (.bool true)], args := [d1, d2, d3, d4, d5] }
  | _ => none }
def fnExactCheckPathRow : OpenClaim := { program := "ytlogocmojnhpbaa", sum := "1924f9d3b597263c3a36c48deb01f7d46fad87631635b7477ebf4378295f18dc", func := "loop.example/g00348/laws.FnExactCheckPath", spec := "fnExactCheckPath", unfollowed := true, recurses := true, apart := false }
def FnExactCheckPathSaid : Prop := fnExactCheckPathRow.holds Try.pinned (OpenSpec.ofChange fnExactCheckPathSpec)

/-- ITS FALSE NEIGHBOUR: 'it returns false'. Refute it at one input. -/
def fnExactCheckPathWrong : ChangeSpec := { name := "fnExactCheckPath", fn := fun _ => fun
  | [d1, d2, d3, d4, d5] => { results := [.lit (.bool false)], args := [d1, d2, d3, d4, d5] }
  | _ => none }
def FnExactCheckPathWrongFalsely : Prop := fnExactCheckPathRow.holds Try.pinned (OpenSpec.ofChange fnExactCheckPathWrong)

/-- 'laws.FnExactExtractCollision': WHATEVER THE INPUT: true; the input reads as it did. -/
def fnExactExtractCollisionSpec : ChangeSpec := { name := "fnExactExtractCollision", fn := fun _ => fun
  | [d1, d2, d3, d4, d5, d6, d7] => { results := [.lit (.bool true)], args := [d1, d2, d3, d4, d5, d6, d7] }
  | _ => none }
def fnExactExtractCollisionRow : OpenClaim := { program := "ytlogocmojnhpbaa", sum := "1924f9d3b597263c3a36c48deb01f7d46fad87631635b7477ebf4378295f18dc", func := "loop.example/g00348/laws.FnExactExtractCollision", spec := "fnExactExtractCollision", unfollowed := true, recurses := true, apart := false }
def FnExactExtractCollisionSaid : Prop := fnExactExtractCollisionRow.holds Try.pinned (OpenSpec.ofChange fnExactExtractCollisionSpec)

/-- ITS FALSE NEIGHBOUR: 'it returns false'. Refute it at one input. -/
def fnExactExtractCollisionWrong : ChangeSpec := { name := "fnExactExtractCollision", fn := fun _ => fun
  | [d1, d2, d3, d4, d5, d6, d7] => { results := [.lit (.bool false)], args := [d1, d2, d3, d4, d5, d6, d7] }
  | _ => none }
def FnExactExtractCollisionWrongFalsely : Prop := fnExactExtractCollisionRow.holds Try.pinned (OpenSpec.ofChange fnExactExtractCollisionWrong)

/-- 'laws.FnExactCheckNonce': WHATEVER THE INPUT: true; the input reads as it did. -/
def fnExactCheckNonceSpec : ChangeSpec := { name := "fnExactCheckNonce", fn := fun _ => fun
  | [d1, d2, d3] => { results := [.lit (.bool true)], args := [d1, d2, d3] }
  | _ => none }
def fnExactCheckNonceRow : OpenClaim := { program := "ytlogocmojnhpbaa", sum := "1924f9d3b597263c3a36c48deb01f7d46fad87631635b7477ebf4378295f18dc", func := "loop.example/g00348/laws.FnExactCheckNonce", spec := "fnExactCheckNonce", unfollowed := true, recurses := true, apart := false }
def FnExactCheckNonceSaid : Prop := fnExactCheckNonceRow.holds Try.pinned (OpenSpec.ofChange fnExactCheckNonceSpec)

/-- ITS FALSE NEIGHBOUR: 'it returns false'. Refute it at one input. -/
def fnExactCheckNonceWrong : ChangeSpec := { name := "fnExactCheckNonce", fn := fun _ => fun
  | [d1, d2, d3] => { results := [.lit (.bool false)], args := [d1, d2, d3] }
  | _ => none }
def FnExactCheckNonceWrongFalsely : Prop := fnExactCheckNonceRow.holds Try.pinned (OpenSpec.ofChange fnExactCheckNonceWrong)

/-- 'laws.FnExactGrindNonce': WHATEVER THE INPUT: true; the input reads as it did. -/
def fnExactGrindNonceSpec : ChangeSpec := { name := "fnExactGrindNonce", fn := fun _ => fun
  | [d1, d2] => { results := [.lit (.bool true)], args := [d1, d2] }
  | _ => none }
def fnExactGrindNonceRow : OpenClaim := { program := "ytlogocmojnhpbaa", sum := "1924f9d3b597263c3a36c48deb01f7d46fad87631635b7477ebf4378295f18dc", func := "loop.example/g00348/laws.FnExactGrindNonce", spec := "fnExactGrindNonce", unfollowed := true, recurses := true, apart := false }
def FnExactGrindNonceSaid : Prop := fnExactGrindNonceRow.holds Try.pinned (OpenSpec.ofChange fnExactGrindNonceSpec)

/-- ITS FALSE NEIGHBOUR: 'it returns false'. Refute it at one input. -/
def fnExactGrindNonceWrong : ChangeSpec := { name := "fnExactGrindNonce", fn := fun _ => fun
  | [d1, d2] => { results := [.lit (.bool false)], args := [d1, d2] }
  | _ => none }
def FnExactGrindNonceWrongFalsely : Prop := fnExactGrindNonceRow.holds Try.pinned (OpenSpec.ofChange fnExactGrindNonceWrong)

/-- 'laws.FnExactNewScript': WHATEVER THE INPUT: true; the input reads as it did. -/
def fnExactNewScriptSpec : ChangeSpec := { name := "fnExactNewScript", fn := fun _ => fun
  | [d1, d2] => { results := [.lit (.bool true)], args := [d1, d2] }
  | _ => none }
def fnExactNewScriptRow : OpenClaim := { program := "ytlogocmojnhpbaa", sum := "1924f9d3b597263c3a36c48deb01f7d46fad87631635b7477ebf4378295f18dc", func := "loop.example/g00348/laws.FnExactNewScript", spec := "fnExactNewScript", unfollowed := true, recurses := true, apart := false }
def FnExactNewScriptSaid : Prop := fnExactNewScriptRow.holds Try.pinned (OpenSpec.ofChange fnExactNewScriptSpec)

/-- ITS FALSE NEIGHBOUR: 'it returns false'. Refute it at one input. -/
def fnExactNewScriptWrong : ChangeSpec := { name := "fnExactNewScript", fn := fun _ => fun
  | [d1, d2] => { results := [.lit (.bool false)], args := [d1, d2] }
  | _ => none }
def FnExactNewScriptWrongFalsely : Prop := fnExactNewScriptRow.holds Try.pinned (OpenSpec.ofChange fnExactNewScriptWrong)

/-- 'laws.FnExactAbsorbText': WHATEVER THE INPUT: true; the input reads as it did. -/
def fnExactAbsorbTextSpec : ChangeSpec := { name := "fnExactAbsorbText", fn := fun _ => fun
  | [d1, d2] => { results := [.lit (.bool true)], args := [d1, d2] }
  | _ => none }
def fnExactAbsorbTextRow : OpenClaim := { program := "ytlogocmojnhpbaa", sum := "1924f9d3b597263c3a36c48deb01f7d46fad87631635b7477ebf4378295f18dc", func := "loop.example/g00348/laws.FnExactAbsorbText", spec := "fnExactAbsorbText", unfollowed := true, recurses := true, apart := false }
def FnExactAbsorbTextSaid : Prop := fnExactAbsorbTextRow.holds Try.pinned (OpenSpec.ofChange fnExactAbsorbTextSpec)

/-- ITS FALSE NEIGHBOUR: 'it returns false'. Refute it at one input. -/
def fnExactAbsorbTextWrong : ChangeSpec := { name := "fnExactAbsorbText", fn := fun _ => fun
  | [d1, d2] => { results := [.lit (.bool false)], args := [d1, d2] }
  | _ => none }
def FnExactAbsorbTextWrongFalsely : Prop := fnExactAbsorbTextRow.holds Try.pinned (OpenSpec.ofChange fnExactAbsorbTextWrong)

/-- 'laws.FnExactAbsorbExts': WHATEVER THE INPUT: true; the input reads as it did. -/
def fnExactAbsorbExtsSpec : ChangeSpec := { name := "fnExactAbsorbExts", fn := fun _ => fun
  | [d1, d2] => { results := [.lit (.bool true)], args := [d1, d2] }
  | _ => none }
def fnExactAbsorbExtsRow : OpenClaim := { program := "ytlogocmojnhpbaa", sum := "1924f9d3b597263c3a36c48deb01f7d46fad87631635b7477ebf4378295f18dc", func := "loop.example/g00348/laws.FnExactAbsorbExts", spec := "fnExactAbsorbExts", unfollowed := true, recurses := true, apart := false }
def FnExactAbsorbExtsSaid : Prop := fnExactAbsorbExtsRow.holds Try.pinned (OpenSpec.ofChange fnExactAbsorbExtsSpec)

/-- ITS FALSE NEIGHBOUR: 'it returns false'. Refute it at one input. -/
def fnExactAbsorbExtsWrong : ChangeSpec := { name := "fnExactAbsorbExts", fn := fun _ => fun
  | [d1, d2] => { results := [.lit (.bool false)], args := [d1, d2] }
  | _ => none }
def FnExactAbsorbExtsWrongFalsely : Prop := fnExactAbsorbExtsRow.holds Try.pinned (OpenSpec.ofChange fnExactAbsorbExtsWrong)

/-- 'laws.FnExactTakeOne': WHATEVER THE INPUT: true; the input reads as it did. -/
def fnExactTakeOneSpec : ChangeSpec := { name := "fnExactTakeOne", fn := fun _ => fun
  | [d] => { results := [.lit (.bool true)], args := [d] }
  | _ => none }
def fnExactTakeOneRow : OpenClaim := { program := "ytlogocmojnhpbaa", sum := "1924f9d3b597263c3a36c48deb01f7d46fad87631635b7477ebf4378295f18dc", func := "loop.example/g00348/laws.FnExactTakeOne", spec := "fnExactTakeOne", unfollowed := true, recurses := true, apart := false }
def FnExactTakeOneSaid : Prop := fnExactTakeOneRow.holds Try.pinned (OpenSpec.ofChange fnExactTakeOneSpec)

/-- ITS FALSE NEIGHBOUR: 'it returns false'. Refute it at one input. -/
def fnExactTakeOneWrong : ChangeSpec := { name := "fnExactTakeOne", fn := fun _ => fun
  | [d] => { results := [.lit (.bool false)], args := [d] }
  | _ => none }
def FnExactTakeOneWrongFalsely : Prop := fnExactTakeOneRow.holds Try.pinned (OpenSpec.ofChange fnExactTakeOneWrong)

/-- 'laws.FnExactTakeSome': WHATEVER THE INPUT: true; the input reads as it did. -/
def fnExactTakeSomeSpec : ChangeSpec := { name := "fnExactTakeSome", fn := fun _ => fun
  | [d1, d2] => { results := [.lit (.bool true)], args := [d1, d2] }
  | _ => none }
def fnExactTakeSomeRow : OpenClaim := { program := "ytlogocmojnhpbaa", sum := "1924f9d3b597263c3a36c48deb01f7d46fad87631635b7477ebf4378295f18dc", func := "loop.example/g00348/laws.FnExactTakeSome", spec := "fnExactTakeSome", unfollowed := true, recurses := true, apart := false }
def FnExactTakeSomeSaid : Prop := fnExactTakeSomeRow.holds Try.pinned (OpenSpec.ofChange fnExactTakeSomeSpec)

/-- ITS FALSE NEIGHBOUR: 'it returns false'. Refute it at one input. -/
def fnExactTakeSomeWrong : ChangeSpec := { name := "fnExactTakeSome", fn := fun _ => fun
  | [d1, d2] => { results := [.lit (.bool false)], args := [d1, d2] }
  | _ => none }
def FnExactTakeSomeWrongFalsely : Prop := fnExactTakeSomeRow.holds Try.pinned (OpenSpec.ofChange fnExactTakeSomeWrong)

/-- 'laws.FnExactTakePlaces': WHATEVER THE INPUT: true; the input reads as it did. -/
def fnExactTakePlacesSpec : ChangeSpec := { name := "fnExactTakePlaces", fn := fun _ => fun
  | [d1, d2, d3] => { results := [.lit (.bool true)], args := [d1, d2, d3] }
  | _ => none }
def fnExactTakePlacesRow : OpenClaim := { program := "ytlogocmojnhpbaa", sum := "1924f9d3b597263c3a36c48deb01f7d46fad87631635b7477ebf4378295f18dc", func := "loop.example/g00348/laws.FnExactTakePlaces", spec := "fnExactTakePlaces", unfollowed := true, recurses := true, apart := false }
def FnExactTakePlacesSaid : Prop := fnExactTakePlacesRow.holds Try.pinned (OpenSpec.ofChange fnExactTakePlacesSpec)

/-- ITS FALSE NEIGHBOUR: 'it returns false'. Refute it at one input. -/
def fnExactTakePlacesWrong : ChangeSpec := { name := "fnExactTakePlaces", fn := fun _ => fun
  | [d1, d2, d3] => { results := [.lit (.bool false)], args := [d1, d2, d3] }
  | _ => none }
def FnExactTakePlacesWrongFalsely : Prop := fnExactTakePlacesRow.holds Try.pinned (OpenSpec.ofChange fnExactTakePlacesWrong)

/- THE SECOND FORM. 'bulk': how many values and letters a reading holds, each counted each time it is reached (what is shared counts as often as it is met; a slice's spare places count too). A statement '..UptoSaid' is the law's where the arguments, and the package variables that the reading takes, are together of bulk at most 1048576: NARROWER than '..Said'. Prove '..Said' where nothing that the law and all that it calls make is longer than what came in: it says more and counts as full. Else prove '..UptoSaid'. A law counts once. -/
mutual
def uptoBulk {H : Type} : DataW H → Nat
  | .lit (.string bytes) => bytes.length + 1
  | .lit _ => 1
  | .nil => 1
  | .ptr d => uptoBulk d + 1
  | .slice elems spare => uptoBulkAll elems + uptoBulkAll spare + 1
  | .agg parts => uptoBulkAll parts + 1
  | .iface _ d => uptoBulk d + 1
  | .map entries => uptoBulkEntries entries + 1
  | .held _ => 1
def uptoBulkAll {H : Type} : List (DataW H) → Nat
  | [] => 0
  | d :: r => uptoBulk d + uptoBulkAll r
def uptoBulkEntries {H : Type} : List (Lit × DataW H) → Nat
  | [] => 0
  | x :: r => uptoBulkEntry x + uptoBulkEntries r
def uptoBulkEntry {H : Type} : Lit × DataW H → Nat
  | (.string bytes, d) => bytes.length + uptoBulk d + 1
  | (_, d) => uptoBulk d + 1
 end
def uptoSmall : (H : Type) → List (DataW H) → Bool := fun _ ds => decide (uptoBulkAll ds ≤ 1048576)
def OpenSpec.upto (s : _root_.Go.ChangeSpec) : _root_.Go.OpenSpec := { _root_.Go.OpenSpec.ofChange s with cond := some uptoSmall }

/-- 'laws.FnExactPermute', WHERE WHAT IT READS IS OF BULK AT MOST 1048576: true; the input reads as it did. -/
def fnExactPermuteUptoRow : OpenClaim := { program := "ytlogocmojnhpbaa", sum := "1924f9d3b597263c3a36c48deb01f7d46fad87631635b7477ebf4378295f18dc", func := "loop.example/g00348/laws.FnExactPermute", spec := "fnExactPermute", apart := false, narrowed := true }
def FnExactPermuteUptoSaid : Prop := fnExactPermuteUptoRow.holds Try.pinned (OpenSpec.upto fnExactPermuteSpec)

/-- 'laws.FnExactKeccak256', WHERE WHAT IT READS IS OF BULK AT MOST 1048576: true; the input reads as it did. -/
def fnExactKeccak256UptoRow : OpenClaim := { program := "ytlogocmojnhpbaa", sum := "1924f9d3b597263c3a36c48deb01f7d46fad87631635b7477ebf4378295f18dc", func := "loop.example/g00348/laws.FnExactKeccak256", spec := "fnExactKeccak256", apart := false, narrowed := true }
def FnExactKeccak256UptoSaid : Prop := fnExactKeccak256UptoRow.holds Try.pinned (OpenSpec.upto fnExactKeccak256Spec)

/-- 'laws.FnExactLeafHash', WHERE WHAT IT READS IS OF BULK AT MOST 1048576: true; the input reads as it did. -/
def fnExactLeafHashUptoRow : OpenClaim := { program := "ytlogocmojnhpbaa", sum := "1924f9d3b597263c3a36c48deb01f7d46fad87631635b7477ebf4378295f18dc", func := "loop.example/g00348/laws.FnExactLeafHash", spec := "fnExactLeafHash", apart := false, narrowed := true }
def FnExactLeafHashUptoSaid : Prop := fnExactLeafHashUptoRow.holds Try.pinned (OpenSpec.upto fnExactLeafHashSpec)

/-- 'laws.FnExactNodeHash', WHERE WHAT IT READS IS OF BULK AT MOST 1048576: true; the input reads as it did. -/
def fnExactNodeHashUptoRow : OpenClaim := { program := "ytlogocmojnhpbaa", sum := "1924f9d3b597263c3a36c48deb01f7d46fad87631635b7477ebf4378295f18dc", func := "loop.example/g00348/laws.FnExactNodeHash", spec := "fnExactNodeHash", apart := false, narrowed := true }
def FnExactNodeHashUptoSaid : Prop := fnExactNodeHashUptoRow.holds Try.pinned (OpenSpec.upto fnExactNodeHashSpec)

/-- 'laws.FnKeccak', WHERE WHAT IT READS IS OF BULK AT MOST 1048576: true; the input reads as it did. -/
def fnKeccakUptoRow : OpenClaim := { program := "ytlogocmojnhpbaa", sum := "1924f9d3b597263c3a36c48deb01f7d46fad87631635b7477ebf4378295f18dc", func := "loop.example/g00348/laws.FnKeccak", spec := "fnKeccak", apart := false, narrowed := true }
def FnKeccakUptoSaid : Prop := fnKeccakUptoRow.holds Try.pinned (OpenSpec.upto fnKeccakSpec)

/-- 'laws.FnExactNewSponge', WHERE WHAT IT READS IS OF BULK AT MOST 1048576: true; the input reads as it did. -/
def fnExactNewSpongeUptoRow : OpenClaim := { program := "ytlogocmojnhpbaa", sum := "1924f9d3b597263c3a36c48deb01f7d46fad87631635b7477ebf4378295f18dc", func := "loop.example/g00348/laws.FnExactNewSponge", spec := "fnExactNewSponge", apart := false, narrowed := true }
def FnExactNewSpongeUptoSaid : Prop := fnExactNewSpongeUptoRow.holds Try.pinned (OpenSpec.upto fnExactNewSpongeSpec)

/-- 'laws.FnExactMerkleRoot', WHERE WHAT IT READS IS OF BULK AT MOST 1048576: true; the input reads as it did. -/
def fnExactMerkleRootUptoRow : OpenClaim := { program := "ytlogocmojnhpbaa", sum := "1924f9d3b597263c3a36c48deb01f7d46fad87631635b7477ebf4378295f18dc", func := "loop.example/g00348/laws.FnExactMerkleRoot", spec := "fnExactMerkleRoot", unfollowed := true, recurses := true, apart := false, narrowed := true }
def FnExactMerkleRootUptoSaid : Prop := fnExactMerkleRootUptoRow.holds Try.pinned (OpenSpec.upto fnExactMerkleRootSpec)

/-- 'laws.FnExactMerklePath', WHERE WHAT IT READS IS OF BULK AT MOST 1048576: true; the input reads as it did. -/
def fnExactMerklePathUptoRow : OpenClaim := { program := "ytlogocmojnhpbaa", sum := "1924f9d3b597263c3a36c48deb01f7d46fad87631635b7477ebf4378295f18dc", func := "loop.example/g00348/laws.FnExactMerklePath", spec := "fnExactMerklePath", unfollowed := true, recurses := true, apart := false, narrowed := true }
def FnExactMerklePathUptoSaid : Prop := fnExactMerklePathUptoRow.holds Try.pinned (OpenSpec.upto fnExactMerklePathSpec)

/-- 'laws.FnExactCheckPath', WHERE WHAT IT READS IS OF BULK AT MOST 1048576: true; the input reads as it did. -/
def fnExactCheckPathUptoRow : OpenClaim := { program := "ytlogocmojnhpbaa", sum := "1924f9d3b597263c3a36c48deb01f7d46fad87631635b7477ebf4378295f18dc", func := "loop.example/g00348/laws.FnExactCheckPath", spec := "fnExactCheckPath", unfollowed := true, recurses := true, apart := false, narrowed := true }
def FnExactCheckPathUptoSaid : Prop := fnExactCheckPathUptoRow.holds Try.pinned (OpenSpec.upto fnExactCheckPathSpec)

/-- 'laws.FnExactExtractCollision', WHERE WHAT IT READS IS OF BULK AT MOST 1048576: true; the input reads as it did. -/
def fnExactExtractCollisionUptoRow : OpenClaim := { program := "ytlogocmojnhpbaa", sum := "1924f9d3b597263c3a36c48deb01f7d46fad87631635b7477ebf4378295f18dc", func := "loop.example/g00348/laws.FnExactExtractCollision", spec := "fnExactExtractCollision", unfollowed := true, recurses := true, apart := false, narrowed := true }
def FnExactExtractCollisionUptoSaid : Prop := fnExactExtractCollisionUptoRow.holds Try.pinned (OpenSpec.upto fnExactExtractCollisionSpec)

/-- 'laws.FnExactCheckNonce', WHERE WHAT IT READS IS OF BULK AT MOST 1048576: true; the input reads as it did. -/
def fnExactCheckNonceUptoRow : OpenClaim := { program := "ytlogocmojnhpbaa", sum := "1924f9d3b597263c3a36c48deb01f7d46fad87631635b7477ebf4378295f18dc", func := "loop.example/g00348/laws.FnExactCheckNonce", spec := "fnExactCheckNonce", unfollowed := true, recurses := true, apart := false, narrowed := true }
def FnExactCheckNonceUptoSaid : Prop := fnExactCheckNonceUptoRow.holds Try.pinned (OpenSpec.upto fnExactCheckNonceSpec)

/-- 'laws.FnExactGrindNonce', WHERE WHAT IT READS IS OF BULK AT MOST 1048576: true; the input reads as it did. -/
def fnExactGrindNonceUptoRow : OpenClaim := { program := "ytlogocmojnhpbaa", sum := "1924f9d3b597263c3a36c48deb01f7d46fad87631635b7477ebf4378295f18dc", func := "loop.example/g00348/laws.FnExactGrindNonce", spec := "fnExactGrindNonce", unfollowed := true, recurses := true, apart := false, narrowed := true }
def FnExactGrindNonceUptoSaid : Prop := fnExactGrindNonceUptoRow.holds Try.pinned (OpenSpec.upto fnExactGrindNonceSpec)

/-- 'laws.FnExactNewScript', WHERE WHAT IT READS IS OF BULK AT MOST 1048576: true; the input reads as it did. -/
def fnExactNewScriptUptoRow : OpenClaim := { program := "ytlogocmojnhpbaa", sum := "1924f9d3b597263c3a36c48deb01f7d46fad87631635b7477ebf4378295f18dc", func := "loop.example/g00348/laws.FnExactNewScript", spec := "fnExactNewScript", unfollowed := true, recurses := true, apart := false, narrowed := true }
def FnExactNewScriptUptoSaid : Prop := fnExactNewScriptUptoRow.holds Try.pinned (OpenSpec.upto fnExactNewScriptSpec)

/-- 'laws.FnExactAbsorbText', WHERE WHAT IT READS IS OF BULK AT MOST 1048576: true; the input reads as it did. -/
def fnExactAbsorbTextUptoRow : OpenClaim := { program := "ytlogocmojnhpbaa", sum := "1924f9d3b597263c3a36c48deb01f7d46fad87631635b7477ebf4378295f18dc", func := "loop.example/g00348/laws.FnExactAbsorbText", spec := "fnExactAbsorbText", unfollowed := true, recurses := true, apart := false, narrowed := true }
def FnExactAbsorbTextUptoSaid : Prop := fnExactAbsorbTextUptoRow.holds Try.pinned (OpenSpec.upto fnExactAbsorbTextSpec)

/-- 'laws.FnExactAbsorbExts', WHERE WHAT IT READS IS OF BULK AT MOST 1048576: true; the input reads as it did. -/
def fnExactAbsorbExtsUptoRow : OpenClaim := { program := "ytlogocmojnhpbaa", sum := "1924f9d3b597263c3a36c48deb01f7d46fad87631635b7477ebf4378295f18dc", func := "loop.example/g00348/laws.FnExactAbsorbExts", spec := "fnExactAbsorbExts", unfollowed := true, recurses := true, apart := false, narrowed := true }
def FnExactAbsorbExtsUptoSaid : Prop := fnExactAbsorbExtsUptoRow.holds Try.pinned (OpenSpec.upto fnExactAbsorbExtsSpec)

/-- 'laws.FnExactTakeOne', WHERE WHAT IT READS IS OF BULK AT MOST 1048576: true; the input reads as it did. -/
def fnExactTakeOneUptoRow : OpenClaim := { program := "ytlogocmojnhpbaa", sum := "1924f9d3b597263c3a36c48deb01f7d46fad87631635b7477ebf4378295f18dc", func := "loop.example/g00348/laws.FnExactTakeOne", spec := "fnExactTakeOne", unfollowed := true, recurses := true, apart := false, narrowed := true }
def FnExactTakeOneUptoSaid : Prop := fnExactTakeOneUptoRow.holds Try.pinned (OpenSpec.upto fnExactTakeOneSpec)

/-- 'laws.FnExactTakeSome', WHERE WHAT IT READS IS OF BULK AT MOST 1048576: true; the input reads as it did. -/
def fnExactTakeSomeUptoRow : OpenClaim := { program := "ytlogocmojnhpbaa", sum := "1924f9d3b597263c3a36c48deb01f7d46fad87631635b7477ebf4378295f18dc", func := "loop.example/g00348/laws.FnExactTakeSome", spec := "fnExactTakeSome", unfollowed := true, recurses := true, apart := false, narrowed := true }
def FnExactTakeSomeUptoSaid : Prop := fnExactTakeSomeUptoRow.holds Try.pinned (OpenSpec.upto fnExactTakeSomeSpec)

/-- 'laws.FnExactTakePlaces', WHERE WHAT IT READS IS OF BULK AT MOST 1048576: true; the input reads as it did. -/
def fnExactTakePlacesUptoRow : OpenClaim := { program := "ytlogocmojnhpbaa", sum := "1924f9d3b597263c3a36c48deb01f7d46fad87631635b7477ebf4378295f18dc", func := "loop.example/g00348/laws.FnExactTakePlaces", spec := "fnExactTakePlaces", unfollowed := true, recurses := true, apart := false, narrowed := true }
def FnExactTakePlacesUptoSaid : Prop := fnExactTakePlacesUptoRow.holds Try.pinned (OpenSpec.upto fnExactTakePlacesSpec)

end Rows
end Go.Proofs.Ytlogocmojnhpbaa
