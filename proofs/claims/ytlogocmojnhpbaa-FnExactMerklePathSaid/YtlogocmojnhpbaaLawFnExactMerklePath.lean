-- Written by a program of this session (mkrow.py); not trusted, Lean checks it.
import Derived.Test.YtlogocmojnhpbaaRows
import Derived.Test.YtlogocmojnhpbaaQFnExactMerklePathPure
import Derived.Test.YtlogocmojnhpbaaRowX
import Derived.WalkKit
import Derived.ProofKit
import Derived.OpenShut
import Derived.ShutString
import Derived.ChangeOld
import Derived.Below
import Derived.SizedLaws
import Derived.Lib.SmallJoins
import Derived.Deep.SlicePairs
import Derived.SliceStrings
namespace Go.Proofs.Ytlogocmojnhpbaa.fnExactMerklePath
open Go.ChangeShapes Go.WideShapes Go.ChangeAt Go.RowKit Go.Proofs.Ytlogocmojnhpbaa.Print Go.Proofs.YtlogocmojnhpbaaW.PrintWords
open Go.ChangeMaps (open_string shut_string)
set_option linter.unusedVariables false
theorem own : ownKnob Try.prog.godebug = none := by kernel_rfl
theorem laidOut : laidOutB Try.prog = true := by kernel_rfl
set_option maxRecDepth 100000 in
theorem lifted (os : Os) (started : os.Started) (H : Type) (enc : TypeId × Value → H) :
    ReturnsInHanded {} Try.checked os 10 .any (Rows.fnExactMerklePathSpec.pre6 enc Try.prog Try.f10 Rows.fnExactMerklePathRow.domain false) (Rows.fnExactMerklePathSpec.post enc Try.prog Try.f10 false true false false) := by
  refine returnsInHanded_of_change_sized (C := Try.checked) own started (by kernel_rfl) Try.func10
    (ChangeSpec.witness6 (enc := enc) (C := Try.checked) false ⟨#[], #[.slice none 0 0, .int .i64 0], []⟩ 8 (by kernel_rfl) (by kernel_rfl) (by kernel_rfl) (by kernel_rfl)) ?_
  intro W base args ds gs before hval0 hW hcnd hsz0 _
  have hval : ∀ (j : Nat) t v, Try.f10.params[j]? = some t → args[j]? = some v → Value.okWide Try.prog W .any base t v := hval0
  have hW' := hW
  obtain ⟨p, q, hA0, hV, rfl, hfz, hnd⟩ := hW
  have hA : DataW.TrodAll enc Try.prog W 0 (fun _ => true) true Try.f10.params.toList args.toList ds p := hA0
  rw [Try.params10] at hA hval
  obtain ⟨v0, vs0, d0, ds0, p0, q0, hargs, rfl, rfl, h0, r0⟩ := trodAll_cons hA
  obtain ⟨v1, vs1, d1, ds1, p1, q1, rfl, rfl, rfl, h1, r1⟩ := trodAll_cons r0
  obtain ⟨rfl, rfl, rfl⟩ := trodAll_nil r1
  obtain rfl : args = #[v0, v1] := by cases args; simp_all
  obtain ⟨rfl, rfl⟩ := trodVars_none hV
  have k0 := h0
  have lt0 : ∀ x ∈ p0, x.block < W.heap.size := by obtain ⟨m, hm⟩ := k0; exact DataW.trod_lt m _ _ _ hm
  obtain ⟨A0, n0, C0, rfl⟩ := okWide_slice Try.underlying41 (hval 0 41 v0 rfl rfl)
  obtain ⟨m0, hm0⟩ := h0
  obtain ⟨l0, rfl, hr0, hc0, w0⟩ := RowX.strs_read hm0
  unfold maxLen at w0
  obtain ⟨a1, rfl, rfl, rfl, w1⟩ := open_int Try.underlying3 (hval 1 3 v1 rfl rfl) h1
  clear hA0 hval0 hsz0
  obtain ⟨k, hk⟩ := Pure.FnExactMerklePath l0 a1 hr0.2.1 w0 w1
  refine (laws_FnExactMerklePath.calls k A0 C0 l0 a1 true W hr0 hc0 hk).mono fun e W' ⟨he, bel0⟩ => ?_
  have bel : Below W.heap.size W W' := bel0
  subst he
  exact ⟨_, rfl, _, _, _, [], _, [], hW', trodAll_mk1 (shut_bool Try.underlying4 _), (trodAll_cons_mk (Below.trod laidOut (by kernel_rfl) (of_decide_eq_true (by kernel_rfl)) k0 bel lt0) (trodAll_cons_mk (shut_int Try.underlying3 w1) trodAll_mk0)), rfl, bel.frame _, fun h => by cases h⟩
theorem strip_cut (rest : List (List Char)) : stripLifts liftWords ("cut".toList :: rest) = ([], "cut".toList :: rest) := by simp [stripLifts, liftWords]
theorem mayEnter_cut {P : Program} {rest : List (List Char)} (h : behindMainWord (wordsSigns P.initOrder.toList) = "cut".toList :: rest) (h1 : P.laysLater = false) (h2 : P.bearsReflect = false) (h3 : P.doorFits [] = true) : P.mayEnter = true := by
  have hs := strip_cut rest
  unfold Program.mayEnter
  rw [h]
  generalize "cut".toList = c at *
  simp [hs, h1, h2, h3]
theorem liftsFinal_cut {P : Program} {rest : List (List Char)} (h : behindMainWord (wordsSigns P.initOrder.toList) = "cut".toList :: rest) : P.liftsFinal = false := by
  have hs := strip_cut rest
  unfold Program.liftsFinal Program.headLifts
  rw [h, hs]
  simp
theorem make_cut {P : Program} {rest : List (List Char)} (h : behindMainWord (wordsSigns P.initOrder.toList) = "cut".toList :: rest) : P.make = some .cut := by
  unfold Program.make
  rw [h]
  simp
/-- The dump's head, letter by letter. -/
def headSigns : List Char := [104,97,114,110,101,115,115,32,49,99,49,56,52,101,98,55,101,57,55,100,51,99,100,56,53,97,57,48,48,98,56,98,98,48,50,48,99,101,97,50,97,51,50,101,50,55,54,50,56,55,54,48,52,53,56,53,97,49,99,100,97,98,49,101,49,50,57,48,56,54,52,56,32,99,117,116,32,97,116,32,108,111,111,112,46,101,120,97,109,112,108,101,47,103,48,48,51,52,56,47,108,97,119,115,46,70,110,69,120,97,99,116,80,101,114,109,117,116,101,32,108,111,111,112,46,101,120,97,109,112,108,101,47,103,48,48,51,52,56,47,108,97,119,115,46,70,110,69,120,97,99,116,75,101,99,99,97,107,50,53,54,32,108,111,111,112,46,101,120,97,109,112,108,101,47,103,48,48,51,52,56,47,108,97,119,115,46,70,110,69,120,97,99,116,76,101,97,102,72,97,115,104,32,108,111,111,112,46,101,120,97,109,112,108,101,47,103,48,48,51,52,56,47,108,97,119,115,46,70,110,69,120,97,99,116,78,111,100,101,72,97,115,104,32,108,111,111,112,46,101,120,97,109,112,108,101,47,103,48,48,51,52,56,47,108,97,119,115,46,70,110,75,101,99,99,97,107,32,108,111,111,112,46,101,120,97,109,112,108,101,47,103,48,48,51,52,56,47,108,97,119,115,46,70,110,69,120,97,99,116,78,101,119,83,112,111,110,103,101,32,108,111,111,112,46,101,120,97,109,112,108,101,47,103,48,48,51,52,56,47,108,97,119,115,46,70,110,69,120,97,99,116,77,101,114,107,108,101,82,111,111,116,32,108,111,111,112,46,101,120,97,109,112,108,101,47,103,48,48,51,52,56,47,108,97,119,115,46,70,110,69,120,97,99,116,77,101,114,107,108,101,80,97,116,104,32,108,111,111,112,46,101,120,97,109,112,108,101,47,103,48,48,51,52,56,47,108,97,119,115,46,70,110,69,120,97,99,116,67,104,101,99,107,80,97,116,104,32,108,111,111,112,46,101,120,97,109,112,108,101,47,103,48,48,51,52,56,47,108,97,119,115,46,70,110,69,120,97,99,116,69,120,116,114,97,99,116,67,111,108,108,105,115,105,111,110,32,108,111,111,112,46,101,120,97,109,112,108,101,47,103,48,48,51,52,56,47,108,97,119,115,46,70,110,69,120,97,99,116,67,104,101,99,107,78,111,110,99,101,32,108,111,111,112,46,101,120,97,109,112,108,101,47,103,48,48,51,52,56,47,108,97,119,115,46,70,110,69,120,97,99,116,71,114,105,110,100,78,111,110,99,101,32,108,111,111,112,46,101,120,97,109,112,108,101,47,103,48,48,51,52,56,47,108,97,119,115,46,70,110,69,120,97,99,116,78,101,119,83,99,114,105,112,116,32,108,111,111,112,46,101,120,97,109,112,108,101,47,103,48,48,51,52,56,47,108,97,119,115,46,70,110,69,120,97,99,116,65,98,115,111,114,98,84,101,120,116,32,108,111,111,112,46,101,120,97,109,112,108,101,47,103,48,48,51,52,56,47,108,97,119,115,46,70,110,69,120,97,99,116,65,98,115,111,114,98,69,120,116,115,32,108,111,111,112,46,101,120,97,109,112,108,101,47,103,48,48,51,52,56,47,108,97,119,115,46,70,110,69,120,97,99,116,84,97,107,101,79,110,101,32,108,111,111,112,46,101,120,97,109,112,108,101,47,103,48,48,51,52,56,47,108,97,119,115,46,70,110,69,120,97,99,116,84,97,107,101,83,111,109,101,32,108,111,111,112,46,101,120,97,109,112,108,101,47,103,48,48,51,52,56,47,108,97,119,115,46,70,110,69,120,97,99,116,84,97,107,101,80,108,97,99,101,115].map Char.ofNat
def headRest : List (List Char) := [[97,116],[108,111,111,112,46,101,120,97,109,112,108,101,47,103,48,48,51,52,56,47,108,97,119,115,46,70,110,69,120,97,99,116,80,101,114,109,117,116,101],[108,111,111,112,46,101,120,97,109,112,108,101,47,103,48,48,51,52,56,47,108,97,119,115,46,70,110,69,120,97,99,116,75,101,99,99,97,107,50,53,54],[108,111,111,112,46,101,120,97,109,112,108,101,47,103,48,48,51,52,56,47,108,97,119,115,46,70,110,69,120,97,99,116,76,101,97,102,72,97,115,104],[108,111,111,112,46,101,120,97,109,112,108,101,47,103,48,48,51,52,56,47,108,97,119,115,46,70,110,69,120,97,99,116,78,111,100,101,72,97,115,104],[108,111,111,112,46,101,120,97,109,112,108,101,47,103,48,48,51,52,56,47,108,97,119,115,46,70,110,75,101,99,99,97,107],[108,111,111,112,46,101,120,97,109,112,108,101,47,103,48,48,51,52,56,47,108,97,119,115,46,70,110,69,120,97,99,116,78,101,119,83,112,111,110,103,101],[108,111,111,112,46,101,120,97,109,112,108,101,47,103,48,48,51,52,56,47,108,97,119,115,46,70,110,69,120,97,99,116,77,101,114,107,108,101,82,111,111,116],[108,111,111,112,46,101,120,97,109,112,108,101,47,103,48,48,51,52,56,47,108,97,119,115,46,70,110,69,120,97,99,116,77,101,114,107,108,101,80,97,116,104],[108,111,111,112,46,101,120,97,109,112,108,101,47,103,48,48,51,52,56,47,108,97,119,115,46,70,110,69,120,97,99,116,67,104,101,99,107,80,97,116,104],[108,111,111,112,46,101,120,97,109,112,108,101,47,103,48,48,51,52,56,47,108,97,119,115,46,70,110,69,120,97,99,116,69,120,116,114,97,99,116,67,111,108,108,105,115,105,111,110],[108,111,111,112,46,101,120,97,109,112,108,101,47,103,48,48,51,52,56,47,108,97,119,115,46,70,110,69,120,97,99,116,67,104,101,99,107,78,111,110,99,101],[108,111,111,112,46,101,120,97,109,112,108,101,47,103,48,48,51,52,56,47,108,97,119,115,46,70,110,69,120,97,99,116,71,114,105,110,100,78,111,110,99,101],[108,111,111,112,46,101,120,97,109,112,108,101,47,103,48,48,51,52,56,47,108,97,119,115,46,70,110,69,120,97,99,116,78,101,119,83,99,114,105,112,116],[108,111,111,112,46,101,120,97,109,112,108,101,47,103,48,48,51,52,56,47,108,97,119,115,46,70,110,69,120,97,99,116,65,98,115,111,114,98,84,101,120,116],[108,111,111,112,46,101,120,97,109,112,108,101,47,103,48,48,51,52,56,47,108,97,119,115,46,70,110,69,120,97,99,116,65,98,115,111,114,98,69,120,116,115],[108,111,111,112,46,101,120,97,109,112,108,101,47,103,48,48,51,52,56,47,108,97,119,115,46,70,110,69,120,97,99,116,84,97,107,101,79,110,101],[108,111,111,112,46,101,120,97,109,112,108,101,47,103,48,48,51,52,56,47,108,97,119,115,46,70,110,69,120,97,99,116,84,97,107,101,83,111,109,101],[108,111,111,112,46,101,120,97,109,112,108,101,47,103,48,48,51,52,56,47,108,97,119,115,46,70,110,69,120,97,99,116,84,97,107,101,80,108,97,99,101,115]].map (List.map Char.ofNat)
theorem head_is : Try.prog.initOrder = "harness 1c184eb7e97d3cd85a900b8bb020cea2a32e276287604585a1cdab1e12908648 cut at loop.example/g00348/laws.FnExactPermute loop.example/g00348/laws.FnExactKeccak256 loop.example/g00348/laws.FnExactLeafHash loop.example/g00348/laws.FnExactNodeHash loop.example/g00348/laws.FnKeccak loop.example/g00348/laws.FnExactNewSponge loop.example/g00348/laws.FnExactMerkleRoot loop.example/g00348/laws.FnExactMerklePath loop.example/g00348/laws.FnExactCheckPath loop.example/g00348/laws.FnExactExtractCollision loop.example/g00348/laws.FnExactCheckNonce loop.example/g00348/laws.FnExactGrindNonce loop.example/g00348/laws.FnExactNewScript loop.example/g00348/laws.FnExactAbsorbText loop.example/g00348/laws.FnExactAbsorbExts loop.example/g00348/laws.FnExactTakeOne loop.example/g00348/laws.FnExactTakeSome loop.example/g00348/laws.FnExactTakePlaces" := by kernel_rfl
theorem head_of : ("harness 1c184eb7e97d3cd85a900b8bb020cea2a32e276287604585a1cdab1e12908648 cut at loop.example/g00348/laws.FnExactPermute loop.example/g00348/laws.FnExactKeccak256 loop.example/g00348/laws.FnExactLeafHash loop.example/g00348/laws.FnExactNodeHash loop.example/g00348/laws.FnKeccak loop.example/g00348/laws.FnExactNewSponge loop.example/g00348/laws.FnExactMerkleRoot loop.example/g00348/laws.FnExactMerklePath loop.example/g00348/laws.FnExactCheckPath loop.example/g00348/laws.FnExactExtractCollision loop.example/g00348/laws.FnExactCheckNonce loop.example/g00348/laws.FnExactGrindNonce loop.example/g00348/laws.FnExactNewScript loop.example/g00348/laws.FnExactAbsorbText loop.example/g00348/laws.FnExactAbsorbExts loop.example/g00348/laws.FnExactTakeOne loop.example/g00348/laws.FnExactTakeSome loop.example/g00348/laws.FnExactTakePlaces" : String) = String.ofList headSigns := by kernel_rfl
theorem head_words : behindMainWord (wordsSigns headSigns) = "cut".toList :: headRest := by kernel_rfl
theorem head_cut : behindMainWord (wordsSigns Try.prog.initOrder.toList) = "cut".toList :: headRest := by
  rw [head_is, head_of, String.toList_ofList]
  exact head_words
theorem may : Try.prog.mayEnter = true := mayEnter_cut head_cut (by kernel_rfl) (by kernel_rfl) (by kernel_rfl)
theorem lifts : Try.prog.liftsFinal = false := liftsFinal_cut head_cut
theorem made : Try.prog.make = some .cut := make_cut head_cut
set_option maxRecDepth 100000 in
theorem closed : joinedFacts Try.prog 10 Try.f10 Rows.fnExactMerklePathSpec Rows.fnExactMerklePathRow = true := by
  unfold joinedFacts
  simp only [Bool.and_eq_true]
  repeat' refine And.intro ?_ ?_
  all_goals first | (with_reducible exact may) | (rw [lifts]; rfl) | (rw [made]; rfl) | kernel_rfl
theorem over : Rows.fnExactMerklePathRow.holds Try.pinned (OpenSpec.ofChange Rows.fnExactMerklePathSpec) :=
  OpenClaim.holds_of_wide 10 Try.f10 rfl rfl rfl rfl rfl rfl rfl ⟨rfl, rfl, rfl, rfl, rfl⟩ rfl rfl rfl rfl rfl (by kernel_rfl) Try.func10 closed
    (of_decide_eq_true (by kernel_rfl)) (by unfold Func.isWrapper; first | (rw [if_pos (by decide +kernel)]; kernel_rfl) | (rw [if_neg (by decide +kernel)]; exact ⟨rfl, rfl⟩))
    (fun os started H enc _ => lifted os started H enc)
theorem proved : Rows.FnExactMerklePathSaid := over
#print axioms proved
end Go.Proofs.Ytlogocmojnhpbaa.fnExactMerklePath
namespace Go.Proofs.Ytlogocmojnhpbaa
/-- The row, under a short name, for the claim. -/
theorem fnExactMerklePath_holds : Rows.FnExactMerklePathSaid := fnExactMerklePath.proved
end Go.Proofs.Ytlogocmojnhpbaa
