-- Written by a program of this session (myprint.py) out of the translation; not trusted, Lean checks it.
import Derived.Test.YtlogocmojnhpbaaRows
import Derived.Test.YtlogocmojnhpbaaQFnKeccakPure
import Derived.WalkKit
import Derived.ProofKit
import Derived.OpenShut
import Derived.ShutString
import Derived.ChangeOld
import Derived.Below
import Derived.SizedLaws
import Derived.Test.YtlogocmojnhpbaaWSized
namespace Go.Proofs.Ytlogocmojnhpbaa.fnKeccak
open Go.ChangeShapes Go.WideShapes Go.ChangeAt Go.RowKit
open Go.ChangeMaps (open_string shut_string)
set_option linter.unusedVariables false
theorem own : ownKnob Try.prog.godebug = none := by kernel_rfl
theorem laidOut : laidOutB Try.prog = true := by kernel_rfl
def IsRow (k : IntKind) (w : World) (a : Option Addr) (len cap : Nat) (zs : List Int) : Prop :=
  (a = none ∧ len = 0 ∧ cap = 0 ∧ zs = []) ∨
  ∃ x, a = some x ∧ len ≤ cap ∧ cap ≤ maxLen ∧ zs.length = cap ∧ (∀ i, i < zs.length → w.cell? (x.add i) = some (.int k (zs.getD i 0))) ∧ ∀ n ∈ zs, (Lit.int k n).wf = true
set_option maxRecDepth 100000 in
theorem lifted (os : Os) (started : os.Started) (H : Type) (enc : TypeId × Value → H) :
    ReturnsInHanded {} Try.checked os 7 .any (Rows.fnKeccakSpec.pre6 enc Try.prog Try.f7 Rows.fnKeccakRow.domain false) (Rows.fnKeccakSpec.post enc Try.prog Try.f7 false true false false) := by
  refine returnsInHanded_of_change_sized (C := Try.checked) own started (by kernel_rfl) Try.func7
    (ChangeSpec.witness6 (enc := enc) (C := Try.checked) false ⟨#[], #[.slice none 0 0], []⟩ 8 (by kernel_rfl) (by kernel_rfl) (by kernel_rfl) (by kernel_rfl)) ?_
  intro W base args ds gs before hval0 hW hcnd hsz0 _
  have hsz : (DataW.weightsEach Try.prog (Try.f7.params.toList ++ Rows.fnKeccakSpec.plain.varTypes Try.prog) (ds ++ gs)).all (· ≤ reachBytes) = true := hsz0
  have hval : ∀ (j : Nat) t v, Try.f7.params[j]? = some t → args[j]? = some v → Value.okWide Try.prog W .any base t v := hval0
  have hW' := hW
  obtain ⟨p, q, hA0, hV, rfl, hfz, hnd⟩ := hW
  have hA : DataW.TrodAll enc Try.prog W 0 (fun _ => true) true Try.f7.params.toList args.toList ds p := hA0
  rw [Try.params7] at hA hval hsz
  obtain ⟨v0, vs0, d0, ds0, p0, q0, hargs, rfl, rfl, h0, r0⟩ := trodAll_cons hA
  obtain ⟨rfl, rfl, rfl⟩ := trodAll_nil r0
  obtain rfl : args = #[v0] := by cases args; simp_all
  obtain ⟨rfl, rfl⟩ := trodVars_none hV
  obtain ⟨a0, len0, cap0, rfl⟩ := okWide_slice Try.underlying25 (hval 0 25 v0 rfl rfl)
  have k0 := h0
  have lt0 : ∀ x ∈ p0, x.block < W.heap.size := by obtain ⟨m, hm⟩ := k0; exact DataW.trod_lt m _ _ _ hm
  obtain ⟨z0, w0⟩ : ∃ zs, IsRow .u8 W a0 len0 cap0 zs := by
    obtain ⟨fuel, hf⟩ := h0
    rcases open_ints Try.underlying25 Try.underlying5 (by kernel_rfl) hf with ⟨hcs, _⟩ | ⟨x, l, c, zs, hcs, _, hl, hm, hz, _, hcell, hwz⟩
    · simp [Value.cells] at hcs
      obtain ⟨rfl, rfl, rfl⟩ := hcs
      exact ⟨[], .inl ⟨rfl, rfl, rfl, rfl⟩⟩
    · simp [Value.cells] at hcs
      obtain ⟨rfl, rfl, rfl⟩ := hcs
      exact ⟨zs, .inr ⟨_, rfl, hl, hm, by simpa using hz, hcell, hwz⟩⟩
  have y0 : len0 * 1 ≤ 140737488351232 := Go.Proofs.YtlogocmojnhpbaaW.PrintWords.sized_ints hsz (j := 0) (t := 25) rfl rfl Try.underlying25 Try.underlying5 (by kernel_rfl) (by kernel_rfl) h0
  clear hA0 hval0 hsz0 hsz
  refine (Print.laws_FnKeccak.walk Pure.FnKeccak a0 len0 cap0 z0 W w0 y0).mono fun e W' ⟨he, bel⟩ => ?_
  subst he
  exact ⟨_, rfl, _, _, _, [], _, [], hW', trodAll_mk1 (shut_bool Try.underlying4 _), (trodAll_cons_mk (Below.trod laidOut (by kernel_rfl) (of_decide_eq_true (by kernel_rfl)) k0 bel lt0) trodAll_mk0), rfl, bel.frame _, fun h => by cases h⟩
theorem strip_cut (rest : List (List Char)) : stripLifts liftWords ("cut".toList :: rest) = ([], "cut".toList :: rest) := by simp [stripLifts, liftWords]
theorem mayEnter_cut {P : Program} {rest : List (List Char)} (h : behindMainWord (wordsSigns P.initOrder.toList) = "cut".toList :: rest) (h1 : P.laysLater = false) (h2 : P.bearsReflect = false) (h3 : P.doorFits [] = true) : P.mayEnter = true := by
  have hs := strip_cut rest
  unfold Program.mayEnter
  rw [h]
  generalize "cut".toList = c at *
  simp [hs, h1, h2, h3]
theorem liftsFinal_cut {P : Program} {rest : List (List Char)} (h : behindMainWord (wordsSigns P.initOrder.toList) = "cut".toList :: rest) : P.liftsFinal = false := by
  have hs := strip_cut rest
  unfold Program.liftsFinal Program.headLifts
  rw [h, hs]
  simp
theorem make_cut {P : Program} {rest : List (List Char)} (h : behindMainWord (wordsSigns P.initOrder.toList) = "cut".toList :: rest) : P.make = some .cut := by
  unfold Program.make
  rw [h]
  simp
/-- The dump's head, letter by letter. -/
def headSigns : List Char := [104,97,114,110,101,115,115,32,49,99,49,56,52,101,98,55,101,57,55,100,51,99,100,56,53,97,57,48,48,98,56,98,98,48,50,48,99,101,97,50,97,51,50,101,50,55,54,50,56,55,54,48,52,53,56,53,97,49,99,100,97,98,49,101,49,50,57,48,56,54,52,56,32,99,117,116,32,97,116,32,108,111,111,112,46,101,120,97,109,112,108,101,47,103,48,48,51,52,56,47,108,97,119,115,46,70,110,69,120,97,99,116,80,101,114,109,117,116,101,32,108,111,111,112,46,101,120,97,109,112,108,101,47,103,48,48,51,52,56,47,108,97,119,115,46,70,110,69,120,97,99,116,75,101,99,99,97,107,50,53,54,32,108,111,111,112,46,101,120,97,109,112,108,101,47,103,48,48,51,52,56,47,108,97,119,115,46,70,110,69,120,97,99,116,76,101,97,102,72,97,115,104,32,108,111,111,112,46,101,120,97,109,112,108,101,47,103,48,48,51,52,56,47,108,97,119,115,46,70,110,69,120,97,99,116,78,111,100,101,72,97,115,104,32,108,111,111,112,46,101,120,97,109,112,108,101,47,103,48,48,51,52,56,47,108,97,119,115,46,70,110,75,101,99,99,97,107,32,108,111,111,112,46,101,120,97,109,112,108,101,47,103,48,48,51,52,56,47,108,97,119,115,46,70,110,69,120,97,99,116,78,101,119,83,112,111,110,103,101,32,108,111,111,112,46,101,120,97,109,112,108,101,47,103,48,48,51,52,56,47,108,97,119,115,46,70,110,69,120,97,99,116,77,101,114,107,108,101,82,111,111,116,32,108,111,111,112,46,101,120,97,109,112,108,101,47,103,48,48,51,52,56,47,108,97,119,115,46,70,110,69,120,97,99,116,77,101,114,107,108,101,80,97,116,104,32,108,111,111,112,46,101,120,97,109,112,108,101,47,103,48,48,51,52,56,47,108,97,119,115,46,70,110,69,120,97,99,116,67,104,101,99,107,80,97,116,104,32,108,111,111,112,46,101,120,97,109,112,108,101,47,103,48,48,51,52,56,47,108,97,119,115,46,70,110,69,120,97,99,116,69,120,116,114,97,99,116,67,111,108,108,105,115,105,111,110,32,108,111,111,112,46,101,120,97,109,112,108,101,47,103,48,48,51,52,56,47,108,97,119,115,46,70,110,69,120,97,99,116,67,104,101,99,107,78,111,110,99,101,32,108,111,111,112,46,101,120,97,109,112,108,101,47,103,48,48,51,52,56,47,108,97,119,115,46,70,110,69,120,97,99,116,71,114,105,110,100,78,111,110,99,101,32,108,111,111,112,46,101,120,97,109,112,108,101,47,103,48,48,51,52,56,47,108,97,119,115,46,70,110,69,120,97,99,116,78,101,119,83,99,114,105,112,116,32,108,111,111,112,46,101,120,97,109,112,108,101,47,103,48,48,51,52,56,47,108,97,119,115,46,70,110,69,120,97,99,116,65,98,115,111,114,98,84,101,120,116,32,108,111,111,112,46,101,120,97,109,112,108,101,47,103,48,48,51,52,56,47,108,97,119,115,46,70,110,69,120,97,99,116,65,98,115,111,114,98,69,120,116,115,32,108,111,111,112,46,101,120,97,109,112,108,101,47,103,48,48,51,52,56,47,108,97,119,115,46,70,110,69,120,97,99,116,84,97,107,101,79,110,101,32,108,111,111,112,46,101,120,97,109,112,108,101,47,103,48,48,51,52,56,47,108,97,119,115,46,70,110,69,120,97,99,116,84,97,107,101,83,111,109,101,32,108,111,111,112,46,101,120,97,109,112,108,101,47,103,48,48,51,52,56,47,108,97,119,115,46,70,110,69,120,97,99,116,84,97,107,101,80,108,97,99,101,115].map Char.ofNat
def headRest : List (List Char) := [[97,116],[108,111,111,112,46,101,120,97,109,112,108,101,47,103,48,48,51,52,56,47,108,97,119,115,46,70,110,69,120,97,99,116,80,101,114,109,117,116,101],[108,111,111,112,46,101,120,97,109,112,108,101,47,103,48,48,51,52,56,47,108,97,119,115,46,70,110,69,120,97,99,116,75,101,99,99,97,107,50,53,54],[108,111,111,112,46,101,120,97,109,112,108,101,47,103,48,48,51,52,56,47,108,97,119,115,46,70,110,69,120,97,99,116,76,101,97,102,72,97,115,104],[108,111,111,112,46,101,120,97,109,112,108,101,47,103,48,48,51,52,56,47,108,97,119,115,46,70,110,69,120,97,99,116,78,111,100,101,72,97,115,104],[108,111,111,112,46,101,120,97,109,112,108,101,47,103,48,48,51,52,56,47,108,97,119,115,46,70,110,75,101,99,99,97,107],[108,111,111,112,46,101,120,97,109,112,108,101,47,103,48,48,51,52,56,47,108,97,119,115,46,70,110,69,120,97,99,116,78,101,119,83,112,111,110,103,101],[108,111,111,112,46,101,120,97,109,112,108,101,47,103,48,48,51,52,56,47,108,97,119,115,46,70,110,69,120,97,99,116,77,101,114,107,108,101,82,111,111,116],[108,111,111,112,46,101,120,97,109,112,108,101,47,103,48,48,51,52,56,47,108,97,119,115,46,70,110,69,120,97,99,116,77,101,114,107,108,101,80,97,116,104],[108,111,111,112,46,101,120,97,109,112,108,101,47,103,48,48,51,52,56,47,108,97,119,115,46,70,110,69,120,97,99,116,67,104,101,99,107,80,97,116,104],[108,111,111,112,46,101,120,97,109,112,108,101,47,103,48,48,51,52,56,47,108,97,119,115,46,70,110,69,120,97,99,116,69,120,116,114,97,99,116,67,111,108,108,105,115,105,111,110],[108,111,111,112,46,101,120,97,109,112,108,101,47,103,48,48,51,52,56,47,108,97,119,115,46,70,110,69,120,97,99,116,67,104,101,99,107,78,111,110,99,101],[108,111,111,112,46,101,120,97,109,112,108,101,47,103,48,48,51,52,56,47,108,97,119,115,46,70,110,69,120,97,99,116,71,114,105,110,100,78,111,110,99,101],[108,111,111,112,46,101,120,97,109,112,108,101,47,103,48,48,51,52,56,47,108,97,119,115,46,70,110,69,120,97,99,116,78,101,119,83,99,114,105,112,116],[108,111,111,112,46,101,120,97,109,112,108,101,47,103,48,48,51,52,56,47,108,97,119,115,46,70,110,69,120,97,99,116,65,98,115,111,114,98,84,101,120,116],[108,111,111,112,46,101,120,97,109,112,108,101,47,103,48,48,51,52,56,47,108,97,119,115,46,70,110,69,120,97,99,116,65,98,115,111,114,98,69,120,116,115],[108,111,111,112,46,101,120,97,109,112,108,101,47,103,48,48,51,52,56,47,108,97,119,115,46,70,110,69,120,97,99,116,84,97,107,101,79,110,101],[108,111,111,112,46,101,120,97,109,112,108,101,47,103,48,48,51,52,56,47,108,97,119,115,46,70,110,69,120,97,99,116,84,97,107,101,83,111,109,101],[108,111,111,112,46,101,120,97,109,112,108,101,47,103,48,48,51,52,56,47,108,97,119,115,46,70,110,69,120,97,99,116,84,97,107,101,80,108,97,99,101,115]].map (List.map Char.ofNat)
theorem head_is : Try.prog.initOrder = "harness 1c184eb7e97d3cd85a900b8bb020cea2a32e276287604585a1cdab1e12908648 cut at loop.example/g00348/laws.FnExactPermute loop.example/g00348/laws.FnExactKeccak256 loop.example/g00348/laws.FnExactLeafHash loop.example/g00348/laws.FnExactNodeHash loop.example/g00348/laws.FnKeccak loop.example/g00348/laws.FnExactNewSponge loop.example/g00348/laws.FnExactMerkleRoot loop.example/g00348/laws.FnExactMerklePath loop.example/g00348/laws.FnExactCheckPath loop.example/g00348/laws.FnExactExtractCollision loop.example/g00348/laws.FnExactCheckNonce loop.example/g00348/laws.FnExactGrindNonce loop.example/g00348/laws.FnExactNewScript loop.example/g00348/laws.FnExactAbsorbText loop.example/g00348/laws.FnExactAbsorbExts loop.example/g00348/laws.FnExactTakeOne loop.example/g00348/laws.FnExactTakeSome loop.example/g00348/laws.FnExactTakePlaces" := by kernel_rfl
theorem head_of : ("harness 1c184eb7e97d3cd85a900b8bb020cea2a32e276287604585a1cdab1e12908648 cut at loop.example/g00348/laws.FnExactPermute loop.example/g00348/laws.FnExactKeccak256 loop.example/g00348/laws.FnExactLeafHash loop.example/g00348/laws.FnExactNodeHash loop.example/g00348/laws.FnKeccak loop.example/g00348/laws.FnExactNewSponge loop.example/g00348/laws.FnExactMerkleRoot loop.example/g00348/laws.FnExactMerklePath loop.example/g00348/laws.FnExactCheckPath loop.example/g00348/laws.FnExactExtractCollision loop.example/g00348/laws.FnExactCheckNonce loop.example/g00348/laws.FnExactGrindNonce loop.example/g00348/laws.FnExactNewScript loop.example/g00348/laws.FnExactAbsorbText loop.example/g00348/laws.FnExactAbsorbExts loop.example/g00348/laws.FnExactTakeOne loop.example/g00348/laws.FnExactTakeSome loop.example/g00348/laws.FnExactTakePlaces" : String) = String.ofList headSigns := by kernel_rfl
theorem head_words : behindMainWord (wordsSigns headSigns) = "cut".toList :: headRest := by kernel_rfl
theorem head_cut : behindMainWord (wordsSigns Try.prog.initOrder.toList) = "cut".toList :: headRest := by
  rw [head_is, head_of, String.toList_ofList]
  exact head_words
theorem may : Try.prog.mayEnter = true := mayEnter_cut head_cut (by kernel_rfl) (by kernel_rfl) (by kernel_rfl)
theorem lifts : Try.prog.liftsFinal = false := liftsFinal_cut head_cut
theorem made : Try.prog.make = some .cut := make_cut head_cut
set_option maxRecDepth 100000 in
theorem closed : joinedFacts Try.prog 7 Try.f7 Rows.fnKeccakSpec Rows.fnKeccakRow = true := by
  unfold joinedFacts
  simp only [Bool.and_eq_true]
  repeat' refine And.intro ?_ ?_
  all_goals first | (with_reducible exact may) | (rw [lifts]; rfl) | (rw [made]; rfl) | kernel_rfl
theorem over : Rows.fnKeccakRow.holds Try.pinned (OpenSpec.ofChange Rows.fnKeccakSpec) :=
  OpenClaim.holds_of_wide 7 Try.f7 rfl rfl rfl rfl rfl rfl rfl ⟨rfl, rfl, rfl, rfl, rfl⟩ rfl rfl rfl rfl rfl (by kernel_rfl) Try.func7 closed
    (of_decide_eq_true (by kernel_rfl)) (by unfold Func.isWrapper; first | (rw [if_pos (by decide +kernel)]; kernel_rfl) | (rw [if_neg (by decide +kernel)]; exact ⟨rfl, rfl⟩))
    (fun os started H enc _ => lifted os started H enc)
theorem proved : Rows.FnKeccakSaid := over
#print axioms proved
end Go.Proofs.Ytlogocmojnhpbaa.fnKeccak
namespace Go.Proofs.Ytlogocmojnhpbaa
/-- The row, under a short name, for the claim. -/
theorem fnKeccak_holds : Rows.FnKeccakSaid := fnKeccak.proved
end Go.Proofs.Ytlogocmojnhpbaa
