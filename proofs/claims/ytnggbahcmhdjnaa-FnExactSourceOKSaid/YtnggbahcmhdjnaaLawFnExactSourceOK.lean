-- Written by a program of this session (mkrow.py); not trusted, Lean checks it.
import Derived.Test.YtnggbahcmhdjnaaRows
import Derived.Test.YtnggbahcmhdjnaaQFnExactSourceOKPure
import Derived.Test.YtnggbahcmhdjnaaRowX
import Derived.WalkKit
import Derived.ProofKit
import Derived.OpenShut
import Derived.ShutString
import Derived.ChangeOld
import Derived.Below
import Derived.SizedLaws
import Derived.Lib.SmallJoins
import Derived.Deep.SlicePairs
import Derived.SliceStrings
namespace Go.Proofs.Ytnggbahcmhdjnaa.fnExactSourceOK
open Go.ChangeShapes Go.WideShapes Go.ChangeAt Go.RowKit Go.Proofs.Ytnggbahcmhdjnaa.Print Go.Proofs.YtnggbahcmhdjnaaW.PrintWords
open Go.ChangeMaps (open_string shut_string)
set_option linter.unusedVariables false
theorem own : ownKnob Try.prog.godebug = none := by kernel_rfl
theorem laidOut : laidOutB Try.prog = true := by kernel_rfl
set_option maxRecDepth 100000 in
theorem lifted (os : Os) (started : os.Started) (H : Type) (enc : TypeId × Value → H) :
    ReturnsInHanded {} Try.checked os 13 .any (Rows.fnExactSourceOKSpec.pre6 enc Try.prog Try.f13 Rows.fnExactSourceOKRow.domain false) (Rows.fnExactSourceOKSpec.post enc Try.prog Try.f13 false true false false) := by
  refine returnsInHanded_of_change_sized (C := Try.checked) own started (by kernel_rfl) Try.func13
    (ChangeSpec.witness6 (enc := enc) (C := Try.checked) false ⟨#[], #[.agg #[.slice none 0 0, .int .i64 0, .string ByteArray.empty, .int .i64 0]], []⟩ 8 (by kernel_rfl) (by kernel_rfl) (by kernel_rfl) (by kernel_rfl)) ?_
  intro W base args ds gs before hval0 hW hcnd hsz0 _
  have hval : ∀ (j : Nat) t v, Try.f13.params[j]? = some t → args[j]? = some v → Value.okWide Try.prog W .any base t v := hval0
  have hW' := hW
  obtain ⟨p, q, hA0, hV, rfl, hfz, hnd⟩ := hW
  have hA : DataW.TrodAll enc Try.prog W 0 (fun _ => true) true Try.f13.params.toList args.toList ds p := hA0
  rw [Try.params13] at hA hval
  obtain ⟨v0, vs0, d0, ds0, p0, q0, hargs, rfl, rfl, h0, r0⟩ := trodAll_cons hA
  obtain ⟨rfl, rfl, rfl⟩ := trodAll_nil r0
  obtain rfl : args = #[v0] := by cases args; simp_all
  obtain ⟨rfl, rfl⟩ := trodVars_none hV
  have k0 := h0
  have lt0 : ∀ x ∈ p0, x.block < W.heap.size := by obtain ⟨m, hm⟩ := k0; exact DataW.trod_lt m _ _ _ hm
  obtain ⟨c0_0, c0_1, c0_2, c0_3, y0_0, y0_1, y0_2, y0_3, m0, rfl, e0d, e0p, hy0_0, hy0_1, hy0_2, hy0_3⟩ := Go.Joins.open_agg4 Try.underlying49 (by kernel_rfl) (by kernel_rfl) (hval 0 49 v0 rfl rfl) h0
  obtain ⟨A0_0, n0_0, C0_0, f0_0⟩ : ∃ a len cap, c0_0 = .slice a len cap := by
    rcases DataW.trod_slice Try.underlying47 hy0_0 with ⟨hcs, _⟩ | ⟨a, len, cap, _, _, _, _, hcs, _⟩ <;> (simp only [List.cons.injEq, and_true] at hcs; exact ⟨_, _, _, hcs⟩)
  subst f0_0
  obtain ⟨l0_0, rfl, hr0_0, hc0_0, w0_0⟩ := RowX.exts_read hy0_0
  obtain ⟨a0_1, f0_1, _, w0_1⟩ := DataW.trod_int Try.underlying3 hy0_1
  obtain ⟨a0_2, f0_2, _, w0_2⟩ := DataW.trod_string Try.underlying9 hy0_2
  obtain ⟨a0_3, f0_3, _, w0_3⟩ := DataW.trod_int Try.underlying3 hy0_3
  simp only [List.cons.injEq, and_true] at f0_1 f0_2 f0_3
  subst f0_1 f0_2 f0_3
  unfold maxLen at w0_2
  clear hA0 hval0 hsz0
  obtain ⟨k, hk⟩ := Pure.FnExactSourceOK l0_0 a0_1 a0_2 a0_3 hr0_0.2.1 w0_0 w0_1 w0_2 w0_3
  refine (laws_FnExactSourceOK.calls k A0_0 C0_0 l0_0 a0_1 a0_2 a0_3 true W hr0_0 hc0_0 hk).mono fun e W' ⟨he, bel0⟩ => ?_
  have bel : Below W.heap.size W W' := bel0
  subst he
  exact ⟨_, rfl, _, _, _, [], _, [], hW', trodAll_mk1 (shut_bool Try.underlying4 _), (trodAll_cons_mk (Below.trod laidOut (by kernel_rfl) (of_decide_eq_true (by kernel_rfl)) k0 bel lt0) trodAll_mk0), rfl, bel.frame _, fun h => by cases h⟩
theorem over : Rows.fnExactSourceOKRow.holds Try.pinned (OpenSpec.ofChange Rows.fnExactSourceOKSpec) :=
  OpenClaim.holds_of_wide 13 Try.f13 rfl rfl rfl rfl rfl rfl rfl ⟨rfl, rfl, rfl, rfl, rfl⟩ rfl rfl rfl rfl rfl (by kernel_rfl) Try.func13 (by kernel_rfl)
    (of_decide_eq_true (by kernel_rfl)) (by unfold Func.isWrapper; first | (rw [if_pos (by decide +kernel)]; kernel_rfl) | (rw [if_neg (by decide +kernel)]; exact ⟨rfl, rfl⟩))
    (fun os started H enc _ => lifted os started H enc)
theorem proved : Rows.FnExactSourceOKSaid := over
#print axioms proved
end Go.Proofs.Ytnggbahcmhdjnaa.fnExactSourceOK
namespace Go.Proofs.Ytnggbahcmhdjnaa
/-- The row, under a short name, for the claim. -/
theorem fnExactSourceOK_holds : Rows.FnExactSourceOKSaid := fnExactSourceOK.proved
end Go.Proofs.Ytnggbahcmhdjnaa
