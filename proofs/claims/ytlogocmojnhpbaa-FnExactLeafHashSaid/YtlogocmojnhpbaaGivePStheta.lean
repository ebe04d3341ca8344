/- The contract of the reference's permutation: its inner loops. -/
import Derived.Test.YtlogocmojnhpbaaGivePermE
namespace Go.Proofs.Ytlogocmojnhpbaa.Print
open Go.RowKit Go.Proofs.YtlogocmojnhpbaaW.PrintWords
set_option linter.unusedVariables false
set_option linter.unusedSimpArgs false
set_option maxHeartbeats 8000000 in
set_option maxRecDepth 100000 in
theorem permS.theta (g gs : Nat) (a c : List Int) (wr : World) {u0 u2 u3 u4 u5 u7 u9 u10 u11 u12 u13 u14 u15 u16 u17 u18 u19 u20 u21 u22 u23 u24 u25 u26 u27 u28 u29 u30 u31 u32 u33 u34 u35 u36 u37 u38 u39 u40 u41 u42 u43 u44 u45 u46 u47 u48 u49 u50 u51 u52 u53 u54 u55 u56 u57 u58 u59 u60 u61 u62 u63 u64 u65 u66 u67 u68 u69 u70 u71 u72 u73 u74 u75 u76 u77 u78 u79 u80 u81 u82 u83 u84 u85 u86 u87 u88 u89 u90 u91 u92 u93 u94 u95 u96 u97 u98 u99 u100 u101 u102 u103 u104 u105 u106 u107 u108 u109 u110 u111 u112 u113 u114 u115 u116 u117 u118 u119 u120 u121 u122 u123 u124 u125 u126 u127 u128 u129 u130 u131 u132 u133 u134 u135 u136 u137 u138 u139 u140 u141 u142 u143 u144 u145 u146 u147 u148 : Value} {Q : Exit → Act → World → Prop} (ha : a.length = 25) (hcl : c.length = 5) (hne : gs ≠ g) (hb : Arr wr g 93 .u64 a) (hc : Arr wr gs 149 .u64 c)
    (hexit : ∀ (a' : Act) (w' : World), Arr w' g 93 .u64 (sTheta c a 25) → Moved wr w' (fun i => i = g) → (∃ z8 z50 z51 z52 z53 z54 z55 z56 z57 z58 z59 z60 z61 z62 z63 z64 z65 z66 z67 z68 z69 z70 : Value, a' = ⟨List.toArray (u0 :: Value.pointer (some ⟨g, 0, none⟩) :: u2 :: u3 :: u4 :: u5 :: Value.pointer (some ⟨gs, 0, none⟩) :: u7 :: z8 :: u9 :: u10 :: u11 :: u12 :: u13 :: u14 :: u15 :: u16 :: u17 :: u18 :: u19 :: u20 :: u21 :: u22 :: u23 :: u24 :: u25 :: u26 :: u27 :: u28 :: u29 :: u30 :: u31 :: u32 :: u33 :: u34 :: u35 :: u36 :: u37 :: u38 :: u39 :: u40 :: u41 :: u42 :: u43 :: u44 :: u45 :: u46 :: u47 :: u48 :: u49 :: z50 :: z51 :: z52 :: z53 :: z54 :: z55 :: z56 :: z57 :: z58 :: z59 :: z60 :: z61 :: z62 :: z63 :: z64 :: z65 :: z66 :: z67 :: z68 :: z69 :: z70 :: u71 :: u72 :: u73 :: u74 :: u75 :: u76 :: u77 :: u78 :: u79 :: u80 :: u81 :: u82 :: u83 :: u84 :: u85 :: u86 :: u87 :: u88 :: u89 :: u90 :: u91 :: u92 :: u93 :: u94 :: u95 :: u96 :: u97 :: u98 :: u99 :: u100 :: u101 :: u102 :: u103 :: u104 :: u105 :: u106 :: u107 :: u108 :: u109 :: u110 :: u111 :: u112 :: u113 :: u114 :: u115 :: u116 :: u117 :: u118 :: u119 :: u120 :: u121 :: u122 :: u123 :: u124 :: u125 :: u126 :: u127 :: u128 :: u129 :: u130 :: u131 :: u132 :: u133 :: u134 :: u135 :: u136 :: u137 :: u138 :: u139 :: u140 :: u141 :: u142 :: u143 :: u144 :: u145 :: u146 :: u147 :: u148 :: []), []⟩) → Q (.exit 4) a' w') :
    Code.wp Try.prog (nthLoop Try.f81.body 2) Q ⟨List.toArray (u0 :: Value.pointer (some ⟨g, 0, none⟩) :: u2 :: u3 :: u4 :: u5 :: Value.pointer (some ⟨gs, 0, none⟩) :: u7 :: Value.int .i64 0 :: u9 :: u10 :: u11 :: u12 :: u13 :: u14 :: u15 :: u16 :: u17 :: u18 :: u19 :: u20 :: u21 :: u22 :: u23 :: u24 :: u25 :: u26 :: u27 :: u28 :: u29 :: u30 :: u31 :: u32 :: u33 :: u34 :: u35 :: u36 :: u37 :: u38 :: u39 :: u40 :: u41 :: u42 :: u43 :: u44 :: u45 :: u46 :: u47 :: u48 :: u49 :: u50 :: u51 :: u52 :: u53 :: u54 :: u55 :: u56 :: u57 :: u58 :: u59 :: u60 :: u61 :: u62 :: u63 :: u64 :: u65 :: u66 :: u67 :: u68 :: u69 :: u70 :: u71 :: u72 :: u73 :: u74 :: u75 :: u76 :: u77 :: u78 :: u79 :: u80 :: u81 :: u82 :: u83 :: u84 :: u85 :: u86 :: u87 :: u88 :: u89 :: u90 :: u91 :: u92 :: u93 :: u94 :: u95 :: u96 :: u97 :: u98 :: u99 :: u100 :: u101 :: u102 :: u103 :: u104 :: u105 :: u106 :: u107 :: u108 :: u109 :: u110 :: u111 :: u112 :: u113 :: u114 :: u115 :: u116 :: u117 :: u118 :: u119 :: u120 :: u121 :: u122 :: u123 :: u124 :: u125 :: u126 :: u127 :: u128 :: u129 :: u130 :: u131 :: u132 :: u133 :: u134 :: u135 :: u136 :: u137 :: u138 :: u139 :: u140 :: u141 :: u142 :: u143 :: u144 :: u145 :: u146 :: u147 :: u148 :: []), []⟩ wr := by
  conv => arg 2; whnf
  have HB := Aside0.mk hb
  have HC := Aside0.mk hc
  have HX := Aside0.mk hexit
  clear hb hc hexit
  go_loopg [8] 25 (fun gg s8 w' => ∃ k : Nat, k ≤ 25 ∧ 25 - k ≤ gg ∧ s8 = .int .i64 k ∧ Aside0 (Arr w' g 93 .u64 (sTheta c a k)) ∧ Aside0 (Moved wr w' (fun i => i = g)))
  case atStart => exact ⟨0, by omega, by omega, rfl, HB, ⟨Moved.refl _ _⟩⟩
  case round =>
    obtain ⟨k, hk, hg, rfl, HK, HO⟩ := hrel
    by_cases hlt : k < 25
    · have hltz : (k : Int) < 25 := by omega
      have h0z : (0 : Int) ≤ (k : Int) := by omega
      have HG := HC.out.moved HO.out (fun e => hne e)
      have q0 := HK.out.cell k (by rw [sTheta_length]; omega)
      have f0 := HK.out.frozen k
      have q1 := HG.cell ((k + 4) % 5) (by omega)
      have q2 := HG.cell ((k + 1) % 5) (by omega)
      clear hlt
      go_wp2
      have m4 : IntKind.i64.wrap ((k : Int) + 4) = (k : Int) + 4 := by rw [IntKind.wrap_i64]; omega
      have r4 : ((k : Int) + 4).tmod 5 = ((k : Int) + 4) % 5 := Int.tmod_eq_emod_of_nonneg (by omega)
      have s4 : IntKind.i64.wrap (((k : Int) + 4) % 5) = ((k : Int) + 4) % 5 := by rw [IntKind.wrap_i64]; omega
      have l4 : ((k : Int) + 4) % 5 < 5 := by omega
      have z4 : (0 : Int) ≤ ((k : Int) + 4) % 5 := by omega
      have t4 : (((k : Int) + 4) % 5).toNat = (k + 4) % 5 := by omega
      have m1 : IntKind.i64.wrap ((k : Int) + 1) = (k : Int) + 1 := by rw [IntKind.wrap_i64]; omega
      have r1 : ((k : Int) + 1).tmod 5 = ((k : Int) + 1) % 5 := Int.tmod_eq_emod_of_nonneg (by omega)
      have s1 : IntKind.i64.wrap (((k : Int) + 1) % 5) = ((k : Int) + 1) % 5 := by rw [IntKind.wrap_i64]; omega
      have l1 : ((k : Int) + 1) % 5 < 5 := by omega
      have z1 : (0 : Int) ≤ ((k : Int) + 1) % 5 := by omega
      have t1 : (((k : Int) + 1) % 5).toNat = (k + 1) % 5 := by omega
      refine wp_region_still_tail 17 (by kernel_rfl) (by kernel_rfl) ?_
      show wpStill _ _ (World.drew _) (fun a' => wpList _ _ _ _ a' (World.drew _)) _ _
      simp only [List.take_succ_cons, List.take_zero, List.drop_succ_cons, List.drop_zero]
      repeat still_step
      still_call (turn.still _ _ _ (by omega) (by omega))
      repeat still_step
      refine wpStill_nil ?_
      clear m4 r4 s4 l4 z4 t4 m1 r1 s1 l1 z1 t1
      go_wp2
      go_roundg (25 - (k + 1))
      case measure => omega
      case rel => exact ⟨k + 1, by omega, by omega, by go_num, ⟨(HK.out.drew).set k _⟩, ⟨(HO.out.drew).set g _ _ (.inl rfl)⟩⟩
    · have hk25 : k = 25 := by omega
      subst hk25
      go_wp2
      exact HX.out _ _ HK.out HO.out ⟨_, _, _, _, _, _, _, _, _, _, _, _, _, _, _, _, _, _, _, _, _, _, rfl⟩
end Go.Proofs.Ytlogocmojnhpbaa.Print
