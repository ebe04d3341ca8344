/- The contract of the reference's permutation: its inner loops. -/
import Derived.Test.YtlogocmojnhpbaaGivePermE
namespace Go.Proofs.Ytlogocmojnhpbaa.Print
open Go.RowKit Go.Proofs.YtlogocmojnhpbaaW.PrintWords
set_option linter.unusedVariables false
set_option linter.unusedSimpArgs false
set_option maxHeartbeats 8000000 in
set_option maxRecDepth 100000 in
theorem permS.sums (g gs : Nat) (a : List Int) (wr : World) {u0 u2 u3 u4 u5 u8 u9 u10 u11 u12 u13 u14 u15 u16 u17 u18 u19 u20 u21 u22 u23 u24 u25 u26 u27 u28 u29 u30 u31 u32 u33 u34 u35 u36 u37 u38 u39 u40 u41 u42 u43 u44 u45 u46 u47 u48 u49 u50 u51 u52 u53 u54 u55 u56 u57 u58 u59 u60 u61 u62 u63 u64 u65 u66 u67 u68 u69 u70 u71 u72 u73 u74 u75 u76 u77 u78 u79 u80 u81 u82 u83 u84 u85 u86 u87 u88 u89 u90 u91 u92 u93 u94 u95 u96 u97 u98 u99 u100 u101 u102 u103 u104 u105 u106 u107 u108 u109 u110 u111 u112 u113 u114 u115 u116 u117 u118 u119 u120 u121 u122 u123 u124 u125 u126 u127 u128 u129 u130 u131 u132 u133 u134 u135 u136 u137 u138 u139 u140 u141 u142 u143 u144 u145 u146 u147 u148 : Value} {Q : Exit → Act → World → Prop} (ha : a.length = 25) (hne : gs ≠ g) (hb : Arr wr g 93 .u64 a) (hc : Arr wr gs 149 .u64 (sSums a 0))
    (hexit : ∀ (a' : Act) (w' : World), Arr w' gs 149 .u64 (sSums a 5) → Moved wr w' (fun i => i = gs) → (∃ z7 z21 z22 z23 z24 z25 z26 z27 z28 z29 z30 z31 z32 z33 z34 z35 z36 z37 z38 z39 z40 z41 z42 z43 z44 z45 z46 z47 z48 z49 : Value, a' = ⟨List.toArray (u0 :: Value.pointer (some ⟨g, 0, none⟩) :: u2 :: u3 :: u4 :: u5 :: Value.pointer (some ⟨gs, 0, none⟩) :: z7 :: u8 :: u9 :: u10 :: u11 :: u12 :: u13 :: u14 :: u15 :: u16 :: u17 :: u18 :: u19 :: u20 :: z21 :: z22 :: z23 :: z24 :: z25 :: z26 :: z27 :: z28 :: z29 :: z30 :: z31 :: z32 :: z33 :: z34 :: z35 :: z36 :: z37 :: z38 :: z39 :: z40 :: z41 :: z42 :: z43 :: z44 :: z45 :: z46 :: z47 :: z48 :: z49 :: u50 :: u51 :: u52 :: u53 :: u54 :: u55 :: u56 :: u57 :: u58 :: u59 :: u60 :: u61 :: u62 :: u63 :: u64 :: u65 :: u66 :: u67 :: u68 :: u69 :: u70 :: u71 :: u72 :: u73 :: u74 :: u75 :: u76 :: u77 :: u78 :: u79 :: u80 :: u81 :: u82 :: u83 :: u84 :: u85 :: u86 :: u87 :: u88 :: u89 :: u90 :: u91 :: u92 :: u93 :: u94 :: u95 :: u96 :: u97 :: u98 :: u99 :: u100 :: u101 :: u102 :: u103 :: u104 :: u105 :: u106 :: u107 :: u108 :: u109 :: u110 :: u111 :: u112 :: u113 :: u114 :: u115 :: u116 :: u117 :: u118 :: u119 :: u120 :: u121 :: u122 :: u123 :: u124 :: u125 :: u126 :: u127 :: u128 :: u129 :: u130 :: u131 :: u132 :: u133 :: u134 :: u135 :: u136 :: u137 :: u138 :: u139 :: u140 :: u141 :: u142 :: u143 :: u144 :: u145 :: u146 :: u147 :: u148 :: []), []⟩) → Q (.exit 2) a' w') :
    Code.wp Try.prog (nthLoop Try.f81.body 1) Q ⟨List.toArray (u0 :: Value.pointer (some ⟨g, 0, none⟩) :: u2 :: u3 :: u4 :: u5 :: Value.pointer (some ⟨gs, 0, none⟩) :: Value.int .i64 0 :: u8 :: u9 :: u10 :: u11 :: u12 :: u13 :: u14 :: u15 :: u16 :: u17 :: u18 :: u19 :: u20 :: u21 :: u22 :: u23 :: u24 :: u25 :: u26 :: u27 :: u28 :: u29 :: u30 :: u31 :: u32 :: u33 :: u34 :: u35 :: u36 :: u37 :: u38 :: u39 :: u40 :: u41 :: u42 :: u43 :: u44 :: u45 :: u46 :: u47 :: u48 :: u49 :: u50 :: u51 :: u52 :: u53 :: u54 :: u55 :: u56 :: u57 :: u58 :: u59 :: u60 :: u61 :: u62 :: u63 :: u64 :: u65 :: u66 :: u67 :: u68 :: u69 :: u70 :: u71 :: u72 :: u73 :: u74 :: u75 :: u76 :: u77 :: u78 :: u79 :: u80 :: u81 :: u82 :: u83 :: u84 :: u85 :: u86 :: u87 :: u88 :: u89 :: u90 :: u91 :: u92 :: u93 :: u94 :: u95 :: u96 :: u97 :: u98 :: u99 :: u100 :: u101 :: u102 :: u103 :: u104 :: u105 :: u106 :: u107 :: u108 :: u109 :: u110 :: u111 :: u112 :: u113 :: u114 :: u115 :: u116 :: u117 :: u118 :: u119 :: u120 :: u121 :: u122 :: u123 :: u124 :: u125 :: u126 :: u127 :: u128 :: u129 :: u130 :: u131 :: u132 :: u133 :: u134 :: u135 :: u136 :: u137 :: u138 :: u139 :: u140 :: u141 :: u142 :: u143 :: u144 :: u145 :: u146 :: u147 :: u148 :: []), []⟩ wr := by
  conv => arg 2; whnf
  have HB := Aside0.mk hb
  have HC := Aside0.mk hc
  have HX := Aside0.mk hexit
  clear hb hc hexit
  go_loopg [7] 5 (fun gg s7 w' => ∃ k : Nat, k ≤ 5 ∧ 5 - k ≤ gg ∧ s7 = .int .i64 k ∧ Aside0 (Arr w' gs 149 .u64 (sSums a k)) ∧ Aside0 (Moved wr w' (fun i => i = gs)))
  case atStart => exact ⟨0, by omega, by omega, rfl, HC, ⟨Moved.refl _ _⟩⟩
  case round =>
    obtain ⟨k, hk, hg, rfl, HK, HO⟩ := hrel
    by_cases hlt : k < 5
    · have hltz : (k : Int) < 5 := by omega
      have h0z : (0 : Int) ≤ (k : Int) := by omega
      have HG := HB.out.moved HO.out (fun e => hne e.symm)
      have q0 := HG.cell k (by omega)
      have q1 := HG.cell (k + 5) (by omega)
      have q2 := HG.cell (k + 10) (by omega)
      have q3 := HG.cell (k + 15) (by omega)
      have q4 := HG.cell (k + 20) (by omega)
      have q5 := HK.out.cell k (by rw [sSums_length]; omega)
      have f5 := HK.out.frozen k
      clear hlt
      go_wp2
      have l0 : (k : Int) < 25 := by omega
      have m5 : IntKind.i64.wrap ((k : Int) + 5) = (k : Int) + 5 := by rw [IntKind.wrap_i64]; omega
      have l5 : (k : Int) + 5 < 25 := by omega
      have z5 : (0 : Int) ≤ (k : Int) + 5 := by omega
      have t5 : ((k : Int) + 5).toNat = k + 5 := by omega
      have m10 : IntKind.i64.wrap ((k : Int) + 10) = (k : Int) + 10 := by rw [IntKind.wrap_i64]; omega
      have l10 : (k : Int) + 10 < 25 := by omega
      have z10 : (0 : Int) ≤ (k : Int) + 10 := by omega
      have t10 : ((k : Int) + 10).toNat = k + 10 := by omega
      have m15 : IntKind.i64.wrap ((k : Int) + 15) = (k : Int) + 15 := by rw [IntKind.wrap_i64]; omega
      have l15 : (k : Int) + 15 < 25 := by omega
      have z15 : (0 : Int) ≤ (k : Int) + 15 := by omega
      have t15 : ((k : Int) + 15).toNat = k + 15 := by omega
      have m20 : IntKind.i64.wrap ((k : Int) + 20) = (k : Int) + 20 := by rw [IntKind.wrap_i64]; omega
      have l20 : (k : Int) + 20 < 25 := by omega
      have z20 : (0 : Int) ≤ (k : Int) + 20 := by omega
      have t20 : ((k : Int) + 20).toNat = k + 20 := by omega
      refine wp_region_still_tail 25 (by kernel_rfl) (by kernel_rfl) ?_
      show wpStill _ _ (World.drew _) (fun a' => wpList _ _ _ _ a' (World.drew _)) _ _
      simp only [List.take_succ_cons, List.take_zero, List.drop_succ_cons, List.drop_zero]
      repeat still_step
      refine wpStill_nil ?_
      clear l0 m5 l5 z5 t5 m10 l10 z10 t10 m15 l15 z15 t15 m20 l20 z20 t20
      go_wp2
      go_roundg (5 - (k + 1))
      case measure => omega
      case rel => exact ⟨k + 1, by omega, by omega, by go_num, ⟨(HK.out.drew).set k _⟩, ⟨(HO.out.drew).set gs _ _ (.inl rfl)⟩⟩
    · have hk25 : k = 5 := by omega
      subst hk25
      go_wp2
      exact HX.out _ _ HK.out HO.out ⟨_, _, _, _, _, _, _, _, _, _, _, _, _, _, _, _, _, _, _, _, _, _, _, _, _, _, _, _, _, _, rfl⟩
end Go.Proofs.Ytlogocmojnhpbaa.Print
