/- The contract of the reference's permutation: its inner loops. -/
import Derived.Test.YtlogocmojnhpbaaGivePermE
namespace Go.Proofs.Ytlogocmojnhpbaa.Print
open Go.RowKit Go.Proofs.YtlogocmojnhpbaaW.PrintWords
set_option linter.unusedVariables false
set_option linter.unusedSimpArgs false
set_option maxHeartbeats 8000000 in
set_option maxRecDepth 100000 in
theorem permS.chiIn (g gb x : Nat) (a b : List Int) (wr : World) {u0 u2 u3 u4 u5 u6 u7 u8 u10 u11 u14 u15 u16 u17 u18 u19 u20 u21 u22 u23 u24 u25 u26 u27 u28 u29 u30 u31 u32 u33 u34 u35 u36 u37 u38 u39 u40 u41 u42 u43 u44 u45 u46 u47 u48 u49 u50 u51 u52 u53 u54 u55 u56 u57 u58 u59 u60 u61 u62 u63 u64 u65 u66 u67 u68 u69 u70 u71 u72 u73 u74 u75 u76 u77 u78 u79 u80 u81 u82 u83 u84 u85 u86 u87 u88 u89 u90 u91 u92 u93 u94 u95 u96 u97 u98 u99 u100 u101 u102 u103 u104 u105 u106 u107 u108 u109 u110 u111 u112 u113 u114 u115 u116 u117 u118 u119 u120 u121 u122 u123 u124 u125 u126 u127 u128 u129 u130 u131 u132 u133 u134 u135 u136 u137 u138 u139 u140 u141 u142 u143 u144 u145 u146 u147 u148 : Value} {Q : Exit → Act → World → Prop} (ha : a.length = 25) (hbl : b.length = 25) (hx : x < 5) (n1 : gb ≠ g) (hb : Arr wr g 93 .u64 a) (hm : Arr wr gb 93 .u64 b)
    (hexit : ∀ (a' : Act) (w' : World), Arr w' g 93 .u64 (sChiIn b a x 5) → Moved wr w' (fun i => i = g) → (∃ z13 z107 z108 z109 z110 z111 z112 z113 z114 z115 z116 z117 z118 z119 z120 z121 z122 z123 z124 z125 z126 z127 z128 z129 z130 z131 z132 z133 z134 z135 z136 z137 z138 z139 z140 : Value, a' = ⟨List.toArray (u0 :: Value.pointer (some ⟨g, 0, none⟩) :: u2 :: u3 :: u4 :: u5 :: u6 :: u7 :: u8 :: Value.pointer (some ⟨gb, 0, none⟩) :: u10 :: u11 :: Value.int .i64 (x : Int) :: z13 :: u14 :: u15 :: u16 :: u17 :: u18 :: u19 :: u20 :: u21 :: u22 :: u23 :: u24 :: u25 :: u26 :: u27 :: u28 :: u29 :: u30 :: u31 :: u32 :: u33 :: u34 :: u35 :: u36 :: u37 :: u38 :: u39 :: u40 :: u41 :: u42 :: u43 :: u44 :: u45 :: u46 :: u47 :: u48 :: u49 :: u50 :: u51 :: u52 :: u53 :: u54 :: u55 :: u56 :: u57 :: u58 :: u59 :: u60 :: u61 :: u62 :: u63 :: u64 :: u65 :: u66 :: u67 :: u68 :: u69 :: u70 :: u71 :: u72 :: u73 :: u74 :: u75 :: u76 :: u77 :: u78 :: u79 :: u80 :: u81 :: u82 :: u83 :: u84 :: u85 :: u86 :: u87 :: u88 :: u89 :: u90 :: u91 :: u92 :: u93 :: u94 :: u95 :: u96 :: u97 :: u98 :: u99 :: u100 :: u101 :: u102 :: u103 :: u104 :: u105 :: u106 :: z107 :: z108 :: z109 :: z110 :: z111 :: z112 :: z113 :: z114 :: z115 :: z116 :: z117 :: z118 :: z119 :: z120 :: z121 :: z122 :: z123 :: z124 :: z125 :: z126 :: z127 :: z128 :: z129 :: z130 :: z131 :: z132 :: z133 :: z134 :: z135 :: z136 :: z137 :: z138 :: z139 :: z140 :: u141 :: u142 :: u143 :: u144 :: u145 :: u146 :: u147 :: u148 :: []), []⟩) → Q (.exit 12) a' w') :
    Code.wp Try.prog (nthLoop Try.f81.body 6) Q ⟨List.toArray (u0 :: Value.pointer (some ⟨g, 0, none⟩) :: u2 :: u3 :: u4 :: u5 :: u6 :: u7 :: u8 :: Value.pointer (some ⟨gb, 0, none⟩) :: u10 :: u11 :: Value.int .i64 (x : Int) :: Value.int .i64 0 :: u14 :: u15 :: u16 :: u17 :: u18 :: u19 :: u20 :: u21 :: u22 :: u23 :: u24 :: u25 :: u26 :: u27 :: u28 :: u29 :: u30 :: u31 :: u32 :: u33 :: u34 :: u35 :: u36 :: u37 :: u38 :: u39 :: u40 :: u41 :: u42 :: u43 :: u44 :: u45 :: u46 :: u47 :: u48 :: u49 :: u50 :: u51 :: u52 :: u53 :: u54 :: u55 :: u56 :: u57 :: u58 :: u59 :: u60 :: u61 :: u62 :: u63 :: u64 :: u65 :: u66 :: u67 :: u68 :: u69 :: u70 :: u71 :: u72 :: u73 :: u74 :: u75 :: u76 :: u77 :: u78 :: u79 :: u80 :: u81 :: u82 :: u83 :: u84 :: u85 :: u86 :: u87 :: u88 :: u89 :: u90 :: u91 :: u92 :: u93 :: u94 :: u95 :: u96 :: u97 :: u98 :: u99 :: u100 :: u101 :: u102 :: u103 :: u104 :: u105 :: u106 :: u107 :: u108 :: u109 :: u110 :: u111 :: u112 :: u113 :: u114 :: u115 :: u116 :: u117 :: u118 :: u119 :: u120 :: u121 :: u122 :: u123 :: u124 :: u125 :: u126 :: u127 :: u128 :: u129 :: u130 :: u131 :: u132 :: u133 :: u134 :: u135 :: u136 :: u137 :: u138 :: u139 :: u140 :: u141 :: u142 :: u143 :: u144 :: u145 :: u146 :: u147 :: u148 :: []), []⟩ wr := by
  conv => arg 2; whnf
  have HB := Aside0.mk hb
  have HM := Aside0.mk hm
  have HX := Aside0.mk hexit
  clear hb hexit hm
  go_loopg [13] 5 (fun gg s13 w' => ∃ k : Nat, k ≤ 5 ∧ 5 - k ≤ gg ∧ s13 = .int .i64 k ∧ Aside0 (Arr w' g 93 .u64 (sChiIn b a x k)) ∧ Aside0 (Moved wr w' (fun i => i = g)))
  case atStart => exact ⟨0, by omega, by omega, rfl, HB, ⟨Moved.refl _ _⟩⟩
  case round =>
    obtain ⟨k, hk, hg, rfl, HK, HO⟩ := hrel
    by_cases hlt : k < 5
    · have hltz : (k : Int) < 5 := by omega
      have h0z : (0 : Int) ≤ (k : Int) := by omega
      have HG := HM.out.moved HO.out (fun e => n1 e)
      have q0 := HG.cell (x + 5 * k) (by omega)
      have q1 := HG.cell ((x + 1) % 5 + 5 * k) (by omega)
      have q2 := HG.cell ((x + 2) % 5 + 5 * k) (by omega)
      have q3 := HK.out.cell (x + 5 * k) (by rw [sChiIn_length]; omega)
      have f3 := HK.out.frozen (x + 5 * k)
      clear hlt
      go_wp2
      have m11 : IntKind.i64.wrap (5 * (k : Int)) = 5 * (k : Int) := by rw [IntKind.wrap_i64]; omega
      have m12 : IntKind.i64.wrap ((x : Int) + 5 * (k : Int)) = (x : Int) + 5 * (k : Int) := by rw [IntKind.wrap_i64]; omega
      have m13 : (0 : Int) ≤ (x : Int) + 5 * (k : Int) := by omega
      have m14 : (x : Int) + 5 * (k : Int) < 25 := by omega
      have m15 : ((x : Int) + 5 * (k : Int)).toNat = x + 5 * k := by omega
      have a1 : IntKind.i64.wrap ((x : Int) + 1) = (x : Int) + 1 := by rw [IntKind.wrap_i64]; omega
      have b1 : ((x : Int) + 1).tmod 5 = ((x : Int) + 1) % 5 := Int.tmod_eq_emod_of_nonneg (by omega)
      have c1 : IntKind.i64.wrap (((x : Int) + 1) % 5) = ((x : Int) + 1) % 5 := by rw [IntKind.wrap_i64]; omega
      have d1 : IntKind.i64.wrap (((x : Int) + 1) % 5 + 5 * (k : Int)) = ((x : Int) + 1) % 5 + 5 * (k : Int) := by rw [IntKind.wrap_i64]; omega
      have e1 : (0 : Int) ≤ ((x : Int) + 1) % 5 + 5 * (k : Int) := by omega
      have f1 : ((x : Int) + 1) % 5 + 5 * (k : Int) < 25 := by omega
      have g1 : (((x : Int) + 1) % 5 + 5 * (k : Int)).toNat = (x + 1) % 5 + 5 * k := by omega
      have a2 : IntKind.i64.wrap ((x : Int) + 2) = (x : Int) + 2 := by rw [IntKind.wrap_i64]; omega
      have b2 : ((x : Int) + 2).tmod 5 = ((x : Int) + 2) % 5 := Int.tmod_eq_emod_of_nonneg (by omega)
      have c2 : IntKind.i64.wrap (((x : Int) + 2) % 5) = ((x : Int) + 2) % 5 := by rw [IntKind.wrap_i64]; omega
      have d2 : IntKind.i64.wrap (((x : Int) + 2) % 5 + 5 * (k : Int)) = ((x : Int) + 2) % 5 + 5 * (k : Int) := by rw [IntKind.wrap_i64]; omega
      have e2 : (0 : Int) ≤ ((x : Int) + 2) % 5 + 5 * (k : Int) := by omega
      have f2 : ((x : Int) + 2) % 5 + 5 * (k : Int) < 25 := by omega
      have g2 : (((x : Int) + 2) % 5 + 5 * (k : Int)).toNat = (x + 2) % 5 + 5 * k := by omega
      refine wp_region_still_tail 30 (by kernel_rfl) (by kernel_rfl) ?_
      show wpStill _ _ (World.drew _) (fun a' => wpList _ _ _ _ a' (World.drew _)) _ _
      simp only [List.take_succ_cons, List.take_zero, List.drop_succ_cons, List.drop_zero]
      repeat still_step
      refine wpStill_nil ?_
      clear m11 m12 m13 m14 m15 a1 a2 b1 b2 c1 c2 d1 d2 e1 e2 f1 f2 g1 g2
      go_wp2
      go_roundg (5 - (k + 1))
      case measure => omega
      case rel => exact ⟨k + 1, by omega, by omega, by go_num, ⟨(HK.out.drew).set (x + 5 * k) _⟩, ⟨(HO.out.drew).set g _ _ (.inl rfl)⟩⟩
    · have hk25 : k = 5 := by omega
      subst hk25
      go_wp2
      exact HX.out _ _ HK.out HO.out ⟨_, _, _, _, _, _, _, _, _, _, _, _, _, _, _, _, _, _, _, _, _, _, _, _, _, _, _, _, _, _, _, _, _, _, _, rfl⟩
end Go.Proofs.Ytlogocmojnhpbaa.Print
