/- The contract of the reference's permutation: its inner loops. -/
import Derived.Test.YtlogocmojnhpbaaGivePermE
namespace Go.Proofs.Ytlogocmojnhpbaa.Print
open Go.RowKit Go.Proofs.YtlogocmojnhpbaaW.PrintWords
set_option linter.unusedVariables false
set_option linter.unusedSimpArgs false
set_option maxHeartbeats 8000000 in
set_option maxRecDepth 100000 in
theorem permS.moveIn (g gh gb x : Nat) (a b : List Int) (wr : World) {u0 u2 u3 u5 u6 u7 u8 u12 u13 u14 u15 u16 u17 u18 u19 u20 u21 u22 u23 u24 u25 u26 u27 u28 u29 u30 u31 u32 u33 u34 u35 u36 u37 u38 u39 u40 u41 u42 u43 u44 u45 u46 u47 u48 u49 u50 u51 u52 u53 u54 u55 u56 u57 u58 u59 u60 u61 u62 u63 u64 u65 u66 u67 u68 u69 u70 u71 u72 u73 u74 u75 u76 u77 u78 u79 u80 u81 u82 u83 u84 u85 u86 u87 u88 u89 u90 u91 u92 u93 u94 u95 u96 u97 u98 u99 u100 u101 u102 u103 u104 u105 u106 u107 u108 u109 u110 u111 u112 u113 u114 u115 u116 u117 u118 u119 u120 u121 u122 u123 u124 u125 u126 u127 u128 u129 u130 u131 u132 u133 u134 u135 u136 u137 u138 u139 u140 u141 u142 u143 u144 u145 u146 u147 u148 : Value} {Q : Exit → Act → World → Prop} (ha : a.length = 25) (hbl : b.length = 25) (hx : x < 5) (n1 : gb ≠ g) (n2 : gb ≠ gh) (hb : Arr wr g 93 .u64 a) (hh : Arr wr gh 147 .u64 kShifts) (hm : Arr wr gb 93 .u64 b)
    (hexit : ∀ (a' : Act) (w' : World), Arr w' gb 93 .u64 (sMoveIn a b x 5) → Moved wr w' (fun i => i = gb) → (∃ z11 z76 z77 z78 z79 z80 z81 z82 z83 z84 z85 z86 z87 z88 z89 z90 z91 z92 z93 z94 z95 z96 z97 z98 z99 z100 z101 z102 : Value, a' = ⟨List.toArray (u0 :: Value.pointer (some ⟨g, 0, none⟩) :: u2 :: u3 :: Value.pointer (some ⟨gh, 0, none⟩) :: u5 :: u6 :: u7 :: u8 :: Value.pointer (some ⟨gb, 0, none⟩) :: Value.int .i64 (x : Int) :: z11 :: u12 :: u13 :: u14 :: u15 :: u16 :: u17 :: u18 :: u19 :: u20 :: u21 :: u22 :: u23 :: u24 :: u25 :: u26 :: u27 :: u28 :: u29 :: u30 :: u31 :: u32 :: u33 :: u34 :: u35 :: u36 :: u37 :: u38 :: u39 :: u40 :: u41 :: u42 :: u43 :: u44 :: u45 :: u46 :: u47 :: u48 :: u49 :: u50 :: u51 :: u52 :: u53 :: u54 :: u55 :: u56 :: u57 :: u58 :: u59 :: u60 :: u61 :: u62 :: u63 :: u64 :: u65 :: u66 :: u67 :: u68 :: u69 :: u70 :: u71 :: u72 :: u73 :: u74 :: u75 :: z76 :: z77 :: z78 :: z79 :: z80 :: z81 :: z82 :: z83 :: z84 :: z85 :: z86 :: z87 :: z88 :: z89 :: z90 :: z91 :: z92 :: z93 :: z94 :: z95 :: z96 :: z97 :: z98 :: z99 :: z100 :: z101 :: z102 :: u103 :: u104 :: u105 :: u106 :: u107 :: u108 :: u109 :: u110 :: u111 :: u112 :: u113 :: u114 :: u115 :: u116 :: u117 :: u118 :: u119 :: u120 :: u121 :: u122 :: u123 :: u124 :: u125 :: u126 :: u127 :: u128 :: u129 :: u130 :: u131 :: u132 :: u133 :: u134 :: u135 :: u136 :: u137 :: u138 :: u139 :: u140 :: u141 :: u142 :: u143 :: u144 :: u145 :: u146 :: u147 :: u148 :: []), []⟩) → Q (.exit 8) a' w') :
    Code.wp Try.prog (nthLoop Try.f81.body 4) Q ⟨List.toArray (u0 :: Value.pointer (some ⟨g, 0, none⟩) :: u2 :: u3 :: Value.pointer (some ⟨gh, 0, none⟩) :: u5 :: u6 :: u7 :: u8 :: Value.pointer (some ⟨gb, 0, none⟩) :: Value.int .i64 (x : Int) :: Value.int .i64 0 :: u12 :: u13 :: u14 :: u15 :: u16 :: u17 :: u18 :: u19 :: u20 :: u21 :: u22 :: u23 :: u24 :: u25 :: u26 :: u27 :: u28 :: u29 :: u30 :: u31 :: u32 :: u33 :: u34 :: u35 :: u36 :: u37 :: u38 :: u39 :: u40 :: u41 :: u42 :: u43 :: u44 :: u45 :: u46 :: u47 :: u48 :: u49 :: u50 :: u51 :: u52 :: u53 :: u54 :: u55 :: u56 :: u57 :: u58 :: u59 :: u60 :: u61 :: u62 :: u63 :: u64 :: u65 :: u66 :: u67 :: u68 :: u69 :: u70 :: u71 :: u72 :: u73 :: u74 :: u75 :: u76 :: u77 :: u78 :: u79 :: u80 :: u81 :: u82 :: u83 :: u84 :: u85 :: u86 :: u87 :: u88 :: u89 :: u90 :: u91 :: u92 :: u93 :: u94 :: u95 :: u96 :: u97 :: u98 :: u99 :: u100 :: u101 :: u102 :: u103 :: u104 :: u105 :: u106 :: u107 :: u108 :: u109 :: u110 :: u111 :: u112 :: u113 :: u114 :: u115 :: u116 :: u117 :: u118 :: u119 :: u120 :: u121 :: u122 :: u123 :: u124 :: u125 :: u126 :: u127 :: u128 :: u129 :: u130 :: u131 :: u132 :: u133 :: u134 :: u135 :: u136 :: u137 :: u138 :: u139 :: u140 :: u141 :: u142 :: u143 :: u144 :: u145 :: u146 :: u147 :: u148 :: []), []⟩ wr := by
  conv => arg 2; whnf
  have HB := Aside0.mk hb
  have HH := Aside0.mk hh
  have HM := Aside0.mk hm
  have HX := Aside0.mk hexit
  clear hb hh hexit hm
  go_loopg [11] 5 (fun gg s11 w' => ∃ k : Nat, k ≤ 5 ∧ 5 - k ≤ gg ∧ s11 = .int .i64 k ∧ Aside0 (Arr w' gb 93 .u64 (sMoveIn a b x k)) ∧ Aside0 (Moved wr w' (fun i => i = gb)))
  case atStart => exact ⟨0, by omega, by omega, rfl, HM, ⟨Moved.refl _ _⟩⟩
  case round =>
    obtain ⟨k, hk, hg, rfl, HK, HO⟩ := hrel
    by_cases hlt : k < 5
    · have hltz : (k : Int) < 5 := by omega
      have h0z : (0 : Int) ≤ (k : Int) := by omega
      have HG := HB.out.moved HO.out (fun e => n1 e.symm)
      have HG2 := HH.out.moved HO.out (fun e => n2 e.symm)
      have q0 := HG.cell (x + 5 * k) (by omega)
      have q1 := HG2.cell (x + 5 * k) (by show x + 5 * k < 25; omega)
      have q2 := HK.out.cell (k + 5 * ((2 * x + 3 * k) % 5)) (by rw [sMoveIn_length]; omega)
      have f2 := HK.out.frozen (k + 5 * ((2 * x + 3 * k) % 5))
      have b3 : 0 ≤ kShifts.getD (x + 5 * k) 0 ∧ kShifts.getD (x + 5 * k) 0 < 64 := kShifts_bd _
      obtain ⟨sh, hsh⟩ : ∃ sh, sh = kShifts.getD (x + 5 * k) 0 := ⟨_, rfl⟩
      rw [← hsh] at q1 b3
      have HS := Aside0.mk hsh
      clear hsh hlt
      go_wp2
      have m1 : IntKind.i64.wrap (2 * (x : Int)) = 2 * (x : Int) := by rw [IntKind.wrap_i64]; omega
      have m2 : IntKind.i64.wrap (3 * (k : Int)) = 3 * (k : Int) := by rw [IntKind.wrap_i64]; omega
      have m3 : IntKind.i64.wrap (2 * (x : Int) + 3 * (k : Int)) = 2 * (x : Int) + 3 * (k : Int) := by rw [IntKind.wrap_i64]; omega
      have m4 : (2 * (x : Int) + 3 * (k : Int)).tmod 5 = (2 * (x : Int) + 3 * (k : Int)) % 5 := Int.tmod_eq_emod_of_nonneg (by omega)
      have m5 : IntKind.i64.wrap ((2 * (x : Int) + 3 * (k : Int)) % 5) = (2 * (x : Int) + 3 * (k : Int)) % 5 := by rw [IntKind.wrap_i64]; omega
      have m6 : IntKind.i64.wrap (5 * ((2 * (x : Int) + 3 * (k : Int)) % 5)) = 5 * ((2 * (x : Int) + 3 * (k : Int)) % 5) := by rw [IntKind.wrap_i64]; omega
      have m7 : IntKind.i64.wrap ((k : Int) + 5 * ((2 * (x : Int) + 3 * (k : Int)) % 5)) = (k : Int) + 5 * ((2 * (x : Int) + 3 * (k : Int)) % 5) := by rw [IntKind.wrap_i64]; omega
      have m8 : (0 : Int) ≤ (k : Int) + 5 * ((2 * (x : Int) + 3 * (k : Int)) % 5) := by omega
      have m9 : (k : Int) + 5 * ((2 * (x : Int) + 3 * (k : Int)) % 5) < 25 := by omega
      have m10 : ((k : Int) + 5 * ((2 * (x : Int) + 3 * (k : Int)) % 5)).toNat = k + 5 * ((2 * x + 3 * k) % 5) := by omega
      have m11 : IntKind.i64.wrap (5 * (k : Int)) = 5 * (k : Int) := by rw [IntKind.wrap_i64]; omega
      have m12 : IntKind.i64.wrap ((x : Int) + 5 * (k : Int)) = (x : Int) + 5 * (k : Int) := by rw [IntKind.wrap_i64]; omega
      have m13 : (0 : Int) ≤ (x : Int) + 5 * (k : Int) := by omega
      have m14 : (x : Int) + 5 * (k : Int) < 25 := by omega
      have m15 : ((x : Int) + 5 * (k : Int)).toNat = x + 5 * k := by omega
      refine wp_region_still_tail 23 (by kernel_rfl) (by kernel_rfl) ?_
      show wpStill _ _ (World.drew _) (fun a' => wpList _ _ _ _ a' (World.drew _)) _ _
      simp only [List.take_succ_cons, List.take_zero, List.drop_succ_cons, List.drop_zero]
      repeat still_step
      still_call (turn.still _ _ _ b3.1 b3.2)
      repeat still_step
      refine wpStill_nil ?_
      clear m1 m2 m3 m4 m5 m6 m7 m8 m9 m10 m11 m12 m13 m14 m15
      go_wp2
      go_roundg (5 - (k + 1))
      case measure => omega
      case rel => exact ⟨k + 1, by omega, by omega, by go_num, ⟨by rw [HS.out]; exact (HK.out.drew).set (k + 5 * ((2 * x + 3 * k) % 5)) _⟩, ⟨(HO.out.drew).set gb _ _ (.inl rfl)⟩⟩
    · have hk25 : k = 5 := by omega
      subst hk25
      go_wp2
      exact HX.out _ _ HK.out HO.out ⟨_, _, _, _, _, _, _, _, _, _, _, _, _, _, _, _, _, _, _, _, _, _, _, _, _, _, _, _, rfl⟩
end Go.Proofs.Ytlogocmojnhpbaa.Print
