/- The contract of the program's permutation: what it leaves in the state, as a plain function of lists. -/
import Derived.Test.YtlogocmojnhpbaaGivePermD
namespace Go.Proofs.Ytlogocmojnhpbaa.Print
open Go.RowKit Go.Proofs.YtlogocmojnhpbaaW.PrintWords
set_option linter.unusedVariables false
set_option linter.unusedSimpArgs false
set_option maxHeartbeats 8000000 in
set_option maxRecDepth 100000 in
theorem permI.sums (g gs : Nat) (s : List Int) (wr : World) {u1 u2 u3 u4 u5 u7 u8 u9 u10 u11 u12 u13 u14 u15 u16 u17 u18 u19 u20 u21 u22 u23 u24 u25 u28 u29 u30 u31 u32 u33 u34 u35 u36 u37 u38 u39 u40 u41 u42 u43 u44 u45 u46 u47 u48 u49 u50 u51 u52 u53 u54 u55 u56 u57 u58 u59 u60 u61 u62 u63 u64 u65 u66 u67 u68 u69 u70 u71 u72 u73 u74 u75 u76 u77 u78 u79 u80 u81 u82 u83 u84 u85 u86 u87 u88 u89 u90 u91 u92 u93 u94 u95 u96 u97 u98 u99 u100 u101 u102 u103 u104 u105 u106 u107 u108 u109 u110 u111 u112 u113 u114 u115 u116 u117 u118 u119 u120 u121 u122 u123 : Value} {Q : Exit → Act → World → Prop} (hs : s.length = 25) (hne : gs ≠ g) (hb : Arr wr g 96 .u64 s) (hc : Arr wr gs 149 .u64 (kSums s 0))
    (hexit : ∀ (a' : Act) (w' : World), Arr w' gs 149 .u64 (kSums s 25) → Moved wr w' (fun i => i = gs) → (∃ z8 z9 z27 z28 z29 z30 z31 z32 z33 z34 z35 z36 z37 z38 z39 z40 : Value, a' = ⟨List.toArray (Value.pointer (some ⟨g, 0, none⟩) :: u1 :: u2 :: u3 :: u4 :: u5 :: Value.pointer (some ⟨gs, 0, none⟩) :: u7 :: z8 :: z9 :: u10 :: u11 :: u12 :: u13 :: u14 :: u15 :: u16 :: u17 :: u18 :: u19 :: u20 :: u21 :: u22 :: u23 :: u24 :: u25 :: Value.pointer (some ⟨g, 0, none⟩) :: z27 :: z28 :: z29 :: z30 :: z31 :: z32 :: z33 :: z34 :: z35 :: z36 :: z37 :: z38 :: z39 :: z40 :: u41 :: u42 :: u43 :: u44 :: u45 :: u46 :: u47 :: u48 :: u49 :: u50 :: u51 :: u52 :: u53 :: u54 :: u55 :: u56 :: u57 :: u58 :: u59 :: u60 :: u61 :: u62 :: u63 :: u64 :: u65 :: u66 :: u67 :: u68 :: u69 :: u70 :: u71 :: u72 :: u73 :: u74 :: u75 :: u76 :: u77 :: u78 :: u79 :: u80 :: u81 :: u82 :: u83 :: u84 :: u85 :: u86 :: u87 :: u88 :: u89 :: u90 :: u91 :: u92 :: u93 :: u94 :: u95 :: u96 :: u97 :: u98 :: u99 :: u100 :: u101 :: u102 :: u103 :: u104 :: u105 :: u106 :: u107 :: u108 :: u109 :: u110 :: u111 :: u112 :: u113 :: u114 :: u115 :: u116 :: u117 :: u118 :: u119 :: u120 :: u121 :: u122 :: u123 :: []), []⟩) → Q (.exit 2) a' w') :
    Code.wp Try.prog (nthLoop Try.f85.body 1) Q ⟨List.toArray (Value.pointer (some ⟨g, 0, none⟩) :: u1 :: u2 :: u3 :: u4 :: u5 :: Value.pointer (some ⟨gs, 0, none⟩) :: u7 :: u8 :: u9 :: u10 :: u11 :: u12 :: u13 :: u14 :: u15 :: u16 :: u17 :: u18 :: u19 :: u20 :: u21 :: u22 :: u23 :: u24 :: u25 :: Value.pointer (some ⟨g, 0, none⟩) :: Value.int .i64 0 :: u28 :: u29 :: u30 :: u31 :: u32 :: u33 :: u34 :: u35 :: u36 :: u37 :: u38 :: u39 :: u40 :: u41 :: u42 :: u43 :: u44 :: u45 :: u46 :: u47 :: u48 :: u49 :: u50 :: u51 :: u52 :: u53 :: u54 :: u55 :: u56 :: u57 :: u58 :: u59 :: u60 :: u61 :: u62 :: u63 :: u64 :: u65 :: u66 :: u67 :: u68 :: u69 :: u70 :: u71 :: u72 :: u73 :: u74 :: u75 :: u76 :: u77 :: u78 :: u79 :: u80 :: u81 :: u82 :: u83 :: u84 :: u85 :: u86 :: u87 :: u88 :: u89 :: u90 :: u91 :: u92 :: u93 :: u94 :: u95 :: u96 :: u97 :: u98 :: u99 :: u100 :: u101 :: u102 :: u103 :: u104 :: u105 :: u106 :: u107 :: u108 :: u109 :: u110 :: u111 :: u112 :: u113 :: u114 :: u115 :: u116 :: u117 :: u118 :: u119 :: u120 :: u121 :: u122 :: u123 :: []), []⟩ wr := by
  conv => arg 2; whnf
  have HB := Aside0.mk hb
  have HC := Aside0.mk hc
  have HX := Aside0.mk hexit
  clear hb hc hexit
  go_loopg [27] 25 (fun gg s27 w' => ∃ k : Nat, k ≤ 25 ∧ 25 - k ≤ gg ∧ s27 = .int .i64 k ∧ Aside0 (Arr w' gs 149 .u64 (kSums s k)) ∧ Aside0 (Moved wr w' (fun i => i = gs)))
  case atStart => exact ⟨0, by omega, by omega, rfl, HC, ⟨Moved.refl _ _⟩⟩
  case round =>
    obtain ⟨k, hk, hg, rfl, HK, HO⟩ := hrel
    by_cases hlt : k < 25
    · have hltz : (k : Int) < 25 := by omega
      have h0z : (0 : Int) ≤ (k : Int) := by omega
      have HG := HB.out.moved HO.out (fun e => hne e.symm)
      have q0 := HG.cell k (by omega)
      have q1 := HK.out.cell (k % 5) (by rw [kSums_length]; omega)
      have f1 := HK.out.frozen (k % 5)
      clear hlt
      go_wp2
      go_quiet (fail)
      go_wp2
      go_roundg (25 - (k + 1))
      case measure => omega
      case rel => exact ⟨k + 1, by omega, by omega, by go_num, ⟨(HK.out.drewN nq).set (k % 5) _⟩, ⟨(HO.out.drewN nq).set gs _ _ (.inl rfl)⟩⟩
    · have hk25 : k = 25 := by omega
      subst hk25
      go_wp2
      exact HX.out _ _ HK.out HO.out ⟨_, _, _, _, _, _, _, _, _, _, _, _, _, _, _, _, rfl⟩
set_option maxHeartbeats 8000000 in
set_option maxRecDepth 100000 in
theorem permI.moved (g gh gs gm : Nat) (s c : List Int) (wr : World) {u1 u3 u4 u5 u8 u9 u10 u11 u12 u13 u14 u15 u16 u17 u18 u19 u20 u21 u22 u23 u24 u25 u26 u27 u28 u29 u30 u31 u32 u33 u34 u35 u36 u37 u38 u39 u40 u43 u44 u45 u46 u47 u48 u49 u50 u51 u52 u53 u54 u55 u56 u57 u58 u59 u60 u61 u62 u63 u64 u65 u66 u67 u68 u69 u70 u71 u72 u73 u74 u75 u76 u77 u78 u79 u80 u81 u82 u83 u84 u85 u86 u87 u88 u89 u90 u91 u92 u93 u94 u95 u96 u97 u98 u99 u100 u101 u102 u103 u104 u105 u106 u107 u108 u109 u110 u111 u112 u113 u114 u115 u116 u117 u118 u119 u120 u121 u122 u123 : Value} {Q : Exit → Act → World → Prop} (hs : s.length = 25) (hcl : c.length = 5) (h1 : gm ≠ g) (h2 : gm ≠ gh) (h3 : gm ≠ gs) (hb : Arr wr g 96 .u64 s) (hh : Arr wr gh 152 .i64 kShifts) (hc : Arr wr gs 149 .u64 c) (hm : Arr wr gm 96 .u64 (kMoved s c 0))
    (hexit : ∀ (a' : Act) (w' : World), Arr w' gm 96 .u64 (kMoved s c 25) → Moved wr w' (fun i => i = gm) → (∃ z10 z11 z12 z13 z42 z43 z44 z45 z46 z47 z48 z49 z50 z51 z52 z53 z54 z55 z56 z57 z58 z59 z60 z61 z62 z63 z64 z65 z66 z67 z68 z69 z70 z71 z72 z73 z74 z75 z76 z77 z78 z79 z80 z81 : Value, a' = ⟨List.toArray (Value.pointer (some ⟨g, 0, none⟩) :: u1 :: Value.pointer (some ⟨gh, 0, none⟩) :: u3 :: u4 :: u5 :: Value.pointer (some ⟨gs, 0, none⟩) :: Value.pointer (some ⟨gm, 0, none⟩) :: u8 :: u9 :: z10 :: z11 :: z12 :: z13 :: u14 :: u15 :: u16 :: u17 :: u18 :: u19 :: u20 :: u21 :: u22 :: u23 :: u24 :: u25 :: u26 :: u27 :: u28 :: u29 :: u30 :: u31 :: u32 :: u33 :: u34 :: u35 :: u36 :: u37 :: u38 :: u39 :: u40 :: Value.pointer (some ⟨g, 0, none⟩) :: z42 :: z43 :: z44 :: z45 :: z46 :: z47 :: z48 :: z49 :: z50 :: z51 :: z52 :: z53 :: z54 :: z55 :: z56 :: z57 :: z58 :: z59 :: z60 :: z61 :: z62 :: z63 :: z64 :: z65 :: z66 :: z67 :: z68 :: z69 :: z70 :: z71 :: z72 :: z73 :: z74 :: z75 :: z76 :: z77 :: z78 :: z79 :: z80 :: z81 :: u82 :: u83 :: u84 :: u85 :: u86 :: u87 :: u88 :: u89 :: u90 :: u91 :: u92 :: u93 :: u94 :: u95 :: u96 :: u97 :: u98 :: u99 :: u100 :: u101 :: u102 :: u103 :: u104 :: u105 :: u106 :: u107 :: u108 :: u109 :: u110 :: u111 :: u112 :: u113 :: u114 :: u115 :: u116 :: u117 :: u118 :: u119 :: u120 :: u121 :: u122 :: u123 :: []), []⟩) → Q (.exit 4) a' w') :
    Code.wp Try.prog (nthLoop Try.f85.body 2) Q ⟨List.toArray (Value.pointer (some ⟨g, 0, none⟩) :: u1 :: Value.pointer (some ⟨gh, 0, none⟩) :: u3 :: u4 :: u5 :: Value.pointer (some ⟨gs, 0, none⟩) :: Value.pointer (some ⟨gm, 0, none⟩) :: u8 :: u9 :: u10 :: u11 :: u12 :: u13 :: u14 :: u15 :: u16 :: u17 :: u18 :: u19 :: u20 :: u21 :: u22 :: u23 :: u24 :: u25 :: u26 :: u27 :: u28 :: u29 :: u30 :: u31 :: u32 :: u33 :: u34 :: u35 :: u36 :: u37 :: u38 :: u39 :: u40 :: Value.pointer (some ⟨g, 0, none⟩) :: Value.int .i64 0 :: u43 :: u44 :: u45 :: u46 :: u47 :: u48 :: u49 :: u50 :: u51 :: u52 :: u53 :: u54 :: u55 :: u56 :: u57 :: u58 :: u59 :: u60 :: u61 :: u62 :: u63 :: u64 :: u65 :: u66 :: u67 :: u68 :: u69 :: u70 :: u71 :: u72 :: u73 :: u74 :: u75 :: u76 :: u77 :: u78 :: u79 :: u80 :: u81 :: u82 :: u83 :: u84 :: u85 :: u86 :: u87 :: u88 :: u89 :: u90 :: u91 :: u92 :: u93 :: u94 :: u95 :: u96 :: u97 :: u98 :: u99 :: u100 :: u101 :: u102 :: u103 :: u104 :: u105 :: u106 :: u107 :: u108 :: u109 :: u110 :: u111 :: u112 :: u113 :: u114 :: u115 :: u116 :: u117 :: u118 :: u119 :: u120 :: u121 :: u122 :: u123 :: []), []⟩ wr := by
  conv => arg 2; whnf
  have HB := Aside0.mk hb
  have HH := Aside0.mk hh
  have HC := Aside0.mk hc
  have HM := Aside0.mk hm
  have HX := Aside0.mk hexit
  clear hb hc hexit hh hm
  go_loopg [42] 25 (fun gg s42 w' => ∃ k : Nat, k ≤ 25 ∧ 25 - k ≤ gg ∧ s42 = .int .i64 k ∧ Aside0 (Arr w' gm 96 .u64 (kMoved s c k)) ∧ Aside0 (Moved wr w' (fun i => i = gm)))
  case atStart => exact ⟨0, by omega, by omega, rfl, HM, ⟨Moved.refl _ _⟩⟩
  case round =>
    obtain ⟨k, hk, hg, rfl, HK, HO⟩ := hrel
    by_cases hlt : k < 25
    · have hltz : (k : Int) < 25 := by omega
      have h0z : (0 : Int) ≤ (k : Int) := by omega
      have HG := HB.out.moved HO.out (fun e => h1 e.symm)
      have HG2 := HH.out.moved HO.out (fun e => h2 e.symm)
      have HG3 := HC.out.moved HO.out (fun e => h3 e.symm)
      have q0 := HG.cell k (by omega)
      have q1 := HG3.cell ((k + 4) % 5) (by omega)
      have q2 := HG3.cell ((k + 1) % 5) (by omega)
      have q3 := HG2.cell k (by show k < 25; omega)
      have q4 := HK.out.cell (k / 5 + 5 * ((2 * (k % 5) + 3 * (k / 5)) % 5)) (by rw [kMoved_length]; omega)
      have f4 := HK.out.frozen (k / 5 + 5 * ((2 * (k % 5) + 3 * (k / 5)) % 5))
      have b3 : 0 ≤ kShifts.getD k 0 ∧ kShifts.getD k 0 < 64 := kShifts_bd k
      obtain ⟨sh, hsh⟩ : ∃ sh, sh = kShifts.getD k 0 := ⟨_, rfl⟩
      rw [← hsh] at q3 b3
      have HS := Aside0.mk hsh
      clear hsh
      clear hlt
      have a4 : (0 : Int) ≤ ((k : Int) + 4) % 5 := by omega
      have a5 : ((k : Int) + 4) % 5 < 5 := by omega
      have b5 : (0 : Int) ≤ ((k : Int) + 1) % 5 := by omega
      have b6 : ((k : Int) + 1) % 5 < 5 := by omega
      go_wp2
      go_quiet (fail)
      go_wp2
      go_quiet (first | (go_at_call 141; refine (rot.calls _ _ _ (by omega) (by omega)).mono ?_; rintro e w' ⟨rfl, ⟨nd, rfl⟩⟩; first | exact ⟨rfl, _, World.drewN_drewN _ _ _⟩ | exact ⟨rfl, _, Eq.trans (World.drewN_drewN _ _ _) (congrArg (World.drewN _) (Nat.add_assoc _ _ _))⟩))
      go_wp2_with (go_at_call 141; refine (rot.calls _ _ _ (by omega) (by omega)).mono ?_; rintro e w1 ⟨rfl, ⟨nd, rfl⟩⟩)
      go_roundg (25 - (k + 1))
      case measure => omega
      case rel => exact ⟨k + 1, by omega, by omega, by go_num, ⟨by rw [HS.out]; exact (HK.out.drewN _).set (k / 5 + 5 * ((2 * (k % 5) + 3 * (k / 5)) % 5)) _⟩, ⟨(HO.out.drewN _).set gm _ _ (.inl rfl)⟩⟩
    · have hk25 : k = 25 := by omega
      subst hk25
      go_wp2
      exact HX.out _ _ HK.out HO.out ⟨_, _, _, _, _, _, _, _, _, _, _, _, _, _, _, _, _, _, _, _, _, _, _, _, _, _, _, _, _, _, _, _, _, _, _, _, _, _, _, _, _, _, _, _, rfl⟩
set_option maxHeartbeats 8000000 in
set_option maxRecDepth 100000 in
theorem permI.chi (g gm : Nat) (s m : List Int) (V : Value) (wr : World) {u1 u2 u3 u4 u5 u6 u8 u9 u10 u11 u12 u13 u14 u15 u16 u17 u18 u19 u20 u21 u22 u23 u24 u25 u26 u27 u28 u29 u30 u31 u32 u33 u34 u35 u36 u37 u38 u39 u40 u41 u42 u43 u44 u45 u46 u47 u48 u49 u50 u51 u52 u53 u54 u55 u56 u57 u58 u59 u60 u61 u62 u63 u64 u65 u66 u67 u68 u69 u70 u71 u72 u73 u74 u75 u76 u77 u78 u79 u80 u81 u84 u85 u86 u87 u88 u89 u90 u91 u92 u93 u94 u95 u96 u97 u98 u99 u100 u101 u102 u103 u104 u105 u106 u107 u108 u109 u110 u111 u112 u113 u114 u115 u116 u117 u118 u119 u120 u121 u122 u123 : Value} {Q : Exit → Act → World → Prop} (hs : s.length = 25) (hml : m.length = 25) (h1 : gm ≠ g) (hV : ∀ (j : Nat) (w : World), j < 25 → (Instr.index 96 V (.int .i64 (j : Int))).run Try.prog w = .ok (.int .u64 (m.getD j 0)) w) (hb : Arr wr g 96 .u64 (kChi m s 0)) (hm : Arr wr gm 96 .u64 m)
    (hexit : ∀ (a' : Act) (w' : World), Arr w' g 96 .u64 (kChi m s 25) → Moved wr w' (fun i => i = g) → (∃ z14 z15 z16 z17 z83 z84 z85 z86 z87 z88 z89 z90 z91 z92 z93 z94 z95 z96 z97 z98 z99 z100 z101 z102 z103 z104 z105 z106 z107 z108 z109 z110 z111 z112 z113 z114 : Value, a' = ⟨List.toArray (Value.pointer (some ⟨g, 0, none⟩) :: u1 :: u2 :: u3 :: u4 :: u5 :: u6 :: Value.pointer (some ⟨gm, 0, none⟩) :: u8 :: u9 :: u10 :: u11 :: u12 :: u13 :: z14 :: z15 :: z16 :: z17 :: u18 :: u19 :: u20 :: u21 :: u22 :: u23 :: u24 :: u25 :: u26 :: u27 :: u28 :: u29 :: u30 :: u31 :: u32 :: u33 :: u34 :: u35 :: u36 :: u37 :: u38 :: u39 :: u40 :: u41 :: u42 :: u43 :: u44 :: u45 :: u46 :: u47 :: u48 :: u49 :: u50 :: u51 :: u52 :: u53 :: u54 :: u55 :: u56 :: u57 :: u58 :: u59 :: u60 :: u61 :: u62 :: u63 :: u64 :: u65 :: u66 :: u67 :: u68 :: u69 :: u70 :: u71 :: u72 :: u73 :: u74 :: u75 :: u76 :: u77 :: u78 :: u79 :: u80 :: u81 :: V :: z83 :: z84 :: z85 :: z86 :: z87 :: z88 :: z89 :: z90 :: z91 :: z92 :: z93 :: z94 :: z95 :: z96 :: z97 :: z98 :: z99 :: z100 :: z101 :: z102 :: z103 :: z104 :: z105 :: z106 :: z107 :: z108 :: z109 :: z110 :: z111 :: z112 :: z113 :: z114 :: u115 :: u116 :: u117 :: u118 :: u119 :: u120 :: u121 :: u122 :: u123 :: []), []⟩) → Q (.exit 6) a' w') :
    Code.wp Try.prog (nthLoop Try.f85.body 3) Q ⟨List.toArray (Value.pointer (some ⟨g, 0, none⟩) :: u1 :: u2 :: u3 :: u4 :: u5 :: u6 :: Value.pointer (some ⟨gm, 0, none⟩) :: u8 :: u9 :: u10 :: u11 :: u12 :: u13 :: u14 :: u15 :: u16 :: u17 :: u18 :: u19 :: u20 :: u21 :: u22 :: u23 :: u24 :: u25 :: u26 :: u27 :: u28 :: u29 :: u30 :: u31 :: u32 :: u33 :: u34 :: u35 :: u36 :: u37 :: u38 :: u39 :: u40 :: u41 :: u42 :: u43 :: u44 :: u45 :: u46 :: u47 :: u48 :: u49 :: u50 :: u51 :: u52 :: u53 :: u54 :: u55 :: u56 :: u57 :: u58 :: u59 :: u60 :: u61 :: u62 :: u63 :: u64 :: u65 :: u66 :: u67 :: u68 :: u69 :: u70 :: u71 :: u72 :: u73 :: u74 :: u75 :: u76 :: u77 :: u78 :: u79 :: u80 :: u81 :: V :: Value.int .i64 0 :: u84 :: u85 :: u86 :: u87 :: u88 :: u89 :: u90 :: u91 :: u92 :: u93 :: u94 :: u95 :: u96 :: u97 :: u98 :: u99 :: u100 :: u101 :: u102 :: u103 :: u104 :: u105 :: u106 :: u107 :: u108 :: u109 :: u110 :: u111 :: u112 :: u113 :: u114 :: u115 :: u116 :: u117 :: u118 :: u119 :: u120 :: u121 :: u122 :: u123 :: []), []⟩ wr := by
  conv => arg 2; whnf
  have HB := Aside0.mk hb
  have HM := Aside0.mk hm
  have HV := Aside0.mk hV
  have HX := Aside0.mk hexit
  clear hb hexit hm hV
  go_loopg [83] 25 (fun gg s83 w' => ∃ k : Nat, k ≤ 25 ∧ 25 - k ≤ gg ∧ s83 = .int .i64 k ∧ Aside0 (Arr w' g 96 .u64 (kChi m s k)) ∧ Aside0 (Moved wr w' (fun i => i = g)))
  case atStart => exact ⟨0, by omega, by omega, rfl, HB, ⟨Moved.refl _ _⟩⟩
  case round =>
    obtain ⟨k, hk, hg, rfl, HK, HO⟩ := hrel
    by_cases hlt : k < 25
    · have hltz : (k : Int) < 25 := by omega
      have h0z : (0 : Int) ≤ (k : Int) := by omega
      have HG := HM.out.moved HO.out (fun e => h1 e)
      have q0 := HK.out.cell k (by rw [kChi_length]; omega)
      have f0 := HK.out.frozen k
      have q1 := HG.cell (k - k % 5 + (k + 2) % 5) (by omega)
      have q2 := HG.cell (k - k % 5 + (k + 1) % 5) (by omega)
      have hv := fun w => HV.out k w hlt
      clear hlt
      go_wp2
      have a1 : IntKind.i64.wrap ((k : Int) % 5 + 2) = (k : Int) % 5 + 2 := by rw [IntKind.wrap_i64]; omega
      have a2 : ((k : Int) % 5 + 2).tmod 5 = ((k : Int) + 2) % 5 := by rw [Int.tmod_eq_emod_of_nonneg (by omega)]; omega
      have a3 : IntKind.i64.wrap (((k : Int) + 2) % 5) = ((k : Int) + 2) % 5 := by rw [IntKind.wrap_i64]; omega
      have a4 : IntKind.i64.wrap ((k : Int) - (k : Int) % 5 + ((k : Int) + 2) % 5) = (k : Int) - (k : Int) % 5 + ((k : Int) + 2) % 5 := by rw [IntKind.wrap_i64]; omega
      have a5 : (0 : Int) ≤ (k : Int) - (k : Int) % 5 + ((k : Int) + 2) % 5 := by omega
      have a6 : (k : Int) - (k : Int) % 5 + ((k : Int) + 2) % 5 < 25 := by omega
      have a7 : ((k : Int) - (k : Int) % 5 + ((k : Int) + 2) % 5).toNat = k - k % 5 + (k + 2) % 5 := by omega
      have b1 : IntKind.i64.wrap ((k : Int) % 5 + 1) = (k : Int) % 5 + 1 := by rw [IntKind.wrap_i64]; omega
      have b2 : ((k : Int) % 5 + 1).tmod 5 = ((k : Int) + 1) % 5 := by rw [Int.tmod_eq_emod_of_nonneg (by omega)]; omega
      have b3 : IntKind.i64.wrap (((k : Int) + 1) % 5) = ((k : Int) + 1) % 5 := by rw [IntKind.wrap_i64]; omega
      have b4 : IntKind.i64.wrap ((k : Int) - (k : Int) % 5 + ((k : Int) + 1) % 5) = (k : Int) - (k : Int) % 5 + ((k : Int) + 1) % 5 := by rw [IntKind.wrap_i64]; omega
      have b5 : (0 : Int) ≤ (k : Int) - (k : Int) % 5 + ((k : Int) + 1) % 5 := by omega
      have b6 : (k : Int) - (k : Int) % 5 + ((k : Int) + 1) % 5 < 25 := by omega
      have b7 : ((k : Int) - (k : Int) % 5 + ((k : Int) + 1) % 5).toNat = k - k % 5 + (k + 1) % 5 := by omega
      refine wp_region_still_tail 21 (by kernel_rfl) (by kernel_rfl) ?_
      show wpStill _ _ (World.drew _) (fun a' => wpList _ _ _ _ a' (World.drew _)) _ _
      simp only [List.take_succ_cons, List.take_zero, List.drop_succ_cons, List.drop_zero]
      repeat still_step
      refine wpStill_nil ?_
      clear a1 a2 a3 a4 a5 a6 a7 b1 b2 b3 b4 b5 b6 b7
      go_wp2
      go_roundg (25 - (k + 1))
      case measure => omega
      case rel => exact ⟨k + 1, by omega, by omega, by go_num, ⟨(HK.out.drew).set k _⟩, ⟨(HO.out.drew).set g _ _ (.inl rfl)⟩⟩
    · have hk25 : k = 25 := by omega
      subst hk25
      go_wp2
      exact HX.out _ _ HK.out HO.out ⟨_, _, _, _, _, _, _, _, _, _, _, _, _, _, _, _, _, _, _, _, _, _, _, _, _, _, _, _, _, _, _, _, _, _, _, _, rfl⟩
end Go.Proofs.Ytlogocmojnhpbaa.Print
