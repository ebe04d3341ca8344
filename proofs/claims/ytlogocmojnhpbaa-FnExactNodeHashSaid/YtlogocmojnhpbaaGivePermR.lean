/- The contract of the program's permutation: what it leaves in the state, as a plain function of lists. -/
import Derived.Test.YtlogocmojnhpbaaGivePermI
import Derived.Test.YtlogocmojnhpbaaGiveIdx
import Derived.Great.BuildSlice
import Derived.Great.Walk
import Derived.Laws.CopyRow
import Derived.Deep.Cut
namespace Go.Proofs.Ytlogocmojnhpbaa.Print
open Go.RowKit Go.Proofs.YtlogocmojnhpbaaW.PrintWords
set_option linter.unusedVariables false
set_option linter.unusedSimpArgs false
/-- n noughts. -/
def z5 : Array Value := (nums .u64 (List.replicate 5 0)).toArray
def z25 : Array Value := (nums .u64 (List.replicate 25 0)).toArray
theorem arr_new (w : World) (T : TypeId) (k : IntKind) (xs : List Int) : Arr (w.alloc (.cells (nums k xs).toArray T)) w.heap.size T k xs := blk_new w _
set_option maxHeartbeats 8000000 in
set_option maxRecDepth 100000 in
theorem permI.rounds (g gh : Nat) (s : List Int) (C : Value) (wr' : World) {u1 u3 u4 u5 u6 u7 u8 u9 u10 u11 u12 u13 u14 u15 u16 u17 u18 u19 u22 u23 u24 u25 u26 u27 u28 u29 u30 u31 u32 u33 u34 u35 u36 u37 u38 u39 u40 u41 u42 u43 u44 u45 u46 u47 u48 u49 u50 u51 u52 u53 u54 u55 u56 u57 u58 u59 u60 u61 u62 u63 u64 u65 u66 u67 u68 u69 u70 u71 u72 u73 u74 u75 u76 u77 u78 u79 u80 u81 u82 u83 u84 u85 u86 u87 u88 u89 u90 u91 u92 u93 u94 u95 u96 u97 u98 u99 u100 u101 u102 u103 u104 u105 u106 u107 u108 u109 u110 u111 u112 u113 u114 u115 u116 u117 u118 u119 u120 u121 u122 u123 : Value} {Q : Exit → Act → World → Prop} (hs : s.length = 25) (h1 : gh ≠ g) (hC : ∀ (j : Nat) (w : World), j < 24 → (Instr.index 145 C (.int .i64 (j : Int))).run Try.prog w = .ok (.int .u64 (kConsts.getD j 0)) w) (hb : Arr wr' g 96 .u64 s) (hh : Arr wr' gh 152 .i64 kShifts)
    (hexit : ∀ (a' : Act) (w' : World), Arr w' g 96 .u64 (kPerm s 24) → Moved wr' w' (fun i => i = g) → (∃ z5 z6 z7 z8 z9 z10 z11 z12 z13 z14 z15 z16 z17 z21 z22 z23 z24 z25 z26 z27 z28 z29 z30 z31 z32 z33 z34 z35 z36 z37 z38 z39 z40 z41 z42 z43 z44 z45 z46 z47 z48 z49 z50 z51 z52 z53 z54 z55 z56 z57 z58 z59 z60 z61 z62 z63 z64 z65 z66 z67 z68 z69 z70 z71 z72 z73 z74 z75 z76 z77 z78 z79 z80 z81 z82 z83 z84 z85 z86 z87 z88 z89 z90 z91 z92 z93 z94 z95 z96 z97 z98 z99 z100 z101 z102 z103 z104 z105 z106 z107 z108 z109 z110 z111 z112 z113 z114 z115 z116 z117 z118 z119 z120 z121 z122 z123 : Value, a' = ⟨List.toArray (Value.pointer (some ⟨g, 0, none⟩) :: u1 :: Value.pointer (some ⟨gh, 0, none⟩) :: u3 :: u4 :: z5 :: z6 :: z7 :: z8 :: z9 :: z10 :: z11 :: z12 :: z13 :: z14 :: z15 :: z16 :: z17 :: u18 :: u19 :: C :: z21 :: z22 :: z23 :: z24 :: z25 :: z26 :: z27 :: z28 :: z29 :: z30 :: z31 :: z32 :: z33 :: z34 :: z35 :: z36 :: z37 :: z38 :: z39 :: z40 :: z41 :: z42 :: z43 :: z44 :: z45 :: z46 :: z47 :: z48 :: z49 :: z50 :: z51 :: z52 :: z53 :: z54 :: z55 :: z56 :: z57 :: z58 :: z59 :: z60 :: z61 :: z62 :: z63 :: z64 :: z65 :: z66 :: z67 :: z68 :: z69 :: z70 :: z71 :: z72 :: z73 :: z74 :: z75 :: z76 :: z77 :: z78 :: z79 :: z80 :: z81 :: z82 :: z83 :: z84 :: z85 :: z86 :: z87 :: z88 :: z89 :: z90 :: z91 :: z92 :: z93 :: z94 :: z95 :: z96 :: z97 :: z98 :: z99 :: z100 :: z101 :: z102 :: z103 :: z104 :: z105 :: z106 :: z107 :: z108 :: z109 :: z110 :: z111 :: z112 :: z113 :: z114 :: z115 :: z116 :: z117 :: z118 :: z119 :: z120 :: z121 :: z122 :: z123 :: []), []⟩) → Q (.exit 0) a' w') :
    Code.wp Try.prog (nthLoop Try.f85.body 0) Q ⟨List.toArray (Value.pointer (some ⟨g, 0, none⟩) :: u1 :: Value.pointer (some ⟨gh, 0, none⟩) :: u3 :: u4 :: u5 :: u6 :: u7 :: u8 :: u9 :: u10 :: u11 :: u12 :: u13 :: u14 :: u15 :: u16 :: u17 :: u18 :: u19 :: C :: Value.int .i64 0 :: u22 :: u23 :: u24 :: u25 :: u26 :: u27 :: u28 :: u29 :: u30 :: u31 :: u32 :: u33 :: u34 :: u35 :: u36 :: u37 :: u38 :: u39 :: u40 :: u41 :: u42 :: u43 :: u44 :: u45 :: u46 :: u47 :: u48 :: u49 :: u50 :: u51 :: u52 :: u53 :: u54 :: u55 :: u56 :: u57 :: u58 :: u59 :: u60 :: u61 :: u62 :: u63 :: u64 :: u65 :: u66 :: u67 :: u68 :: u69 :: u70 :: u71 :: u72 :: u73 :: u74 :: u75 :: u76 :: u77 :: u78 :: u79 :: u80 :: u81 :: u82 :: u83 :: u84 :: u85 :: u86 :: u87 :: u88 :: u89 :: u90 :: u91 :: u92 :: u93 :: u94 :: u95 :: u96 :: u97 :: u98 :: u99 :: u100 :: u101 :: u102 :: u103 :: u104 :: u105 :: u106 :: u107 :: u108 :: u109 :: u110 :: u111 :: u112 :: u113 :: u114 :: u115 :: u116 :: u117 :: u118 :: u119 :: u120 :: u121 :: u122 :: u123 :: []), []⟩ wr' := by
  conv => arg 2; whnf
  have HB := Aside0.mk hb
  have HH := Aside0.mk hh
  have HC := Aside0.mk hC
  have HX := Aside0.mk hexit
  clear hb hexit hh hC
  go_loopg [21] 24 (fun gg s21 w' => ∃ k : Nat, k ≤ 24 ∧ 24 - k ≤ gg ∧ s21 = .int .i64 k ∧ Aside0 (Arr w' g 96 .u64 (kPerm s k)) ∧ Aside0 (Moved wr' w' (fun i => i = g)))
  case atStart => exact ⟨0, by omega, by omega, rfl, HB, ⟨Moved.refl _ _⟩⟩
  case round =>
    obtain ⟨k, hk, hg, rfl, HK, HO⟩ := hrel
    by_cases hlt : k < 24
    · have hltz : (k : Int) < 24 := by omega
      have h0z : (0 : Int) ≤ (k : Int) := by omega
      have HG := HH.out.moved HO.out (fun e => h1 e)
      have hc := fun w => HC.out k w hlt
      obtain ⟨c, hcc⟩ : ∃ c, c = kConsts.getD k 0 := ⟨_, rfl⟩
      rw [← hcc] at hc
      have HCC := Aside0.mk hcc
      clear hlt hcc
      go_upto_region 5 with fail
      apply wp_region_lit
      refine wpList_buildTo rfl 149 _ rfl (some 24) rfl z5 (by kernel_rfl) ?_
      refine wpList_buildTo rfl 96 _ rfl (some 25) rfl z25 (by kernel_rfl) ?_
      refine Go.Great.wpList_allocTo rfl (some 6) rfl (.pointer (some ⟨wr.heap.size, 0, none⟩)) (.cells z5 149) (by kernel_rfl) ?_
      refine Go.Great.wpList_allocTo rfl (some 7) rfl (.pointer (some ⟨(wr.alloc (.cells z5 149)).heap.size, 0, none⟩)) (.cells z25 96) (by kernel_rfl) ?_
      refine wpList_store_rowTo rfl 149 _ _ rfl rfl wr.heap.size z5 (by kernel_rfl) (by kernel_rfl) 149 z5 (blk_alloc (blk_new _ _) _) (by kernel_rfl) rfl (by kernel_rfl) ?_
      rw [setRow_self _ _ _ _ _ (blk_alloc (blk_new _ _) _)]
      refine wpList_store_rowTo rfl 96 _ _ rfl rfl (wr.alloc (.cells z5 149)).heap.size z25 (by kernel_rfl) (by kernel_rfl) 96 z25 (blk_new _ _) (by kernel_rfl) rfl (by kernel_rfl) ?_
      rw [setRow_self _ _ _ _ _ (blk_new _ _)]
      refine wpList_frame (a' := ⟨List.toArray (Value.pointer (some ⟨g, 0, none⟩) :: u1 :: Value.pointer (some ⟨gh, 0, none⟩) :: u3 :: u4 :: Value.int .u64 c :: Value.pointer (some ⟨wr.heap.size, 0, none⟩) :: Value.pointer (some ⟨(wr.alloc (Obj.cells z5 149)).heap.size, 0, none⟩) :: u8 :: u9 :: u10 :: u11 :: u12 :: u13 :: u14 :: u15 :: u16 :: u17 :: u18 :: u19 :: C :: Value.int .i64 (k : Int) :: Value.bool true :: Value.int .u64 c :: Value.agg z5 :: Value.agg z25 :: u26 :: u27 :: u28 :: u29 :: u30 :: u31 :: u32 :: u33 :: u34 :: u35 :: u36 :: u37 :: u38 :: u39 :: u40 :: u41 :: u42 :: u43 :: u44 :: u45 :: u46 :: u47 :: u48 :: u49 :: u50 :: u51 :: u52 :: u53 :: u54 :: u55 :: u56 :: u57 :: u58 :: u59 :: u60 :: u61 :: u62 :: u63 :: u64 :: u65 :: u66 :: u67 :: u68 :: u69 :: u70 :: u71 :: u72 :: u73 :: u74 :: u75 :: u76 :: u77 :: u78 :: u79 :: u80 :: u81 :: u82 :: u83 :: u84 :: u85 :: u86 :: u87 :: u88 :: u89 :: u90 :: u91 :: u92 :: u93 :: u94 :: u95 :: u96 :: u97 :: u98 :: u99 :: u100 :: u101 :: u102 :: u103 :: u104 :: u105 :: u106 :: u107 :: u108 :: u109 :: u110 :: u111 :: u112 :: u113 :: u114 :: u115 :: u116 :: u117 :: u118 :: u119 :: u120 :: u121 :: u122 :: u123 :: []), []⟩) (by kernel_rfl) ?_
      apply wpList_nil
      have A1 : Arr ((wr.alloc (.cells z5 149)).alloc (.cells z25 96)) wr.heap.size 149 .u64 (kSums (kPerm s k) 0) := blk_alloc (blk_new _ _) _
      have A2 : Arr ((wr.alloc (.cells z5 149)).alloc (.cells z25 96)) (wr.alloc (.cells z5 149)).heap.size 96 .u64 (kMoved (kPerm s k) (kSums (kPerm s k) 25) 0) := blk_new _ _
      have AG : Arr ((wr.alloc (.cells z5 149)).alloc (.cells z25 96)) g 96 .u64 (kPerm s k) := (HK.out.alloc _).alloc _
      have AH : Arr ((wr.alloc (.cells z5 149)).alloc (.cells z25 96)) gh 152 .i64 kShifts := (HG.alloc _).alloc _
      have MV := (HO.out.alloc (.cells z5 149)).alloc (.cells z25 96)
      have g1 : g < wr.heap.size := HK.out.lt
      have g2 : gh < wr.heap.size := HG.lt
      have g3 : (wr.alloc (.cells z5 149)).heap.size = wr.heap.size + 1 := by show (wr.heap.push _).size = _; simp
      have g4 : wr'.heap.size ≤ wr.heap.size := HO.out.1
      generalize (wr.alloc (.cells z5 149)).alloc (.cells z25 96) = W1 at A1 A2 AG AH MV ⊢
      generalize (wr.alloc (.cells z5 149)).heap.size = gm at A2 g3 ⊢
      generalize wr.heap.size = gs at A1 g1 g2 g3 g4 ⊢
      have hl : (kPerm s k).length = 25 := by rw [kPerm_length]; exact hs
      clear HK HG HO
      have A1 := Aside0.mk A1
      have A2 := Aside0.mk A2
      have AG := Aside0.mk AG
      have AH := Aside0.mk AH
      have MV := Aside0.mk MV
      have n1 : gs ≠ g := by omega
      have n2 : gm ≠ g := by omega
      have n3 : gm ≠ gh := by omega
      have n4 : gm ≠ gs := by omega
      have n5 : gs ≠ gh := by omega
      have o1 : wr'.heap.size ≤ gs := g4
      have o2 : wr'.heap.size ≤ gm := by omega
      clear g1 g2 g3 g4
      go_wp2
      refine permI.sums g gs (kPerm s k) W1 hl n1 AG.out A1.out ?_
      intro a2 W2 S1 m1 hz
      obtain ⟨y8, y9, y27, y28, y29, y30, y31, y32, y33, y34, y35, y36, y37, y38, y39, y40, rfl⟩ := hz
      have AG := Aside0.mk (AG.out.moved m1 (fun e => n1 e.symm))
      have AH := Aside0.mk (AH.out.moved m1 (fun e => n5 e.symm))
      have A2 := Aside0.mk (A2.out.moved m1 (fun e => n4 e))
      have MV := Aside0.mk (MV.out.trans_new m1 (fun i e => .inr (e ▸ o1)))
      have S1 := Aside0.mk S1
      clear m1 A1
      go_wp2
      refine permI.moved g gh gs gm (kPerm s k) (kSums (kPerm s k) 25) W2 hl (kSums_length _ _) n2 n3 n4 AG.out AH.out S1.out A2.out ?_
      intro a3 W3 S2 m2 hz
      obtain ⟨x10, x11, x12, x13, x42, x43, x44, x45, x46, x47, x48, x49, x50, x51, x52, x53, x54, x55, x56, x57, x58, x59, x60, x61, x62, x63, x64, x65, x66, x67, x68, x69, x70, x71, x72, x73, x74, x75, x76, x77, x78, x79, x80, x81, rfl⟩ := hz
      have AG := Aside0.mk (AG.out.moved m2 (fun e => n2 e.symm))
      have MV := Aside0.mk (MV.out.trans_new m2 (fun i e => .inr (e ▸ o2)))
      have S2 := Aside0.mk S2
      clear m2 A2 AH S1
      go_upto_region 18 with fail
      apply wp_region_lit
      refine wpList_load_row rfl 96 _ rfl gm rfl 96 _ (0, 0) _ S2.out Try.underlying96 rfl (by kernel_rfl) ?_
      have hml : (kMoved (kPerm s k) (kSums (kPerm s k) 25) 25).length = 25 := kMoved_length _ _ _
      have hV := fun (j : Nat) (w : World) (hj : j < 25) => idx_arr Try.underlying96 size92 agg92 .u64 (kMoved (kPerm s k) (kSums (kPerm s k) 25) 25) hml j w hj
      generalize Value.agg (nums .u64 (kMoved (kPerm s k) (kSums (kPerm s k) 25) 25)).toArray = V at hV ⊢
      refine wpList_frame (a' := ⟨List.toArray (Value.pointer (some ⟨g, 0, none⟩) :: u1 :: Value.pointer (some ⟨gh, 0, none⟩) :: u3 :: u4 :: Value.int .u64 c :: Value.pointer (some ⟨gs, 0, none⟩) :: Value.pointer (some ⟨gm, 0, none⟩) :: y8 :: y9 :: x10 :: x11 :: x12 :: x13 :: u14 :: u15 :: u16 :: u17 :: u18 :: u19 :: C :: Value.int .i64 (k : Int) :: Value.bool true :: Value.int .u64 c :: Value.agg z5 :: Value.agg z25 :: Value.pointer (some ⟨g, 0, none⟩) :: y27 :: y28 :: y29 :: y30 :: y31 :: y32 :: y33 :: y34 :: y35 :: y36 :: y37 :: y38 :: y39 :: y40 :: Value.pointer (some ⟨g, 0, none⟩) :: x42 :: x43 :: x44 :: x45 :: x46 :: x47 :: x48 :: x49 :: x50 :: x51 :: x52 :: x53 :: x54 :: x55 :: x56 :: x57 :: x58 :: x59 :: x60 :: x61 :: x62 :: x63 :: x64 :: x65 :: x66 :: x67 :: x68 :: x69 :: x70 :: x71 :: x72 :: x73 :: x74 :: x75 :: x76 :: x77 :: x78 :: x79 :: x80 :: x81 :: V :: u83 :: u84 :: u85 :: u86 :: u87 :: u88 :: u89 :: u90 :: u91 :: u92 :: u93 :: u94 :: u95 :: u96 :: u97 :: u98 :: u99 :: u100 :: u101 :: u102 :: u103 :: u104 :: u105 :: u106 :: u107 :: u108 :: u109 :: u110 :: u111 :: u112 :: u113 :: u114 :: u115 :: u116 :: u117 :: u118 :: u119 :: u120 :: u121 :: u122 :: u123 :: []), []⟩) (by kernel_rfl) ?_
      go_wp2
      refine permI.chi g gm (kPerm s k) _ V W3 hl hml n2 hV AG.out S2.out ?_
      intro a4 W4 S3 m3 hz
      obtain ⟨v14, v15, v16, v17, v83, v84, v85, v86, v87, v88, v89, v90, v91, v92, v93, v94, v95, v96, v97, v98, v99, v100, v101, v102, v103, v104, v105, v106, v107, v108, v109, v110, v111, v112, v113, v114, rfl⟩ := hz
      have MV := Aside0.mk (MV.out.trans_new m3 (fun i e => .inl e))
      have hl4 : (kMix (kPerm s k)).length = 25 := by unfold kMix; rw [kChi_length]; exact hl
      have S3' : Arr W4 g 96 .u64 (kMix (kPerm s k)) := S3
      have q0 := S3'.cell 0 (by omega)
      have f0 := S3'.frozen 0
      obtain ⟨v0, hv0⟩ : ∃ v, v = (kMix (kPerm s k)).getD 0 0 := ⟨_, rfl⟩
      rw [← hv0] at q0
      have HV0 := Aside0.mk hv0
      clear hv0 hl4
      have S3 := Aside0.mk S3'
      clear m3 AG S3' S2 hV
      go_wp2
      refine wp_region_still_tail 8 (by kernel_rfl) (by kernel_rfl) ?_
      show wpStill _ _ (World.drew _) (fun a' => wpList _ _ _ _ a' (World.drew _)) _ _
      simp only [List.take_succ_cons, List.take_zero, List.drop_succ_cons, List.drop_zero]
      repeat still_step
      refine wpStill_nil ?_
      go_wp2
      go_roundg (24 - (k + 1))
      case measure => omega
      case rel => exact ⟨k + 1, by omega, by omega, by go_num, ⟨by rw [HV0.out, HCC.out]; exact (S3.out.set 0 _).drew⟩, ⟨(MV.out.set g _ _ (.inl rfl)).drew⟩⟩
    · have hk25 : k = 24 := by omega
      subst hk25
      go_wp2
      exact HX.out _ _ HK.out HO.out ⟨_, _, _, _, _, _, _, _, _, _, _, _, _, _, _, _, _, _, _, _, _, _, _, _, _, _, _, _, _, _, _, _, _, _, _, _, _, _, _, _, _, _, _, _, _, _, _, _, _, _, _, _, _, _, _, _, _, _, _, _, _, _, _, _, _, _, _, _, _, _, _, _, _, _, _, _, _, _, _, _, _, _, _, _, _, _, _, _, _, _, _, _, _, _, _, _, _, _, _, _, _, _, _, _, _, _, _, _, _, _, _, _, _, _, _, _, rfl⟩
end Go.Proofs.Ytlogocmojnhpbaa.Print
