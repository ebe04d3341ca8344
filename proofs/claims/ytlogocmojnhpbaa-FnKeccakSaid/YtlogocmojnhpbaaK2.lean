-- Packed by a program of this session (slim.py): contracts that many laws share; Lean checks it.
import Derived.Test.YtlogocmojnhpbaaP0
import Derived.Test.YtlogocmojnhpbaaK0
import Derived.Test.YtlogocmojnhpbaaK1
import Derived.Laws.CopyOwn
import Derived.Laws.PanicsMore
import Derived.Test.YtlogocmojnhpbaaP0
section
namespace Go.Proofs.Ytlogocmojnhpbaa.Print
open Go.RowKit Go.Proofs.YtlogocmojnhpbaaW.PrintWords
set_option linter.unusedVariables false
set_option linter.unusedSimpArgs false
def zShiftsU:Array Value:=(nums .u64 kShifts).toArray
def n25u:Array Value:=(nums .u64 (List.replicate 25 0)).toArray
set_option maxHeartbeats 8000000 in
set_option maxRecDepth 100000 in
theorem roundsS.calls (w:World):Calls Try.prog 138 #[] w fun e w'=> e= .returned (.agg zConsts) ∧ w'=w.alloc (.cells zConsts 145):=by
  go_enter Try.func138,Try.ntmps138
  go_upto_region 0 with fail
  apply wp_region_lit
  refine Go.Great.wpList_allocTo rfl (some 0) rfl (.pointer (some ⟨w.heap.size,0,none⟩)) (.cells n24 145) (by kernel_rfl) ?_
  refine wpList_frame (a':=⟨List.toArray (Value.pointer (some ⟨w.heap.size,0,none⟩)::undef:: []), []⟩) (by kernel_rfl) ?_
  apply wpList_nil
  go_upto_region 1 with fail
  apply wp_region_lit
  refine wpList_buildTo rfl 145 _ rfl (some 1) rfl zConsts (by kernel_rfl) ?_
  refine wpList_store_rowTo rfl 145 _ _ rfl rfl w.heap.size zConsts (by kernel_rfl) (by kernel_rfl) 145 n24 (blk_new _ _) (by kernel_rfl) rfl (by kernel_rfl) ?_
  rw [setRow_new]
  refine wpList_frame (a':=⟨List.toArray (Value.pointer (some ⟨w.heap.size,0,none⟩)::Value.agg zConsts:: []), []⟩) (by kernel_rfl) ?_
  apply wpList_nil
  have A:=blk_new w (.cells zConsts 145)
  generalize hW:w.alloc (.cells zConsts 145)=W1 at A ⊢
  go_wp2
  refine bodyPost_ret (results_cell_row rfl _ _ w.heap.size 145 zConsts (0,0) _ rfl A Try.underlying145 rfl (by kernel_rfl)) rfl ?_
  exact ⟨rfl,hW.symm⟩
set_option maxHeartbeats 8000000 in
set_option maxRecDepth 100000 in
theorem shiftsS.calls (w:World):Calls Try.prog 139 #[] w fun e w'=> e= .returned (.agg zShiftsU) ∧ w'=w.alloc (.cells zShiftsU 147):=by
  go_enter Try.func139,Try.ntmps139
  go_upto_region 0 with fail
  apply wp_region_lit
  refine Go.Great.wpList_allocTo rfl (some 0) rfl (.pointer (some ⟨w.heap.size,0,none⟩)) (.cells n25u 147) (by kernel_rfl) ?_
  refine wpList_frame (a':=⟨List.toArray (Value.pointer (some ⟨w.heap.size,0,none⟩)::undef:: []), []⟩) (by kernel_rfl) ?_
  apply wpList_nil
  go_upto_region 1 with fail
  apply wp_region_lit
  refine wpList_buildTo rfl 147 _ rfl (some 1) rfl zShiftsU (by kernel_rfl) ?_
  refine wpList_store_rowTo rfl 147 _ _ rfl rfl w.heap.size zShiftsU (by kernel_rfl) (by kernel_rfl) 147 n25u (blk_new _ _) (by kernel_rfl) rfl (by kernel_rfl) ?_
  rw [setRow_new]
  refine wpList_frame (a':=⟨List.toArray (Value.pointer (some ⟨w.heap.size,0,none⟩)::Value.agg zShiftsU:: []), []⟩) (by kernel_rfl) ?_
  apply wpList_nil
  have A:=blk_new w (.cells zShiftsU 147)
  generalize hW:w.alloc (.cells zShiftsU 147)=W1 at A ⊢
  go_wp2
  refine bodyPost_ret (results_cell_row rfl _ _ w.heap.size 147 zShiftsU (0,0) _ rfl A Try.underlying147 rfl (by kernel_rfl)) rfl ?_
  exact ⟨rfl,hW.symm⟩
set_option maxHeartbeats 8000000 in
set_option maxRecDepth 100000 in
theorem permS.calls (a:List Int) (w:World) (ha:a.length=25):
    Calls Try.prog 81 #[.agg (nums .u64 a).toArray] w fun e w'=> e= .returned (.agg (nums .u64 (sPerm a 24)).toArray) ∧ Below w.heap.size w w':=by
  obtain ⟨V,hV⟩:∃ V,V=(nums .u64 a).toArray:=⟨_,rfl⟩
  have hVl:V.size=25:=by rw [hV];simp [nums,ha]
  rw [← hV]
  go_enter Try.func81,Try.ntmps81
  go_upto_region 0 with fail
  apply wp_region_lit
  refine Go.Great.wpList_allocTo rfl (some 1) rfl (.pointer (some ⟨w.heap.size,0,none⟩)) (.cells V 93) (by kernel_rfl) ?_
  refine Go.Great.wpList_allocTo rfl (some 2) rfl (.pointer (some ⟨(w.alloc (.cells V 93)).heap.size,0,none⟩)) (.cells n25u 93) (by kernel_rfl) ?_
  refine wpList_frame (a':=⟨List.toArray (Value.agg V::Value.pointer (some ⟨w.heap.size,0,none⟩)::Value.pointer (some ⟨(w.alloc (Obj.cells V 93)).heap.size,0,none⟩)::undef::undef::undef::undef::undef::undef::undef::undef::undef::undef::undef::undef::undef::undef::undef::undef::undef::undef::undef::undef::undef::undef::undef::undef::undef::undef::undef::undef::undef::undef::undef::undef::undef::undef::undef::undef::undef::undef::undef::undef::undef::undef::undef::undef::undef::undef::undef::undef::undef::undef::undef::undef::undef::undef::undef::undef::undef::undef::undef::undef::undef::undef::undef::undef::undef::undef::undef::undef::undef::undef::undef::undef::undef::undef::undef::undef::undef::undef::undef::undef::undef::undef::undef::undef::undef::undef::undef::undef::undef::undef::undef::undef::undef::undef::undef::undef::undef::undef::undef::undef::undef::undef::undef::undef::undef::undef::undef::undef::undef::undef::undef::undef::undef::undef::undef::undef::undef::undef::undef::undef::undef::undef::undef::undef::undef::undef::undef::undef::undef::undef::undef::undef::undef::undef::undef::undef::undef::undef::undef::undef::undef::undef::undef::undef::undef::undef:: []), []⟩) (by kernel_rfl) ?_
  apply wpList_nil
  have AG:Arr ((w.alloc (.cells V 93)).alloc (.cells n25u 93)) w.heap.size 93 .u64 a:=by
    unfold Arr
    rw [← hV]
    exact blk_alloc (blk_new _ _) _
  have AO:Arr ((w.alloc (.cells V 93)).alloc (.cells n25u 93)) (w.alloc (.cells V 93)).heap.size 93 .u64 (List.replicate 25 0):=blk_new _ _
  have MV:=((Moved.refl w (fun i=> w.heap.size ≤ i)).alloc (.cells V 93)).alloc (.cells n25u 93)
  have g1:w.heap.size < (w.alloc (.cells V 93)).heap.size:=(blk_lt (blk_new w (.cells V 93)))
  generalize ((w.alloc (.cells V 93)).alloc (.cells n25u 93))=W1 at AG AO MV ⊢
  generalize (w.alloc (.cells V 93)).heap.size=go at AO g1 ⊢
  generalize hga:w.heap.size=ga at AG MV g1 ⊢
  have g2:=AO.lt
  go_upto_region 1 with fail
  apply wp_region_lit
  refine wpList_callTo rfl (some 14) rfl 138 #[] (by kernel_rfl) (.agg zConsts) (W1.alloc (.cells zConsts 145)) (roundsS.calls W1) ?_
  generalize hW2:W1.alloc (.cells zConsts 145)=W2
  have AG2:Arr W2 ga 93 .u64 a:=hW2 ▸ AG.alloc _
  have AO2:Arr W2 go 93 .u64 (List.replicate 25 0):=hW2 ▸ AO.alloc _
  have MV2:Moved w W2 (fun i=> ga ≤ i):=hW2 ▸ MV.alloc _
  clear hW2 AG AO MV g2
  refine Go.Great.wpList_allocTo rfl (some 3) rfl (.pointer (some ⟨W2.heap.size,0,none⟩)) (.cells n24 145) (by kernel_rfl) ?_
  refine wpList_store_rowTo rfl 145 _ _ rfl rfl W2.heap.size zConsts (by kernel_rfl) (by kernel_rfl) 145 n24 (blk_new _ _) (by kernel_rfl) rfl (by kernel_rfl) ?_
  rw [setRow_new]
  have AR3:Arr (W2.alloc (.cells zConsts 145)) W2.heap.size 145 .u64 kConsts:=blk_new _ _
  have AG3:=AG2.alloc (.cells zConsts 145)
  have AO3:=AO2.alloc (.cells zConsts 145)
  have MV3:=MV2.alloc (.cells zConsts 145)
  have l1:=AG2.lt
  have l2:=AO2.lt
  clear AG2 AO2 MV2
  generalize W2.alloc (.cells zConsts 145)=W3 at AR3 AG3 AO3 MV3 ⊢
  generalize W2.heap.size=gr at AR3 l1 l2 ⊢
  refine wpList_frame (a':=⟨List.toArray (Value.agg V::Value.pointer (some ⟨ga,0,none⟩)::Value.pointer (some ⟨go,0,none⟩)::Value.pointer (some ⟨gr,0,none⟩)::undef::undef::undef::undef::undef::undef::undef::undef::undef::undef::Value.agg zConsts::undef::undef::undef::undef::undef::undef::undef::undef::undef::undef::undef::undef::undef::undef::undef::undef::undef::undef::undef::undef::undef::undef::undef::undef::undef::undef::undef::undef::undef::undef::undef::undef::undef::undef::undef::undef::undef::undef::undef::undef::undef::undef::undef::undef::undef::undef::undef::undef::undef::undef::undef::undef::undef::undef::undef::undef::undef::undef::undef::undef::undef::undef::undef::undef::undef::undef::undef::undef::undef::undef::undef::undef::undef::undef::undef::undef::undef::undef::undef::undef::undef::undef::undef::undef::undef::undef::undef::undef::undef::undef::undef::undef::undef::undef::undef::undef::undef::undef::undef::undef::undef::undef::undef::undef::undef::undef::undef::undef::undef::undef::undef::undef::undef::undef::undef::undef::undef::undef::undef::undef::undef::undef::undef::undef::undef::undef::undef::undef::undef::undef::undef::undef::undef::undef:: []), []⟩) (by kernel_rfl) ?_
  apply wpList_nil
  go_upto_region 2 with fail
  apply wp_region_lit
  refine wpList_callTo rfl (some 15) rfl 139 #[] (by kernel_rfl) (.agg zShiftsU) (W3.alloc (.cells zShiftsU 147)) (shiftsS.calls W3) ?_
  have AR4:=AR3.alloc (.cells zShiftsU 147)
  have AG4:=AG3.alloc (.cells zShiftsU 147)
  have AO4:=AO3.alloc (.cells zShiftsU 147)
  have MV4:=MV3.alloc (.cells zShiftsU 147)
  clear AR3 AG3 AO3 MV3
  generalize W3.alloc (.cells zShiftsU 147)=W4 at AR4 AG4 AO4 MV4 ⊢
  refine Go.Great.wpList_allocTo rfl (some 4) rfl (.pointer (some ⟨W4.heap.size,0,none⟩)) (.cells n25u 147) (by kernel_rfl) ?_
  refine wpList_store_rowTo rfl 147 _ _ rfl rfl W4.heap.size zShiftsU (by kernel_rfl) (by kernel_rfl) 147 n25u (blk_new _ _) (by kernel_rfl) rfl (by kernel_rfl) ?_
  rw [setRow_new]
  have AH5:Arr (W4.alloc (.cells zShiftsU 147)) W4.heap.size 147 .u64 kShifts:=blk_new _ _
  have AR5:=AR4.alloc (.cells zShiftsU 147)
  have AG5:=AG4.alloc (.cells zShiftsU 147)
  have AO5:=AO4.alloc (.cells zShiftsU 147)
  have MV5:=MV4.alloc (.cells zShiftsU 147)
  have l3:=AG4.lt
  clear AR4 AG4 AO4 MV4
  generalize W4.alloc (.cells zShiftsU 147)=W5 at AH5 AR5 AG5 AO5 MV5 ⊢
  generalize W4.heap.size=gh at AH5 l3 ⊢
  refine wpList_frame (a':=⟨List.toArray (Value.agg V::Value.pointer (some ⟨ga,0,none⟩)::Value.pointer (some ⟨go,0,none⟩)::Value.pointer (some ⟨gr,0,none⟩)::Value.pointer (some ⟨gh,0,none⟩)::undef::undef::undef::undef::undef::undef::undef::undef::undef::Value.agg zConsts::Value.agg zShiftsU::undef::undef::undef::undef::undef::undef::undef::undef::undef::undef::undef::undef::undef::undef::undef::undef::undef::undef::undef::undef::undef::undef::undef::undef::undef::undef::undef::undef::undef::undef::undef::undef::undef::undef::undef::undef::undef::undef::undef::undef::undef::undef::undef::undef::undef::undef::undef::undef::undef::undef::undef::undef::undef::undef::undef::undef::undef::undef::undef::undef::undef::undef::undef::undef::undef::undef::undef::undef::undef::undef::undef::undef::undef::undef::undef::undef::undef::undef::undef::undef::undef::undef::undef::undef::undef::undef::undef::undef::undef::undef::undef::undef::undef::undef::undef::undef::undef::undef::undef::undef::undef::undef::undef::undef::undef::undef::undef::undef::undef::undef::undef::undef::undef::undef::undef::undef::undef::undef::undef::undef::undef::undef::undef::undef::undef::undef::undef::undef::undef::undef::undef::undef::undef:: []), []⟩) (by kernel_rfl) ?_
  apply wpList_nil
  have n1:gh ≠ ga:=by omega
  have n2:gr ≠ ga:=by omega
  have n3:go ≠ ga:=by omega
  have g1':=g1
  have AH5:=Aside0.mk AH5
  have AR5:=Aside0.mk AR5
  have AG5:=Aside0.mk AG5
  have AO5:=Aside0.mk AO5
  have MV5:=Aside0.mk MV5
  have HG:=Aside0.mk hga
  clear l1 l2 l3 g1 hga hV
  go_wp2
  refine permS.rounds ga gr gh a W5 ha n1 n2 AG5.out AR5.out AH5.out ?_
  intro a2 W6 S1 m1 hz
  obtain ⟨v5,hz⟩:=hz
  obtain ⟨v6,hz⟩:=hz
  obtain ⟨v7,hz⟩:=hz
  obtain ⟨v8,hz⟩:=hz
  obtain ⟨v9,hz⟩:=hz
  obtain ⟨v10,hz⟩:=hz
  obtain ⟨v11,hz⟩:=hz
  obtain ⟨v12,hz⟩:=hz
  obtain ⟨v13,hz⟩:=hz
  obtain ⟨v16,hz⟩:=hz
  obtain ⟨v17,hz⟩:=hz
  obtain ⟨v18,hz⟩:=hz
  obtain ⟨v19,hz⟩:=hz
  obtain ⟨v20,hz⟩:=hz
  obtain ⟨v21,hz⟩:=hz
  obtain ⟨v22,hz⟩:=hz
  obtain ⟨v23,hz⟩:=hz
  obtain ⟨v24,hz⟩:=hz
  obtain ⟨v25,hz⟩:=hz
  obtain ⟨v26,hz⟩:=hz
  obtain ⟨v27,hz⟩:=hz
  obtain ⟨v28,hz⟩:=hz
  obtain ⟨v29,hz⟩:=hz
  obtain ⟨v30,hz⟩:=hz
  obtain ⟨v31,hz⟩:=hz
  obtain ⟨v32,hz⟩:=hz
  obtain ⟨v33,hz⟩:=hz
  obtain ⟨v34,hz⟩:=hz
  obtain ⟨v35,hz⟩:=hz
  obtain ⟨v36,hz⟩:=hz
  obtain ⟨v37,hz⟩:=hz
  obtain ⟨v38,hz⟩:=hz
  obtain ⟨v39,hz⟩:=hz
  obtain ⟨v40,hz⟩:=hz
  obtain ⟨v41,hz⟩:=hz
  obtain ⟨v42,hz⟩:=hz
  obtain ⟨v43,hz⟩:=hz
  obtain ⟨v44,hz⟩:=hz
  obtain ⟨v45,hz⟩:=hz
  obtain ⟨v46,hz⟩:=hz
  obtain ⟨v47,hz⟩:=hz
  obtain ⟨v48,hz⟩:=hz
  obtain ⟨v49,hz⟩:=hz
  obtain ⟨v50,hz⟩:=hz
  obtain ⟨v51,hz⟩:=hz
  obtain ⟨v52,hz⟩:=hz
  obtain ⟨v53,hz⟩:=hz
  obtain ⟨v54,hz⟩:=hz
  obtain ⟨v55,hz⟩:=hz
  obtain ⟨v56,hz⟩:=hz
  obtain ⟨v57,hz⟩:=hz
  obtain ⟨v58,hz⟩:=hz
  obtain ⟨v59,hz⟩:=hz
  obtain ⟨v60,hz⟩:=hz
  obtain ⟨v61,hz⟩:=hz
  obtain ⟨v62,hz⟩:=hz
  obtain ⟨v63,hz⟩:=hz
  obtain ⟨v64,hz⟩:=hz
  obtain ⟨v65,hz⟩:=hz
  obtain ⟨v66,hz⟩:=hz
  obtain ⟨v67,hz⟩:=hz
  obtain ⟨v68,hz⟩:=hz
  obtain ⟨v69,hz⟩:=hz
  obtain ⟨v70,hz⟩:=hz
  obtain ⟨v71,hz⟩:=hz
  obtain ⟨v72,hz⟩:=hz
  obtain ⟨v73,hz⟩:=hz
  obtain ⟨v74,hz⟩:=hz
  obtain ⟨v75,hz⟩:=hz
  obtain ⟨v76,hz⟩:=hz
  obtain ⟨v77,hz⟩:=hz
  obtain ⟨v78,hz⟩:=hz
  obtain ⟨v79,hz⟩:=hz
  obtain ⟨v80,hz⟩:=hz
  obtain ⟨v81,hz⟩:=hz
  obtain ⟨v82,hz⟩:=hz
  obtain ⟨v83,hz⟩:=hz
  obtain ⟨v84,hz⟩:=hz
  obtain ⟨v85,hz⟩:=hz
  obtain ⟨v86,hz⟩:=hz
  obtain ⟨v87,hz⟩:=hz
  obtain ⟨v88,hz⟩:=hz
  obtain ⟨v89,hz⟩:=hz
  obtain ⟨v90,hz⟩:=hz
  obtain ⟨v91,hz⟩:=hz
  obtain ⟨v92,hz⟩:=hz
  obtain ⟨v93,hz⟩:=hz
  obtain ⟨v94,hz⟩:=hz
  obtain ⟨v95,hz⟩:=hz
  obtain ⟨v96,hz⟩:=hz
  obtain ⟨v97,hz⟩:=hz
  obtain ⟨v98,hz⟩:=hz
  obtain ⟨v99,hz⟩:=hz
  obtain ⟨v100,hz⟩:=hz
  obtain ⟨v101,hz⟩:=hz
  obtain ⟨v102,hz⟩:=hz
  obtain ⟨v103,hz⟩:=hz
  obtain ⟨v104,hz⟩:=hz
  obtain ⟨v105,hz⟩:=hz
  obtain ⟨v106,hz⟩:=hz
  obtain ⟨v107,hz⟩:=hz
  obtain ⟨v108,hz⟩:=hz
  obtain ⟨v109,hz⟩:=hz
  obtain ⟨v110,hz⟩:=hz
  obtain ⟨v111,hz⟩:=hz
  obtain ⟨v112,hz⟩:=hz
  obtain ⟨v113,hz⟩:=hz
  obtain ⟨v114,hz⟩:=hz
  obtain ⟨v115,hz⟩:=hz
  obtain ⟨v116,hz⟩:=hz
  obtain ⟨v117,hz⟩:=hz
  obtain ⟨v118,hz⟩:=hz
  obtain ⟨v119,hz⟩:=hz
  obtain ⟨v120,hz⟩:=hz
  obtain ⟨v121,hz⟩:=hz
  obtain ⟨v122,hz⟩:=hz
  obtain ⟨v123,hz⟩:=hz
  obtain ⟨v124,hz⟩:=hz
  obtain ⟨v125,hz⟩:=hz
  obtain ⟨v126,hz⟩:=hz
  obtain ⟨v127,hz⟩:=hz
  obtain ⟨v128,hz⟩:=hz
  obtain ⟨v129,hz⟩:=hz
  obtain ⟨v130,hz⟩:=hz
  obtain ⟨v131,hz⟩:=hz
  obtain ⟨v132,hz⟩:=hz
  obtain ⟨v133,hz⟩:=hz
  obtain ⟨v134,hz⟩:=hz
  obtain ⟨v135,hz⟩:=hz
  obtain ⟨v136,hz⟩:=hz
  obtain ⟨v137,hz⟩:=hz
  obtain ⟨v138,hz⟩:=hz
  obtain ⟨v139,hz⟩:=hz
  obtain ⟨v140,hz⟩:=hz
  obtain ⟨v141,hz⟩:=hz
  obtain ⟨v142,hz⟩:=hz
  obtain ⟨v143,hz⟩:=hz
  obtain ⟨v144,hz⟩:=hz
  obtain ⟨v145,hz⟩:=hz
  obtain ⟨v146,hz⟩:=hz
  obtain ⟨v147,hz⟩:=hz
  subst hz
  have AO6:=AO5.out.moved m1 (fun e=> n3 e)
  have MV6:=MV5.out.trans_new m1 (fun i e=> .inl (Nat.le_of_eq e.symm))
  go_upto_region 31 with fail
  apply wp_region_lit
  have hsz:(nums .u64 (sPerm a 24)).toArray.size=25:=by simp [nums,sPerm_length,ha]
  refine wpList_load_row rfl 93 _ rfl ga rfl 93 _ (0,0) _ S1 Try.underlying93 rfl (by rw [hsz];kernel_rfl) ?_
  have hone:(nums .u64 (sPerm a 24)).toArray.all (·.oneCell')=true:=by simp [nums,Value.oneCell']
  refine wpList_store_rowTo rfl 93 _ _ rfl rfl go (nums .u64 (sPerm a 24)).toArray (by kernel_rfl) (by kernel_rfl) 93 _ AO6 (by rw [hsz];kernel_rfl) (by rw [hsz];rfl) hone ?_
  have AF:=setRow_heap W6 go _ (nums .u64 (sPerm a 24)).toArray 93 (0,0) AO6
  have hgo:w.heap.size ≤ go:=by have:=HG.out;omega
  have BF:Below w.heap.size w (W6.setRow go (nums .u64 (sPerm a 24)).toArray):=below_setRow (MV6.below (fun i hi h=> absurd h (by have:=HG.out;omega))) hgo _
  generalize W6.setRow go (nums .u64 (sPerm a 24)).toArray=W7 at AF BF ⊢
  refine wpList_frame (a':=⟨List.toArray (Value.agg V::Value.pointer (some ⟨ga,0,none⟩)::Value.pointer (some ⟨go,0,none⟩)::Value.pointer (some ⟨gr,0,none⟩)::Value.pointer (some ⟨gh,0,none⟩)::v5::v6::v7::v8::v9::v10::v11::v12::v13::Value.agg zConsts::Value.agg zShiftsU::v16::v17::v18::v19::v20::v21::v22::v23::v24::v25::v26::v27::v28::v29::v30::v31::v32::v33::v34::v35::v36::v37::v38::v39::v40::v41::v42::v43::v44::v45::v46::v47::v48::v49::v50::v51::v52::v53::v54::v55::v56::v57::v58::v59::v60::v61::v62::v63::v64::v65::v66::v67::v68::v69::v70::v71::v72::v73::v74::v75::v76::v77::v78::v79::v80::v81::v82::v83::v84::v85::v86::v87::v88::v89::v90::v91::v92::v93::v94::v95::v96::v97::v98::v99::v100::v101::v102::v103::v104::v105::v106::v107::v108::v109::v110::v111::v112::v113::v114::v115::v116::v117::v118::v119::v120::v121::v122::v123::v124::v125::v126::v127::v128::v129::v130::v131::v132::v133::v134::v135::v136::v137::v138::v139::v140::v141::v142::v143::v144::v145::v146::v147::Value.agg (nums .u64 (sPerm a 24)).toArray:: []), []⟩) (by kernel_rfl) ?_
  apply wpList_nil
  go_wp2
  refine bodyPost_ret (results_cell_row rfl _ _ go 93 _ (0,0) _ rfl AF Try.underlying93 rfl (by rw [hsz];kernel_rfl)) rfl ?_
  exact ⟨rfl,BF⟩
end Go.Proofs.Ytlogocmojnhpbaa.Print
end
section
namespace Go.Proofs.Ytlogocmojnhpbaa.Print
open Go.RowKit Go.Proofs.YtlogocmojnhpbaaW.PrintWords
set_option linter.unusedVariables false
set_option linter.unusedSimpArgs false
def InU (x:Int):Prop:=0 ≤ x ∧ x < 18446744073709551616
theorem wrapU_in (n:Int):InU (IntKind.u64.wrap n):=by
  unfold InU
  have e:IntKind.u64.wrap n=n % 18446744073709551616:=by simp [IntKind.wrap,IntKind.bits,IntKind.signed]
  rw [e];omega
theorem wrapU_id {n:Int} (h:InU n):IntKind.u64.wrap n=n:=by
  have e:IntKind.u64.wrap n=n % 18446744073709551616:=by simp [IntKind.wrap,IntKind.bits,IntKind.signed]
  unfold InU at h
  rw [e];omega
theorem bitsU_in (op:BinOp) (a b:Int):InU (Go.bits op .u64 a b):=by
  unfold Go.bits
  exact wrapU_in _
theorem bvU (x:BitVec 64):IntKind.u64.wrap (x.toNat:Int)=(x.toNat:Int):=wrapU_id ⟨by omega,by have:=x.isLt;omega⟩
theorem ofInt_toNat (x:BitVec 64):BitVec.ofInt 64 (x.toNat:Int)=x:=by
  rw [BitVec.ofInt_natCast,BitVec.ofNat_toNat];simp
theorem toNat_ofInt {a:Int} (h:InU a):((BitVec.ofInt 64 a).toNat:Int)=a:=by
  unfold InU at h
  rw [BitVec.toNat_ofInt]
  omega
theorem xor_zero {a:Int} (h:InU a):xorU 0 a=a:=by
  unfold xorU Go.bits
  show IntKind.u64.wrap (((BitVec.ofInt 64 0 ^^^ BitVec.ofInt 64 a).toNat:Nat):Int)=a
  rw [show BitVec.ofInt 64 0=0#64 by decide,BitVec.zero_xor,bvU,toNat_ofInt h]
theorem not_and {a b:Int}:notU a b=andU (flipU b) a:=by
  unfold notU andU flipU Go.bits
  show IntKind.u64.wrap (((BitVec.ofInt 64 a &&& ~~~ BitVec.ofInt 64 b).toNat:Nat):Int)=IntKind.u64.wrap (((BitVec.ofInt 64 (IntKind.u64.wrap (((BitVec.ofInt 64 IntKind.u64.max ^^^ BitVec.ofInt 64 b).toNat:Nat):Int)) &&& BitVec.ofInt 64 a).toNat:Nat):Int)
  rw [bvU (BitVec.ofInt 64 IntKind.u64.max ^^^ BitVec.ofInt 64 b),ofInt_toNat,show BitVec.ofInt 64 IntKind.u64.max=BitVec.allOnes 64 by decide,BitVec.allOnes_xor,BitVec.and_comm]
theorem rot_zero {x:Int} (h:InU x):rotL x 0=x:=by
  unfold rotL Go.bits
  have e1:x / 2 ^ (64 - (0:Int)).toNat=0:=by
    have:(2:Int) ^ (64 - (0:Int)).toNat=18446744073709551616:=by decide
    rw [this];unfold InU at h;omega
  have e2:IntKind.u64.wrap (x * 2 ^ (0:Int).toNat)=x:=by rw [show (2:Int) ^ (0:Int).toNat=1 by decide,Int.mul_one];exact wrapU_id h
  rw [e1,e2]
  show IntKind.u64.wrap (((BitVec.ofInt 64 x|||BitVec.ofInt 64 0).toNat:Nat):Int)=x
  rw [show BitVec.ofInt 64 0=0#64 by decide,BitVec.or_zero,bvU,toNat_ofInt h]
theorem turn_rot {x n:Int} (h:InU x):turnL x n=rotL x n:=by
  unfold turnL
  split
  · next e=> rw [e,rot_zero h]
  · rfl
theorem uncons {s:List Int} {n:Nat} (h:s.length=n + 1):∃ a t,s=a::t ∧ t.length=n:=by
  cases s with
  |nil=> simp at h
  |cons a t=> exact ⟨a,t,rfl,by simpa using h⟩
theorem list25 (s:List Int) (h:s.length=25):∃ a0 a1 a2 a3 a4 a5 a6 a7 a8 a9 a10 a11 a12 a13 a14 a15 a16 a17 a18 a19 a20 a21 a22 a23 a24,s= [a0,a1,a2,a3,a4,a5,a6,a7,a8,a9,a10,a11,a12,a13,a14,a15,a16,a17,a18,a19,a20,a21,a22,a23,a24]:=by
  obtain ⟨a0,s1,rfl,h1⟩:=uncons (n:=24) h
  obtain ⟨a1,s2,rfl,h2⟩:=uncons (n:=23) h1
  obtain ⟨a2,s3,rfl,h3⟩:=uncons (n:=22) h2
  obtain ⟨a3,s4,rfl,h4⟩:=uncons (n:=21) h3
  obtain ⟨a4,s5,rfl,h5⟩:=uncons (n:=20) h4
  obtain ⟨a5,s6,rfl,h6⟩:=uncons (n:=19) h5
  obtain ⟨a6,s7,rfl,h7⟩:=uncons (n:=18) h6
  obtain ⟨a7,s8,rfl,h8⟩:=uncons (n:=17) h7
  obtain ⟨a8,s9,rfl,h9⟩:=uncons (n:=16) h8
  obtain ⟨a9,s10,rfl,h10⟩:=uncons (n:=15) h9
  obtain ⟨a10,s11,rfl,h11⟩:=uncons (n:=14) h10
  obtain ⟨a11,s12,rfl,h12⟩:=uncons (n:=13) h11
  obtain ⟨a12,s13,rfl,h13⟩:=uncons (n:=12) h12
  obtain ⟨a13,s14,rfl,h14⟩:=uncons (n:=11) h13
  obtain ⟨a14,s15,rfl,h15⟩:=uncons (n:=10) h14
  obtain ⟨a15,s16,rfl,h16⟩:=uncons (n:=9) h15
  obtain ⟨a16,s17,rfl,h17⟩:=uncons (n:=8) h16
  obtain ⟨a17,s18,rfl,h18⟩:=uncons (n:=7) h17
  obtain ⟨a18,s19,rfl,h19⟩:=uncons (n:=6) h18
  obtain ⟨a19,s20,rfl,h20⟩:=uncons (n:=5) h19
  obtain ⟨a20,s21,rfl,h21⟩:=uncons (n:=4) h20
  obtain ⟨a21,s22,rfl,h22⟩:=uncons (n:=3) h21
  obtain ⟨a22,s23,rfl,h23⟩:=uncons (n:=2) h22
  obtain ⟨a23,s24,rfl,h24⟩:=uncons (n:=1) h23
  obtain ⟨a24,s25,rfl,h25⟩:=uncons (n:=0) h24
  obtain rfl:=List.eq_nil_of_length_eq_zero h25
  exact ⟨a0,a1,a2,a3,a4,a5,a6,a7,a8,a9,a10,a11,a12,a13,a14,a15,a16,a17,a18,a19,a20,a21,a22,a23,a24,rfl⟩
set_option maxHeartbeats 4000000 in
theorem sums_eq {s:List Int} (hs:s.length=25) (h:∀ x ∈ s,InU x):kSums s 25=sSums s 5:=by
  obtain ⟨a0,a1,a2,a3,a4,a5,a6,a7,a8,a9,a10,a11,a12,a13,a14,a15,a16,a17,a18,a19,a20,a21,a22,a23,a24,rfl⟩:=list25 s hs
  have z0:=xor_zero (h a0 (by simp))
  have z1:=xor_zero (h a1 (by simp))
  have z2:=xor_zero (h a2 (by simp))
  have z3:=xor_zero (h a3 (by simp))
  have z4:=xor_zero (h a4 (by simp))
  have e1:kSums [a0,a1,a2,a3,a4,a5,a6,a7,a8,a9,a10,a11,a12,a13,a14,a15,a16,a17,a18,a19,a20,a21,a22,a23,a24] 25= [xorU (xorU (xorU (xorU (xorU 0 a0) a5) a10) a15) a20,xorU (xorU (xorU (xorU (xorU 0 a1) a6) a11) a16) a21,xorU (xorU (xorU (xorU (xorU 0 a2) a7) a12) a17) a22,xorU (xorU (xorU (xorU (xorU 0 a3) a8) a13) a18) a23,xorU (xorU (xorU (xorU (xorU 0 a4) a9) a14) a19) a24]:=by kernel_rfl
  have e2:sSums [a0,a1,a2,a3,a4,a5,a6,a7,a8,a9,a10,a11,a12,a13,a14,a15,a16,a17,a18,a19,a20,a21,a22,a23,a24] 5= [xorU (xorU (xorU (xorU a0 a5) a10) a15) a20,xorU (xorU (xorU (xorU a1 a6) a11) a16) a21,xorU (xorU (xorU (xorU a2 a7) a12) a17) a22,xorU (xorU (xorU (xorU a3 a8) a13) a18) a23,xorU (xorU (xorU (xorU a4 a9) a14) a19) a24]:=by kernel_rfl
  rw [e1,e2,z0,z1,z2,z3,z4]
def AllU (l:List Int):Prop:=∀ x ∈ l,InU x
theorem AllU.set {l:List Int} (h:AllU l) (i:Nat) {v:Int} (hv:InU v):AllU (l.set i v):=by
  intro x hx
  rcases List.mem_or_eq_of_mem_set hx with h1|h1
  · exact h x h1
  · rw [h1];exact hv
theorem AllU.getD {l:List Int} (h:AllU l) (i:Nat):InU (l.getD i 0):=by
  rw [List.getD_eq_getElem?_getD]
  by_cases hi:i < l.length
  · rw [List.getElem?_eq_getElem hi];exact h _ (List.getElem_mem hi)
  · rw [List.getElem?_eq_none (by omega)];exact ⟨by decide,by decide⟩
theorem sTheta_in {c a:List Int} (h:AllU a) (k:Nat):AllU (sTheta c a k):=by
  induction k with
  |zero=> exact h
  |succ k ih=> exact ih.set k (bitsU_in _ _ _)
theorem kChi_in {m s:List Int} (h:AllU s) (k:Nat):AllU (kChi m s k):=by
  induction k with
  |zero=> exact h
  |succ k ih=> exact ih.set k (bitsU_in _ _ _)
theorem kMix_in {s:List Int} (h:AllU s):AllU (kMix s):=kChi_in h 25
theorem kPerm_in {s:List Int} (h:AllU s) (r:Nat):AllU (kPerm s r):=by
  induction r with
  |zero=> exact h
  |succ r ih=>
    unfold kPerm kRound
    exact (kMix_in ih).set 0 (bitsU_in _ _ _)
theorem list5 (s:List Int) (h:s.length=5):∃ c0 c1 c2 c3 c4,s= [c0,c1,c2,c3,c4]:=by
  obtain ⟨c0,s1,rfl,h1⟩:=uncons (n:=4) h
  obtain ⟨c1,s2,rfl,h2⟩:=uncons (n:=3) h1
  obtain ⟨c2,s3,rfl,h3⟩:=uncons (n:=2) h2
  obtain ⟨c3,s4,rfl,h4⟩:=uncons (n:=1) h3
  obtain ⟨c4,s5,rfl,h5⟩:=uncons (n:=0) h4
  obtain rfl:=List.eq_nil_of_length_eq_zero h5
  exact ⟨c0,c1,c2,c3,c4,rfl⟩
set_option maxHeartbeats 4000000 in
set_option maxRecDepth 100000 in
theorem moved_eq {s c:List Int} (hs:s.length=25) (hc:c.length=5):kMoved s c 25=sMoved (sTheta c s 25) 5:=by
  obtain ⟨a0,a1,a2,a3,a4,a5,a6,a7,a8,a9,a10,a11,a12,a13,a14,a15,a16,a17,a18,a19,a20,a21,a22,a23,a24,rfl⟩:=list25 s hs
  obtain ⟨c0,c1,c2,c3,c4,rfl⟩:=list5 c hc
  have t1:∀ x,turnL x 1=rotL x 1:=fun x=> if_neg (by decide)
  have t2:∀ a b n,turnL (xorU a b) n=rotL (xorU a b) n:=fun a b n=> turn_rot (bitsU_in _ _ _)
  have e1:kMoved [a0,a1,a2,a3,a4,a5,a6,a7,a8,a9,a10,a11,a12,a13,a14,a15,a16,a17,a18,a19,a20,a21,a22,a23,a24] [c0,c1,c2,c3,c4] 25= [rotL (xorU a0 (xorU c4 (rotL c1 1))) 0,rotL (xorU a6 (xorU c0 (rotL c2 1))) 44,rotL (xorU a12 (xorU c1 (rotL c3 1))) 43,rotL (xorU a18 (xorU c2 (rotL c4 1))) 21,rotL (xorU a24 (xorU c3 (rotL c0 1))) 14,rotL (xorU a3 (xorU c2 (rotL c4 1))) 28,rotL (xorU a9 (xorU c3 (rotL c0 1))) 20,rotL (xorU a10 (xorU c4 (rotL c1 1))) 3,rotL (xorU a16 (xorU c0 (rotL c2 1))) 45,rotL (xorU a22 (xorU c1 (rotL c3 1))) 61,rotL (xorU a1 (xorU c0 (rotL c2 1))) 1,rotL (xorU a7 (xorU c1 (rotL c3 1))) 6,rotL (xorU a13 (xorU c2 (rotL c4 1))) 25,rotL (xorU a19 (xorU c3 (rotL c0 1))) 8,rotL (xorU a20 (xorU c4 (rotL c1 1))) 18,rotL (xorU a4 (xorU c3 (rotL c0 1))) 27,rotL (xorU a5 (xorU c4 (rotL c1 1))) 36,rotL (xorU a11 (xorU c0 (rotL c2 1))) 10,rotL (xorU a17 (xorU c1 (rotL c3 1))) 15,rotL (xorU a23 (xorU c2 (rotL c4 1))) 56,rotL (xorU a2 (xorU c1 (rotL c3 1))) 62,rotL (xorU a8 (xorU c2 (rotL c4 1))) 55,rotL (xorU a14 (xorU c3 (rotL c0 1))) 39,rotL (xorU a15 (xorU c4 (rotL c1 1))) 41,rotL (xorU a21 (xorU c0 (rotL c2 1))) 2]:=by kernel_rfl
  have e2:sMoved (sTheta [c0,c1,c2,c3,c4] [a0,a1,a2,a3,a4,a5,a6,a7,a8,a9,a10,a11,a12,a13,a14,a15,a16,a17,a18,a19,a20,a21,a22,a23,a24] 25) 5= [turnL (xorU a0 (xorU c4 (turnL c1 1))) 0,turnL (xorU a6 (xorU c0 (turnL c2 1))) 44,turnL (xorU a12 (xorU c1 (turnL c3 1))) 43,turnL (xorU a18 (xorU c2 (turnL c4 1))) 21,turnL (xorU a24 (xorU c3 (turnL c0 1))) 14,turnL (xorU a3 (xorU c2 (turnL c4 1))) 28,turnL (xorU a9 (xorU c3 (turnL c0 1))) 20,turnL (xorU a10 (xorU c4 (turnL c1 1))) 3,turnL (xorU a16 (xorU c0 (turnL c2 1))) 45,turnL (xorU a22 (xorU c1 (turnL c3 1))) 61,turnL (xorU a1 (xorU c0 (turnL c2 1))) 1,turnL (xorU a7 (xorU c1 (turnL c3 1))) 6,turnL (xorU a13 (xorU c2 (turnL c4 1))) 25,turnL (xorU a19 (xorU c3 (turnL c0 1))) 8,turnL (xorU a20 (xorU c4 (turnL c1 1))) 18,turnL (xorU a4 (xorU c3 (turnL c0 1))) 27,turnL (xorU a5 (xorU c4 (turnL c1 1))) 36,turnL (xorU a11 (xorU c0 (turnL c2 1))) 10,turnL (xorU a17 (xorU c1 (turnL c3 1))) 15,turnL (xorU a23 (xorU c2 (turnL c4 1))) 56,turnL (xorU a2 (xorU c1 (turnL c3 1))) 62,turnL (xorU a8 (xorU c2 (turnL c4 1))) 55,turnL (xorU a14 (xorU c3 (turnL c0 1))) 39,turnL (xorU a15 (xorU c4 (turnL c1 1))) 41,turnL (xorU a21 (xorU c0 (turnL c2 1))) 2]:=by kernel_rfl
  rw [e1,e2]
  simp only [t1,t2]
set_option maxHeartbeats 4000000 in
set_option maxRecDepth 100000 in
theorem chi_eq {m s t:List Int} (hm:m.length=25) (hs:s.length=25) (ht:t.length=25):kChi m s 25=sChi m t 5:=by
  obtain ⟨m0,m1,m2,m3,m4,m5,m6,m7,m8,m9,m10,m11,m12,m13,m14,m15,m16,m17,m18,m19,m20,m21,m22,m23,m24,rfl⟩:=list25 m hm
  obtain ⟨a0,a1,a2,a3,a4,a5,a6,a7,a8,a9,a10,a11,a12,a13,a14,a15,a16,a17,a18,a19,a20,a21,a22,a23,a24,rfl⟩:=list25 s hs
  obtain ⟨b0,b1,b2,b3,b4,b5,b6,b7,b8,b9,b10,b11,b12,b13,b14,b15,b16,b17,b18,b19,b20,b21,b22,b23,b24,rfl⟩:=list25 t ht
  have e1:kChi [m0,m1,m2,m3,m4,m5,m6,m7,m8,m9,m10,m11,m12,m13,m14,m15,m16,m17,m18,m19,m20,m21,m22,m23,m24] [a0,a1,a2,a3,a4,a5,a6,a7,a8,a9,a10,a11,a12,a13,a14,a15,a16,a17,a18,a19,a20,a21,a22,a23,a24] 25= [xorU m0 (notU m2 m1),xorU m1 (notU m3 m2),xorU m2 (notU m4 m3),xorU m3 (notU m0 m4),xorU m4 (notU m1 m0),xorU m5 (notU m7 m6),xorU m6 (notU m8 m7),xorU m7 (notU m9 m8),xorU m8 (notU m5 m9),xorU m9 (notU m6 m5),xorU m10 (notU m12 m11),xorU m11 (notU m13 m12),xorU m12 (notU m14 m13),xorU m13 (notU m10 m14),xorU m14 (notU m11 m10),xorU m15 (notU m17 m16),xorU m16 (notU m18 m17),xorU m17 (notU m19 m18),xorU m18 (notU m15 m19),xorU m19 (notU m16 m15),xorU m20 (notU m22 m21),xorU m21 (notU m23 m22),xorU m22 (notU m24 m23),xorU m23 (notU m20 m24),xorU m24 (notU m21 m20)]:=by kernel_rfl
  have e2:sChi [m0,m1,m2,m3,m4,m5,m6,m7,m8,m9,m10,m11,m12,m13,m14,m15,m16,m17,m18,m19,m20,m21,m22,m23,m24] [b0,b1,b2,b3,b4,b5,b6,b7,b8,b9,b10,b11,b12,b13,b14,b15,b16,b17,b18,b19,b20,b21,b22,b23,b24] 5= [xorU m0 (andU (flipU m1) m2),xorU m1 (andU (flipU m2) m3),xorU m2 (andU (flipU m3) m4),xorU m3 (andU (flipU m4) m0),xorU m4 (andU (flipU m0) m1),xorU m5 (andU (flipU m6) m7),xorU m6 (andU (flipU m7) m8),xorU m7 (andU (flipU m8) m9),xorU m8 (andU (flipU m9) m5),xorU m9 (andU (flipU m5) m6),xorU m10 (andU (flipU m11) m12),xorU m11 (andU (flipU m12) m13),xorU m12 (andU (flipU m13) m14),xorU m13 (andU (flipU m14) m10),xorU m14 (andU (flipU m10) m11),xorU m15 (andU (flipU m16) m17),xorU m16 (andU (flipU m17) m18),xorU m17 (andU (flipU m18) m19),xorU m18 (andU (flipU m19) m15),xorU m19 (andU (flipU m15) m16),xorU m20 (andU (flipU m21) m22),xorU m21 (andU (flipU m22) m23),xorU m22 (andU (flipU m23) m24),xorU m23 (andU (flipU m24) m20),xorU m24 (andU (flipU m20) m21)]:=by kernel_rfl
  rw [e1,e2]
  simp only [not_and]
theorem mix_eq {s:List Int} (hs:s.length=25) (h:AllU s):kMix s=sMix s:=by
  unfold kMix sMix
  rw [moved_eq hs (kSums_length _ _),sums_eq hs h]
  exact chi_eq (sMoved_length _ _) hs (by rw [sTheta_length];exact hs)
theorem perm_eq {s:List Int} (hs:s.length=25) (h:AllU s) (r:Nat):kPerm s r=sPerm s r:=by
  induction r with
  |zero=> rfl
  |succ r ih=>
    unfold kPerm sPerm kRound sRound
    rw [mix_eq (by rw [kPerm_length];exact hs) (kPerm_in h r),ih]
end Go.Proofs.Ytlogocmojnhpbaa.Print
end
section
namespace Go.Proofs.Ytlogocmojnhpbaa.Print
open Go.RowKit Go.Proofs.YtlogocmojnhpbaaW.PrintWords
set_option linter.unusedVariables false
set_option linter.unusedSimpArgs false
def kLanes (xs:List Int):Nat → List Int
  |0=> List.replicate 25 0
  |i + 1=> (kLanes xs i).set (i / 8) (Go.bits .or .u64 ((kLanes xs i).getD (i / 8) 0) (IntKind.u64.wrap (IntKind.u64.wrap (xs.getD i 0) * 2 ^ (8 * (i % 8)))))
theorem kLanes_length (xs:List Int) (i:Nat):(kLanes xs i).length=25:=by
  induction i with
  |zero=> rfl
  |succ i ih=> simp [kLanes,ih]
theorem addBlk (a:Addr) (n:Nat):(a.add n).block=a.block:=by unfold Addr.add;split <;> rfl
theorem Moved.keep {w w':World} {g:Nat} (h:Moved w w' (fun i=> i=g)):KeepBut w w' g none:=⟨h.1,fun i hi hg _=> h.2.1 i hi hg⟩
set_option maxHeartbeats 8000000 in
set_option maxRecDepth 100000 in
theorem lanesI.loop (g c0:Nat) (A0:Option Addr) (l0:List Int) (wr:World) {u0 u1 u2 u4 u5 u6 u10 u11 u12 u13 u14 u15 u16 u17 u18 u19 u20 u21 u22 u23 u24 u25 u26 u27:Value} {Q:Exit → Act → World → Prop} (hr0:Kd.C (Kd.int .u8) wr A0 l0.length l0) (hn:l0.length ≤ 200) (hne:0 < l0.length → ∀ ad,A0=some ad → ad.block ≠ g) (hb:Arr wr g 96 .u64 (kLanes l0 0))
    (hexit:∀ (a':Act) (w':World),Arr w' g 96 .u64 (kLanes l0 l0.length) → Moved wr w' (fun i=> i=g) → (∃ z4 z5 z9 z10 z11 z12 z13 z14 z15 z16 z17 z18 z19 z20 z21 z22 z23 z24 z25 z26:Value,a'=⟨List.toArray (u0::u1::u2::Value.pointer (some ⟨g,0,none⟩)::z4::z5::u6::Value.slice A0 l0.length c0::Value.int .i64 (l0.length:Int)::z9::z10::z11::z12::z13::z14::z15::z16::z17::z18::z19::z20::z21::z22::z23::z24::z25::z26::u27:: []), []⟩) → Q (.exit 0) a' w'):
    Code.wp Try.prog (nthLoop Try.f84.body 0) Q ⟨List.toArray (u0::u1::u2::Value.pointer (some ⟨g,0,none⟩)::u4::u5::u6::Value.slice A0 l0.length c0::Value.int .i64 (l0.length:Int)::Value.int .i64 0::u10::u11::u12::u13::u14::u15::u16::u17::u18::u19::u20::u21::u22::u23::u24::u25::u26::u27:: []), []⟩ wr:=by
  conv=> arg 2;whnf
  have HR:=Aside0.mk hr0
  have HB:=Aside0.mk hb
  have HX:=Aside0.mk hexit
  clear hb hexit hr0
  go_loopg [9] l0.length (fun gg s9 w'=> ∃ k:Nat,k ≤ l0.length ∧ l0.length - k ≤ gg ∧ s9= .int .i64 k ∧ Aside0 (Arr w' g 96 .u64 (kLanes l0 k)) ∧ Aside0 (Moved wr w' (fun i=> i=g)))
  case atStart=> exact ⟨0,by omega,by omega,rfl,HB,⟨Moved.refl _ _⟩⟩
  case round=>
    obtain ⟨k,hk,hg,rfl,HK,HO⟩:=hrel
    by_cases hlt:k < l0.length
    · have hltz:(k:Int) < (l0.length:Int):=by omega
      have h0z:(0:Int) ≤ (k:Int):=by omega
      obtain ⟨ad,e0,hx0⟩:=Kd.at_int HR.out (k:Int) h0z hltz
      have hx1:=keep_cell HO.out.keep hx0 (by rw [addBlk];exact hne (by omega) ad e0)
      subst e0
      simp only [Int.toNat_natCast] at hx1
      have q0:=HK.out.cell (k / 8) (by rw [kLanes_length];omega)
      have f0:=HK.out.frozen (k / 8)
      obtain ⟨c,hc⟩:∃ c,c=rd l0 (k:Int):=⟨_,rfl⟩
      rw [← hc] at hx1
      have HC:Aside0 (c=l0.getD k 0):=⟨by rw [hc];simp [rd]⟩
      clear hx0 hc
      go_wp2
      have a1:((k:Int)).tdiv 8=(k:Int) / 8:=Int.tdiv_eq_ediv_of_nonneg (by omega)
      have a2:IntKind.i64.wrap ((k:Int) / 8)=(k:Int) / 8:=by rw [IntKind.wrap_i64];omega
      have a3:(0:Int) ≤ (k:Int) / 8:=by omega
      have a4:(k:Int) / 8 < 25:=by omega
      have a5:((k:Int) / 8).toNat=k / 8:=by omega
      have b1:((k:Int)).tmod 8=(k:Int) % 8:=Int.tmod_eq_emod_of_nonneg (by omega)
      have b2:IntKind.i64.wrap ((k:Int) % 8)=(k:Int) % 8:=by rw [IntKind.wrap_i64];omega
      have b3:IntKind.i64.wrap (8 * ((k:Int) % 8))=8 * ((k:Int) % 8):=by rw [IntKind.wrap_i64];omega
      have b4:(0:Int) ≤ 8 * ((k:Int) % 8):=by omega
      have b5:(8 * ((k:Int) % 8)).toNat=8 * (k % 8):=by omega
      have b6:min (8 * (k % 8)) 64=8 * (k % 8):=by omega
      refine wp_region_still_tail 12 (by kernel_rfl) (by kernel_rfl) ?_
      show wpStill _ _ (World.drew _) (fun a'=> wpList _ _ _ _ a' (World.drew _)) _ _
      simp only [List.take_succ_cons,List.take_zero,List.drop_succ_cons,List.drop_zero]
      repeat still_step
      refine wpStill_nil ?_
      clear a1 a2 a3 a4 a5 b1 b2 b3 b4 b5 b6
      go_wp2
      go_roundg (l0.length - (k + 1))
      case measure=> omega
      case rel=> exact ⟨k + 1,by omega,by omega,by go_num,⟨by rw [HC.out];exact (HK.out.drew).set (k / 8) _⟩,⟨(HO.out.drew).set g _ _ (.inl rfl)⟩⟩
    · have hk25:k=l0.length:=by omega
      subst hk25
      have hd:decide ((l0.length:Int) < (l0.length:Int))=false:=decide_eq_false (by omega)
      go_wp2
      exact HX.out _ _ HK.out HO.out ⟨_,_,_,_,_,_,_,_,_,_,_,_,_,_,_,_,_,_,_,_,rfl⟩
set_option maxHeartbeats 8000000 in
set_option maxRecDepth 100000 in
theorem lanesI.calls (A0:Option Addr) (c0:Nat) (l0:List Int) (w:World) (hr0:Kd.C (Kd.int .u8) w A0 l0.length l0) (hn:l0.length ≤ 200):
    Calls Try.prog 84 #[.slice A0 l0.length c0] w fun e w'=> e= .returned (.agg (nums .u64 (kLanes l0 l0.length)).toArray) ∧ Below w.heap.size w w':=by
  go_enter Try.func84,Try.ntmps84
  go_upto_region 0 with fail
  apply wp_region_lit
  refine Go.Great.wpList_allocTo rfl (some 2) rfl (.pointer (some ⟨w.heap.size,0,none⟩)) (.cells z25 96) (by kernel_rfl) ?_
  refine wpList_frame (a':=⟨List.toArray (Value.slice A0 l0.length c0::undef::Value.pointer (some ⟨w.heap.size,0,none⟩)::undef::undef::undef::undef::undef::undef::undef::undef::undef::undef::undef::undef::undef::undef::undef::undef::undef::undef::undef::undef::undef::undef::undef::undef::undef:: []), []⟩) (by kernel_rfl) ?_
  apply wpList_nil
  go_upto_region 1 with fail
  apply wp_region_lit
  refine wpList_buildTo rfl 96 _ rfl (some 6) rfl z25 (by kernel_rfl) ?_
  refine Go.Great.wpList_allocTo rfl (some 3) rfl (.pointer (some ⟨(w.alloc (.cells z25 96)).heap.size,0,none⟩)) (.cells z25 96) (by kernel_rfl) ?_
  refine wpList_store_rowTo rfl 96 _ _ rfl rfl (w.alloc (.cells z25 96)).heap.size z25 (by kernel_rfl) (by kernel_rfl) 96 z25 (blk_new _ _) (by kernel_rfl) rfl (by kernel_rfl) ?_
  rw [setRow_self _ _ _ _ _ (blk_new _ _)]
  refine wpList_frame (a':=⟨List.toArray (Value.slice A0 l0.length c0::undef::Value.pointer (some ⟨w.heap.size,0,none⟩)::Value.pointer (some ⟨(w.alloc (Obj.cells z25 96)).heap.size,0,none⟩)::undef::undef::Value.agg z25::undef::undef::undef::undef::undef::undef::undef::undef::undef::undef::undef::undef::undef::undef::undef::undef::undef::undef::undef::undef::undef:: []), []⟩) (by kernel_rfl) ?_
  apply wpList_nil
  have AO:Arr ((w.alloc (.cells z25 96)).alloc (.cells z25 96)) w.heap.size 96 .u64 (List.replicate 25 0):=blk_alloc (blk_new _ _) _
  have AG:Arr ((w.alloc (.cells z25 96)).alloc (.cells z25 96)) (w.alloc (.cells z25 96)).heap.size 96 .u64 (kLanes l0 0):=blk_new _ _
  have BW:Below w.heap.size w ((w.alloc (.cells z25 96)).alloc (.cells z25 96)):=bwA (bwA (Below.refl _ w) _) _
  have g1:w.heap.size < (w.alloc (.cells z25 96)).heap.size:=blk_lt (blk_new w (.cells z25 96))
  have HR:=Kd.C_below hr0 BW
  have hne:∀ ad,A0=some ad → 0 < l0.length → ad.block < w.heap.size:=by
    intro ad e h0
    obtain ⟨ad',e',hx⟩:=Kd.at_int hr0 0 (by omega) (by omega)
    have:=World.block_lt_of_cell? w _ hx
    rw [e] at e'
    cases e'
    rw [addBlk] at this
    exact this
  have hne':∀ g:Nat,w.heap.size ≤ g → (0 < l0.length → ∀ ad,A0=some ad → ad.block ≠ g):=fun g hg h0 ad e=> by have:=hne ad e h0;omega
  have MV:=((Moved.refl w (fun i=> w.heap.size ≤ i)).alloc (.cells z25 96)).alloc (.cells z25 96)
  have hne2:=hne' (w.alloc (.cells z25 96)).heap.size (by omega)
  clear hne hne' BW hr0
  generalize ((w.alloc (.cells z25 96)).alloc (.cells z25 96))=W1 at AG AO MV HR ⊢
  generalize (w.alloc (.cells z25 96)).heap.size=g at AG g1 hne2 ⊢
  generalize hga:w.heap.size=go at AO MV g1 ⊢
  have HG:=Aside0.mk hga
  have n1:go ≠ g:=by omega
  have g1':go ≤ g:=by omega
  have AO:=Aside0.mk AO
  have AG:=Aside0.mk AG
  have MV:=Aside0.mk MV
  have HR:=Aside0.mk HR
  have HN:=Aside0.mk hne2
  clear hga g1 hne2
  go_wp2
  refine lanesI.loop g c0 A0 l0 W1 HR.out hn HN.out AG.out ?_
  intro a2 W2 S1 m1 hz
  obtain ⟨v4,hz⟩:=hz
  obtain ⟨v5,hz⟩:=hz
  obtain ⟨v9,hz⟩:=hz
  obtain ⟨v10,hz⟩:=hz
  obtain ⟨v11,hz⟩:=hz
  obtain ⟨v12,hz⟩:=hz
  obtain ⟨v13,hz⟩:=hz
  obtain ⟨v14,hz⟩:=hz
  obtain ⟨v15,hz⟩:=hz
  obtain ⟨v16,hz⟩:=hz
  obtain ⟨v17,hz⟩:=hz
  obtain ⟨v18,hz⟩:=hz
  obtain ⟨v19,hz⟩:=hz
  obtain ⟨v20,hz⟩:=hz
  obtain ⟨v21,hz⟩:=hz
  obtain ⟨v22,hz⟩:=hz
  obtain ⟨v23,hz⟩:=hz
  obtain ⟨v24,hz⟩:=hz
  obtain ⟨v25,hz⟩:=hz
  obtain ⟨v26,hz⟩:=hz
  subst hz
  have AO:=AO.out.moved m1 (fun e=> n1 e)
  have MV:=MV.out.trans_new m1 (fun i e=> .inl (e ▸ g1'))
  have hsz:(nums .u64 (kLanes l0 l0.length)).toArray.size=25:=by simp [nums,kLanes_length]
  have hone:(nums .u64 (kLanes l0 l0.length)).toArray.all (·.oneCell')=true:=by simp [nums,Value.oneCell']
  go_upto_region 7 with fail
  apply wp_region_lit
  refine wpList_load_row rfl 96 _ rfl g rfl 96 _ (0,0) _ S1 Try.underlying96 rfl (by rw [hsz];kernel_rfl) ?_
  refine wpList_store_rowTo rfl 96 _ _ rfl rfl go (nums .u64 (kLanes l0 l0.length)).toArray (by kernel_rfl) (by kernel_rfl) 96 _ AO (by rw [hsz];kernel_rfl) (by rw [hsz];rfl) hone ?_
  have AF:=setRow_heap W2 go _ (nums .u64 (kLanes l0 l0.length)).toArray 96 (0,0) AO
  have BF:Below w.heap.size w (W2.setRow go (nums .u64 (kLanes l0 l0.length)).toArray):=below_setRow (MV.below (fun i hi h=> absurd h (by have:=HG.out;omega))) (Nat.le_of_eq HG.out) _
  generalize W2.setRow go (nums .u64 (kLanes l0 l0.length)).toArray=W3 at AF BF ⊢
  refine wpList_frame (a':=⟨List.toArray (Value.slice A0 l0.length c0::undef::Value.pointer (some ⟨go,0,none⟩)::Value.pointer (some ⟨g,0,none⟩)::v4::v5::Value.agg z25::Value.slice A0 l0.length c0::Value.int .i64 (l0.length:Int)::v9::v10::v11::v12::v13::v14::v15::v16::v17::v18::v19::v20::v21::v22::v23::v24::v25::v26::Value.agg (nums .u64 (kLanes l0 l0.length)).toArray:: []), []⟩) (by kernel_rfl) ?_
  apply wpList_nil
  go_wp2
  refine bodyPost_ret (results_cell_row rfl _ _ go 96 _ (0,0) _ rfl AF Try.underlying96 rfl (by rw [hsz];kernel_rfl)) rfl ?_
  exact ⟨rfl,BF⟩
end Go.Proofs.Ytlogocmojnhpbaa.Print
end
section
namespace Go.Proofs.Ytlogocmojnhpbaa.Print
open Go.RowKit Go.Proofs.YtlogocmojnhpbaaW.PrintWords
set_option linter.unusedVariables false
set_option linter.unusedSimpArgs false
theorem idx_str (s:ByteArray) (k:Nat) (hk:k < s.size) (w:World):(Instr.index 9 (.string s) (.int .i64 (k:Int))).run Try.prog w= .ok (.int .u8 (bt s (k:Int))) w:=by
  have h1:(0:Int) ≤ (k:Int):=by omega
  have e:s[k]?=some (s[k]'hk):=by simp [hk]
  have h2:bt s (k:Int)=((s[k]'hk).toNat:Int):=by unfold bt;rw [dif_pos (by simpa using hk)];simp
  rw [h2]
  simp [Instr.index,run_underlying Try.underlying9,asIntOf,h1,go_sem,hk]
set_option maxHeartbeats 8000000 in
set_option maxRecDepth 100000 in
theorem lanesS.loop (g:Nat) (s:ByteArray) (wr:World) {u1 u2 u5 u6 u7 u8 u9 u10 u11 u12 u13 u14 u15 u16 u17 u18 u19 u20 u21 u22 u23 u24 u25 u26 u27:Value} {Q:Exit → Act → World → Prop} (hn:s.size ≤ 200) (hb:Arr wr g 93 .u64 (kLanes (bytesOf s) 0))
    (hexit:∀ (a':Act) (w':World),Arr w' g 93 .u64 (kLanes (bytesOf s) s.size) → Moved wr w' (fun i=> i=g) → (∃ z4 z6 z7 z8 z9 z10 z11 z12 z13 z14 z15 z16 z17 z18 z19 z20 z21 z22 z23 z24 z25 z26:Value,a'=⟨List.toArray (Value.string s::u1::u2::Value.pointer (some ⟨g,0,none⟩)::z4::u5::z6::z7::z8::z9::z10::z11::z12::z13::z14::z15::z16::z17::z18::z19::z20::z21::z22::z23::z24::z25::z26::u27:: []), []⟩) → Q (.exit 0) a' w'):
    Code.wp Try.prog (nthLoop Try.f82.body 0) Q ⟨List.toArray (Value.string s::u1::u2::Value.pointer (some ⟨g,0,none⟩)::Value.int .i64 0::u5::u6::u7::u8::u9::u10::u11::u12::u13::u14::u15::u16::u17::u18::u19::u20::u21::u22::u23::u24::u25::u26::u27:: []), []⟩ wr:=by
  conv=> arg 2;whnf
  have HB:=Aside0.mk hb
  have HX:=Aside0.mk hexit
  clear hb hexit
  go_loopg [4] s.size (fun gg s4 w'=> ∃ k:Nat,k ≤ s.size ∧ s.size - k ≤ gg ∧ s4= .int .i64 k ∧ Aside0 (Arr w' g 93 .u64 (kLanes (bytesOf s) k)) ∧ Aside0 (Moved wr w' (fun i=> i=g)))
  case atStart=> exact ⟨0,by omega,by omega,rfl,HB,⟨Moved.refl _ _⟩⟩
  case round=>
    obtain ⟨k,hk,hg,rfl,HK,HO⟩:=hrel
    by_cases hlt:k < s.size
    · have hltz:(k:Int) < (s.size:Int):=by omega
      have h0z:(0:Int) ≤ (k:Int):=by omega
      have q0:=HK.out.cell (k / 8) (by rw [kLanes_length];omega)
      have f0:=HK.out.frozen (k / 8)
      have hx:=fun w=> idx_str s k hlt w
      obtain ⟨c,hc⟩:∃ c,c=bt s (k:Int):=⟨_,rfl⟩
      simp only [← hc] at hx
      have HC:Aside0 (c=(bytesOf s).getD k 0):=⟨by rw [hc,← rd_bytesOf];simp [rd]⟩
      clear hc hlt
      go_wp2
      have a1:((k:Int)).tdiv 8=(k:Int) / 8:=Int.tdiv_eq_ediv_of_nonneg (by omega)
      have a2:IntKind.i64.wrap ((k:Int) / 8)=(k:Int) / 8:=by rw [IntKind.wrap_i64];omega
      have a3:(0:Int) ≤ (k:Int) / 8:=by omega
      have a4:(k:Int) / 8 < 25:=by omega
      have a5:((k:Int) / 8).toNat=k / 8:=by omega
      have b1:((k:Int)).tmod 8=(k:Int) % 8:=Int.tmod_eq_emod_of_nonneg (by omega)
      have b2:IntKind.i64.wrap ((k:Int) % 8)=(k:Int) % 8:=by rw [IntKind.wrap_i64];omega
      have b3:IntKind.i64.wrap (8 * ((k:Int) % 8))=8 * ((k:Int) % 8):=by rw [IntKind.wrap_i64];omega
      have b4:(0:Int) ≤ 8 * ((k:Int) % 8):=by omega
      have b5:(8 * ((k:Int) % 8)).toNat=8 * (k % 8):=by omega
      have b6:min (8 * (k % 8)) 64=8 * (k % 8):=by omega
      have b7:IntKind.u64.wrap (8 * ((k:Int) % 8))=8 * ((k:Int) % 8):=by first|(rw [IntKind.wrap_u64];omega)|(simp only [IntKind.wrap,IntKind.bits,IntKind.signed];first|omega|(simp;omega))
      refine wp_region_still_tail 15 (by kernel_rfl) (by kernel_rfl) ?_
      show wpStill _ _ (World.drew _) (fun a'=> wpList _ _ _ _ a' (World.drew _)) _ _
      simp only [List.take_succ_cons,List.take_zero,List.drop_succ_cons,List.drop_zero]
      repeat still_step
      refine wpStill_nil ?_
      clear a1 a2 a3 a4 a5 b1 b2 b3 b4 b5 b6 b7
      go_wp2
      go_roundg (s.size - (k + 1))
      case measure=> omega
      case rel=> exact ⟨k + 1,by omega,by omega,by go_num,⟨by rw [HC.out];exact (HK.out.drew).set (k / 8) _⟩,⟨(HO.out.drew).set g _ _ (.inl rfl)⟩⟩
    · have hk25:k=s.size:=by omega
      subst hk25
      have hd:decide ((s.size:Int) < (s.size:Int))=false:=decide_eq_false (by omega)
      go_wp2
      exact HX.out _ _ HK.out HO.out ⟨_,_,_,_,_,_,_,_,_,_,_,_,_,_,_,_,_,_,_,_,_,_,rfl⟩
set_option maxHeartbeats 8000000 in
set_option maxRecDepth 100000 in
theorem lanesS.calls (s:ByteArray) (w:World) (hn:s.size ≤ 200):
    Calls Try.prog 82 #[.string s] w fun e w'=> e= .returned (.agg (nums .u64 (kLanes (bytesOf s) s.size)).toArray) ∧ Below w.heap.size w w':=by
  go_enter Try.func82,Try.ntmps82
  go_upto_region 0 with fail
  apply wp_region_lit
  refine Go.Great.wpList_allocTo rfl (some 2) rfl (.pointer (some ⟨w.heap.size,0,none⟩)) (.cells z25 93) (by kernel_rfl) ?_
  refine wpList_frame (a':=⟨List.toArray (Value.string s::undef::Value.pointer (some ⟨w.heap.size,0,none⟩)::undef::undef::undef::undef::undef::undef::undef::undef::undef::undef::undef::undef::undef::undef::undef::undef::undef::undef::undef::undef::undef::undef::undef::undef::undef:: []), []⟩) (by kernel_rfl) ?_
  apply wpList_nil
  go_upto_region 1 with fail
  apply wp_region_lit
  refine wpList_buildTo rfl 93 _ rfl (some 5) rfl z25 (by kernel_rfl) ?_
  refine Go.Great.wpList_allocTo rfl (some 3) rfl (.pointer (some ⟨(w.alloc (.cells z25 93)).heap.size,0,none⟩)) (.cells z25 93) (by kernel_rfl) ?_
  refine wpList_store_rowTo rfl 93 _ _ rfl rfl (w.alloc (.cells z25 93)).heap.size z25 (by kernel_rfl) (by kernel_rfl) 93 z25 (blk_new _ _) (by kernel_rfl) rfl (by kernel_rfl) ?_
  rw [setRow_self _ _ _ _ _ (blk_new _ _)]
  refine wpList_frame (a':=⟨List.toArray (Value.string s::undef::Value.pointer (some ⟨w.heap.size,0,none⟩)::Value.pointer (some ⟨(w.alloc (Obj.cells z25 93)).heap.size,0,none⟩)::undef::Value.agg z25::undef::undef::undef::undef::undef::undef::undef::undef::undef::undef::undef::undef::undef::undef::undef::undef::undef::undef::undef::undef::undef::undef:: []), []⟩) (by kernel_rfl) ?_
  apply wpList_nil
  have AO:Arr ((w.alloc (.cells z25 93)).alloc (.cells z25 93)) w.heap.size 93 .u64 (List.replicate 25 0):=blk_alloc (blk_new _ _) _
  have AG:Arr ((w.alloc (.cells z25 93)).alloc (.cells z25 93)) (w.alloc (.cells z25 93)).heap.size 93 .u64 (kLanes (bytesOf s) 0):=blk_new _ _
  have BW:Below w.heap.size w ((w.alloc (.cells z25 93)).alloc (.cells z25 93)):=bwA (bwA (Below.refl _ w) _) _
  have g1:w.heap.size < (w.alloc (.cells z25 93)).heap.size:=blk_lt (blk_new w (.cells z25 93))
  have MV:=((Moved.refl w (fun i=> w.heap.size ≤ i)).alloc (.cells z25 93)).alloc (.cells z25 93)
  clear BW
  generalize ((w.alloc (.cells z25 93)).alloc (.cells z25 93))=W1 at AG AO MV ⊢
  generalize (w.alloc (.cells z25 93)).heap.size=g at AG g1 ⊢
  generalize hga:w.heap.size=go at AO MV g1 ⊢
  have HG:=Aside0.mk hga
  have n1:go ≠ g:=by omega
  have g1':go ≤ g:=by omega
  have AO:=Aside0.mk AO
  have AG:=Aside0.mk AG
  have MV:=Aside0.mk MV
  clear hga g1
  go_wp2
  refine lanesS.loop g s W1 hn AG.out ?_
  intro a2 W2 S1 m1 hz
  obtain ⟨v4,hz⟩:=hz
  obtain ⟨v6,hz⟩:=hz
  obtain ⟨v7,hz⟩:=hz
  obtain ⟨v8,hz⟩:=hz
  obtain ⟨v9,hz⟩:=hz
  obtain ⟨v10,hz⟩:=hz
  obtain ⟨v11,hz⟩:=hz
  obtain ⟨v12,hz⟩:=hz
  obtain ⟨v13,hz⟩:=hz
  obtain ⟨v14,hz⟩:=hz
  obtain ⟨v15,hz⟩:=hz
  obtain ⟨v16,hz⟩:=hz
  obtain ⟨v17,hz⟩:=hz
  obtain ⟨v18,hz⟩:=hz
  obtain ⟨v19,hz⟩:=hz
  obtain ⟨v20,hz⟩:=hz
  obtain ⟨v21,hz⟩:=hz
  obtain ⟨v22,hz⟩:=hz
  obtain ⟨v23,hz⟩:=hz
  obtain ⟨v24,hz⟩:=hz
  obtain ⟨v25,hz⟩:=hz
  obtain ⟨v26,hz⟩:=hz
  subst hz
  have AO:=AO.out.moved m1 (fun e=> n1 e)
  have MV:=MV.out.trans_new m1 (fun i e=> .inl (e ▸ g1'))
  have hsz:(nums .u64 (kLanes (bytesOf s) s.size)).toArray.size=25:=by simp [nums,kLanes_length]
  have hone:(nums .u64 (kLanes (bytesOf s) s.size)).toArray.all (·.oneCell')=true:=by simp [nums,Value.oneCell']
  go_upto_region 6 with fail
  apply wp_region_lit
  refine wpList_load_row rfl 93 _ rfl g rfl 93 _ (0,0) _ S1 Try.underlying93 rfl (by rw [hsz];kernel_rfl) ?_
  refine wpList_store_rowTo rfl 93 _ _ rfl rfl go (nums .u64 (kLanes (bytesOf s) s.size)).toArray (by kernel_rfl) (by kernel_rfl) 93 _ AO (by rw [hsz];kernel_rfl) (by rw [hsz];rfl) hone ?_
  have AF:=setRow_heap W2 go _ (nums .u64 (kLanes (bytesOf s) s.size)).toArray 93 (0,0) AO
  have BF:Below w.heap.size w (W2.setRow go (nums .u64 (kLanes (bytesOf s) s.size)).toArray):=below_setRow (MV.below (fun i hi h=> absurd h (by have:=HG.out;omega))) (Nat.le_of_eq HG.out) _
  generalize W2.setRow go (nums .u64 (kLanes (bytesOf s) s.size)).toArray=W3 at AF BF ⊢
  refine wpList_frame (a':=⟨List.toArray (Value.string s::undef::Value.pointer (some ⟨go,0,none⟩)::Value.pointer (some ⟨g,0,none⟩)::v4::Value.agg z25::v6::v7::v8::v9::v10::v11::v12::v13::v14::v15::v16::v17::v18::v19::v20::v21::v22::v23::v24::v25::v26::Value.agg (nums .u64 (kLanes (bytesOf s) s.size)).toArray:: []), []⟩) (by kernel_rfl) ?_
  apply wpList_nil
  go_wp2
  refine bodyPost_ret (results_cell_row rfl _ _ go 93 _ (0,0) _ rfl AF Try.underlying93 rfl (by rw [hsz];kernel_rfl)) rfl ?_
  exact ⟨rfl,BF⟩
end Go.Proofs.Ytlogocmojnhpbaa.Print
end
section
namespace Go.Proofs.Ytlogocmojnhpbaa.Print
open Go.RowKit Go.Proofs.YtlogocmojnhpbaaW.PrintWords Go.Proofs.YtlogocmojnhpbaaW.PrintLast
set_option linter.unusedVariables false
set_option linter.unusedSimpArgs false
def kText (s:List Int):Nat → List Int
  |0=> []
  |i + 1=> kText s i ++ [s.getD (i / 8) 0 / 2 ^ (8 * (i % 8)) % 256]
theorem kText_length (s:List Int) (i:Nat):(kText s i).length=i:=by
  induction i with
  |zero=> rfl
  |succ i ih=> simp [kText,ih]
set_option maxHeartbeats 8000000 in
set_option maxRecDepth 100000 in
theorem textI.calls (g:Nat) (s:List Int) (w:World) (hs:s.length=25) (hb:Arr w g 96 .u64 s):
    Calls Try.prog 86 #[.pointer (some ⟨g,0,none⟩)] w fun e w'=> ∃ v0_:Value,e= .returned (v0_) ∧ Kd.R (Kd.int .u8) 5 w' w.heap.size (fun _=> True) v0_ (kText s 200) ∧ Below w.heap.size w w':=by
  have HB:=Aside0.mk (Below.refl w.heap.size w)
  have HA:=Aside0.mk hb
  have hlt:=hb.lt
  clear hb
  obtain ⟨y0,hy0⟩:∃ y_:List Int,y_=(([]:List Int)):=⟨_,rfl⟩
  have Ny0:=Aside0.mk hy0
  clear hy0
  go_enter Try.func86,Try.ntmps86
  go_wp2_with (first|((with_reducible refine gate_dst (N:=5) rfl ?_);refine Kd.R_lit (Kd.int .u8) _ 5 ?hg (N:=5) ?hd (xs:=([]:List Int)) (inner:= []) (ok:=fun _=> True) (okp:=fun _=> True) ?hr ?hp (fun _ hk=> hk) trivial (Below.refl _ _) (Nat.le_refl _) (by simp) ?_;(case hd=> rfl);(case hg=> rfl);(case hr=> first|(go_simp;done)|(go_simp;rfl));(case hp=> exact (Reps.none _ _));intro v0 w3 ho4 hb hg_ hnew_;clear hg_ hnew_;(first|rw [← Ny0.out] at ho4|(simp only [Int.reduceToNat] at ho4;rw [← Ny0.out] at ho4));have n0_:=Aside0.mk (Kd.R_lower ho4 (below_size (by repeat (first|(with_reducible first|exact HB.out|apply bwA|apply bwN|apply bwD)|exact HB.out))));have n1_:=Aside0.mk (below_step (by repeat (first|(with_reducible first|exact HB.out|apply bwA|apply bwN|apply bwD)|exact HB.out)) hb);clear HB;have HO0:=n0_;have HB:=n1_;clear n0_ n1_;clear hb ho4))
  go_loopg [3,6] 200 (fun gg s3 s6 w'=> ∃ (x3:List Int) (k:Nat),k ≤ 200 ∧ 200 - k ≤ gg ∧ s6= .int .i64 k ∧ Aside0 (x3=kText s k) ∧ Aside0 (Kd.R (Kd.int .u8) 5 w' w.heap.size (fun _=> True) s3 x3) ∧ Aside0 (Below w.heap.size w w'))
  case atStart=> exact ⟨y0,0,by omega,by omega,rfl,⟨Ny0.out⟩,HO0,HB⟩
  case round=>
    obtain ⟨x3,k,hk,hg,rfl,HX,HO3,HB⟩:=hrel
    by_cases hlt2:k < 200
    · have hltz:(k:Int) < 200:=by omega
      have h0z:(0:Int) ≤ (k:Int):=by omega
      have HG:Arr wr g 96 .u64 s:=(HB.out.block g hlt).trans HA.out
      have q0:=HG.cell (k / 8) (by omega)
      obtain ⟨v0,hv0⟩:∃ v,v=s.getD (k / 8) 0:=⟨_,rfl⟩
      rw [← hv0] at q0
      obtain ⟨b0,hb0⟩:∃ b,b=v0 / 2 ^ (8 * (k % 8)) % 256:=⟨_,rfl⟩
      obtain ⟨y1,hy1⟩:∃ y_:List Int,y_=x3 ++ [b0]:=⟨_,rfl⟩
      have Ny1:=Aside0.mk hy1
      have HV:=Aside0.mk hv0
      have HB0:=Aside0.mk hb0
      have LM:Aside0 (x3.length < 140737488355328):=⟨by rw [HX.out,kText_length];omega⟩
      have e1:v0 / 2 ^ (8 * (k % 8)) % 256=b0:=hb0.symm
      clear hy1 hv0 hb0 hlt2
      go_wp2_with (first|((with_reducible refine gate_builtin (b:= .append) (xs:= #[.tmp 9,.tmp 21]) rfl ?_);at_builtin;refine Kd.R_append (Kd.int .u8) (w0:=w) w.heap.size rfl (.tmp 9) (.tmp 21) 25 5 (.int .u8 0) 1 rfl Try.underlying25 info5 rfl (by decide) (by omega) u3 x3 (b0) [.int .u8 (b0)] (fun _=> True) (fun _=> False) rfl rfl ?aP (fun _ hk=> hk.elim) ?aF ?aO ?aB ?aS ?aL ?_;(case aP=> exact rfl);(case aB=> exact (by repeat (first|(with_reducible first|exact HB.out|apply bwA|apply bwN|apply bwD)|exact HB.out)));(case aF=> exact (fun _ _=> trivial));(case aO=> exact (by (with_reducible repeat (first|apply Kd.R_alloc|apply Kd.R_drewN|apply Kd.R_drew));exact HO3.out));(case aS=> exact (below_size (by repeat (first|(with_reducible first|exact HB.out|apply bwA|apply bwN|apply bwD)|exact HB.out))));(case aL=> have:=LM.out;omega);intro v1 w10 ho hb hg hat;rw [← Ny1.out] at ho;have n0_:=Aside0.mk (hb);have n1_:=Aside0.mk (ho);clear HB;clear HO3;have HB:=n0_;have HO4:=n1_;clear n0_ n1_;clear ho hb hg hat))
      go_roundg (200 - (k + 1))
      case measure=> omega
      case rel=> exact ⟨y1,k + 1,by omega,by omega,by go_num,⟨by rw [Ny1.out,HX.out,HB0.out,HV.out];rfl⟩,HO4,HB⟩
    · have hk25:k=200:=by omega
      subst hk25
      go_wp2
      go_ret
      exact ⟨_,rfl,by rw [← HX.out];exact HO3.out,HB.out⟩
end Go.Proofs.Ytlogocmojnhpbaa.Print
end
section
namespace Go.Proofs.Ytlogocmojnhpbaa.Print
open Go.RowKit Go.Proofs.YtlogocmojnhpbaaW.PrintWords Go.Proofs.YtlogocmojnhpbaaW.PrintLast
set_option linter.unusedVariables false
set_option linter.unusedSimpArgs false
set_option maxHeartbeats 8000000 in
set_option maxRecDepth 100000 in
theorem textS.calls (s:List Int) (m:Nat) (w:World) (hs:s.length=25) (hm:m ≤ 200):
    Calls Try.prog 80 #[.agg (nums .u64 s).toArray,.int .i64 (m:Int)] w fun e w'=> e= .returned (.string (strOfNums (kText s m))) ∧ Below w.heap.size w w':=by
  obtain ⟨V,hV⟩:∃ V,V=(nums .u64 s).toArray:=⟨_,rfl⟩
  rw [← hV]
  obtain ⟨y0,hy0⟩:∃ y_:List Int,y_=(([]:List Int)):=⟨_,rfl⟩
  have Ny0:=Aside0.mk hy0
  clear hy0
  go_enter Try.func80,Try.ntmps80
  go_upto_region 0 with fail
  apply wp_region_lit
  refine Go.Great.wpList_allocTo rfl (some 2) rfl (.pointer (some ⟨w.heap.size,0,none⟩)) (.cells V 93) (by kernel_rfl) ?_
  refine wpList_frame (a':=⟨List.toArray (Value.agg V::Value.int .i64 (m:Int)::Value.pointer (some ⟨w.heap.size,0,none⟩)::undef::undef::undef::undef::undef::undef::undef::undef::undef::undef::undef::undef::undef::undef::undef::undef::undef::undef::undef::undef::undef::undef::undef::undef::undef:: []), []⟩) (by kernel_rfl) ?_
  have AG:Arr (w.alloc (.cells V 93)) w.heap.size 93 .u64 s:=by
    unfold Arr
    rw [← hV]
    exact blk_new _ _
  have BW:Below w.heap.size w (w.alloc (.cells V 93)):=bwA (Below.refl _ w) _
  generalize w.alloc (.cells V 93)=w1 at AG BW ⊢
  generalize hgb:w.heap.size=gb at AG ⊢
  have HG:=Aside0.mk hgb
  have hlt:=AG.lt
  have HA:=Aside0.mk AG
  have BW:=Aside0.mk BW
  have HB:=Aside0.mk (Below.refl w1.heap.size w1)
  clear hV hgb AG
  go_wp2_with (first|((with_reducible refine gate_dst (N:=7) rfl ?_);refine Kd.R_lit (Kd.int .u8) _ 5 ?hg (N:=7) ?hd (xs:=([]:List Int)) (inner:= []) (ok:=fun _=> True) (okp:=fun _=> True) ?hr ?hp (fun _ hk=> hk) trivial (Below.refl _ _) (Nat.le_refl _) (by simp) ?_;(case hd=> rfl);(case hg=> rfl);(case hr=> first|(go_simp;done)|(go_simp;rfl));(case hp=> exact (Reps.none _ _));intro v0 w3 ho4 hb hg_ hnew_;clear hg_ hnew_;(first|rw [← Ny0.out] at ho4|(simp only [Int.reduceToNat] at ho4;rw [← Ny0.out] at ho4));have n0_:=Aside0.mk (Kd.R_lower ho4 (below_size (by repeat (first|(with_reducible first|exact HB.out|apply bwA|apply bwN|apply bwD)|exact HB.out))));have n1_:=Aside0.mk (below_step (by repeat (first|(with_reducible first|exact HB.out|apply bwA|apply bwN|apply bwD)|exact HB.out)) hb);clear HB;have HO0:=n0_;have HB:=n1_;clear n0_ n1_;clear hb ho4))
  go_loopg [5,6] m (fun gg s5 s6 w'=> ∃ (x3:List Int) (k:Nat),k ≤ m ∧ m - k ≤ gg ∧ s6= .int .i64 k ∧ Aside0 (x3=kText s k) ∧ Aside0 (Kd.R (Kd.int .u8) 5 w' w1.heap.size (fun _=> True) s5 x3) ∧ Aside0 (Below w1.heap.size w1 w'))
  case atStart=> exact ⟨y0,0,by omega,by omega,rfl,⟨Ny0.out⟩,HO0,HB⟩
  case round=>
    obtain ⟨x3,k,hk,hg,rfl,HX,HO3,HB⟩:=hrel
    by_cases hlt2:k < m
    · have hltm:(k:Int) < (m:Int):=by omega
      have hltz:(k:Int) < 200:=by omega
      have h0z:(0:Int) ≤ (k:Int):=by omega
      have HG:Arr wr gb 93 .u64 s:=(HB.out.block gb hlt).trans HA.out
      have q0:=HG.cell (k / 8) (by omega)
      obtain ⟨v0,hv0⟩:∃ v,v=s.getD (k / 8) 0:=⟨_,rfl⟩
      rw [← hv0] at q0
      obtain ⟨b0,hb0⟩:∃ b,b=v0 / 2 ^ (8 * (k % 8)) % 256:=⟨_,rfl⟩
      obtain ⟨y1,hy1⟩:∃ y_:List Int,y_=x3 ++ [b0]:=⟨_,rfl⟩
      have Ny1:=Aside0.mk hy1
      have HV:=Aside0.mk hv0
      have HB0:=Aside0.mk hb0
      have LM:Aside0 (x3.length < 140737488355328):=⟨by rw [HX.out,kText_length];omega⟩
      have e1:v0 / 2 ^ (8 * (k % 8)) % 256=b0:=hb0.symm
      have b7:IntKind.u64.wrap (8 * ((k:Int) % 8))=8 * ((k:Int) % 8):=by rw [IntKind.wrap_u64];omega
      clear hy1 hv0 hb0 hlt2
      go_wp2_with (first|((with_reducible refine gate_builtin (b:= .append) (xs:= #[.tmp 13,.tmp 24]) rfl ?_);at_builtin;refine Kd.R_append (Kd.int .u8) (w0:=w1) w1.heap.size rfl (.tmp 13) (.tmp 24) 25 5 (.int .u8 0) 1 rfl Try.underlying25 info5 rfl (by decide) (by omega) u5 x3 (b0) [.int .u8 (b0)] (fun _=> True) (fun _=> False) rfl rfl ?aP (fun _ hk=> hk.elim) ?aF ?aO ?aB ?aS ?aL ?_;(case aP=> exact rfl);(case aB=> exact (by repeat (first|(with_reducible first|exact HB.out|apply bwA|apply bwN|apply bwD)|exact HB.out)));(case aF=> exact (fun _ _=> trivial));(case aO=> exact (by (with_reducible repeat (first|apply Kd.R_alloc|apply Kd.R_drewN|apply Kd.R_drew));exact HO3.out));(case aS=> exact (below_size (by repeat (first|(with_reducible first|exact HB.out|apply bwA|apply bwN|apply bwD)|exact HB.out))));(case aL=> have:=LM.out;omega);intro v1 w10 ho hb hg hat;rw [← Ny1.out] at ho;have n0_:=Aside0.mk (hb);have n1_:=Aside0.mk (ho);clear HB;clear HO3;have HB:=n0_;have HO4:=n1_;clear n0_ n1_;clear ho hb hg hat))
      go_roundg (m - (k + 1))
      case measure=> omega
      case rel=> exact ⟨y1,k + 1,by omega,by omega,by go_num,⟨by rw [Ny1.out,HX.out,HB0.out,HV.out];rfl⟩,HO4,HB⟩
    · have hk25:k=m:=by omega
      subst hk25
      have hd:decide ((k:Int) < (k:Int))=false:=decide_eq_false (by omega)
      have hcv:=own_string (P:=Try.prog) Try.underlying25 Try.underlying5 Try.underlying9 (Kd.own_of_R HO3.out)
      go_wp2
      go_ret
      exact ⟨by rw [← HX.out];rfl,(below_then BW.out BW.out.size HB.out)⟩
end Go.Proofs.Ytlogocmojnhpbaa.Print
end
