/- The contract of the reference's permutation: what it answers. -/
import Derived.Test.YtlogocmojnhpbaaGivePermS
import Derived.Laws.CopyOwn
namespace Go.Proofs.Ytlogocmojnhpbaa.Print
open Go.RowKit Go.Proofs.YtlogocmojnhpbaaW.PrintWords
set_option linter.unusedVariables false
set_option linter.unusedSimpArgs false
def zShiftsU : Array Value := (nums .u64 kShifts).toArray
def n25u : Array Value := (nums .u64 (List.replicate 25 0)).toArray
set_option maxHeartbeats 8000000 in
set_option maxRecDepth 100000 in
theorem roundsS.calls (w : World) : Calls Try.prog 138 #[] w fun e w' => e = .returned (.agg zConsts) ∧ w' = w.alloc (.cells zConsts 145) := by
  go_enter Try.func138, Try.ntmps138
  go_upto_region 0 with fail
  apply wp_region_lit
  refine Go.Great.wpList_allocTo rfl (some 0) rfl (.pointer (some ⟨w.heap.size, 0, none⟩)) (.cells n24 145) (by kernel_rfl) ?_
  refine wpList_frame (a' := ⟨List.toArray (Value.pointer (some ⟨w.heap.size, 0, none⟩) :: undef :: []), []⟩) (by kernel_rfl) ?_
  apply wpList_nil
  go_upto_region 1 with fail
  apply wp_region_lit
  refine wpList_buildTo rfl 145 _ rfl (some 1) rfl zConsts (by kernel_rfl) ?_
  refine wpList_store_rowTo rfl 145 _ _ rfl rfl w.heap.size zConsts (by kernel_rfl) (by kernel_rfl) 145 n24 (blk_new _ _) (by kernel_rfl) rfl (by kernel_rfl) ?_
  rw [setRow_new]
  refine wpList_frame (a' := ⟨List.toArray (Value.pointer (some ⟨w.heap.size, 0, none⟩) :: Value.agg zConsts :: []), []⟩) (by kernel_rfl) ?_
  apply wpList_nil
  have A := blk_new w (.cells zConsts 145)
  generalize hW : w.alloc (.cells zConsts 145) = W1 at A ⊢
  go_wp2
  refine bodyPost_ret (results_cell_row rfl _ _ w.heap.size 145 zConsts (0, 0) _ rfl A Try.underlying145 rfl (by kernel_rfl)) rfl ?_
  exact ⟨rfl, hW.symm⟩
set_option maxHeartbeats 8000000 in
set_option maxRecDepth 100000 in
theorem shiftsS.calls (w : World) : Calls Try.prog 139 #[] w fun e w' => e = .returned (.agg zShiftsU) ∧ w' = w.alloc (.cells zShiftsU 147) := by
  go_enter Try.func139, Try.ntmps139
  go_upto_region 0 with fail
  apply wp_region_lit
  refine Go.Great.wpList_allocTo rfl (some 0) rfl (.pointer (some ⟨w.heap.size, 0, none⟩)) (.cells n25u 147) (by kernel_rfl) ?_
  refine wpList_frame (a' := ⟨List.toArray (Value.pointer (some ⟨w.heap.size, 0, none⟩) :: undef :: []), []⟩) (by kernel_rfl) ?_
  apply wpList_nil
  go_upto_region 1 with fail
  apply wp_region_lit
  refine wpList_buildTo rfl 147 _ rfl (some 1) rfl zShiftsU (by kernel_rfl) ?_
  refine wpList_store_rowTo rfl 147 _ _ rfl rfl w.heap.size zShiftsU (by kernel_rfl) (by kernel_rfl) 147 n25u (blk_new _ _) (by kernel_rfl) rfl (by kernel_rfl) ?_
  rw [setRow_new]
  refine wpList_frame (a' := ⟨List.toArray (Value.pointer (some ⟨w.heap.size, 0, none⟩) :: Value.agg zShiftsU :: []), []⟩) (by kernel_rfl) ?_
  apply wpList_nil
  have A := blk_new w (.cells zShiftsU 147)
  generalize hW : w.alloc (.cells zShiftsU 147) = W1 at A ⊢
  go_wp2
  refine bodyPost_ret (results_cell_row rfl _ _ w.heap.size 147 zShiftsU (0, 0) _ rfl A Try.underlying147 rfl (by kernel_rfl)) rfl ?_
  exact ⟨rfl, hW.symm⟩
set_option maxHeartbeats 8000000 in
set_option maxRecDepth 100000 in
theorem permS.calls (a : List Int) (w : World) (ha : a.length = 25) :
    Calls Try.prog 81 #[.agg (nums .u64 a).toArray] w fun e w' => e = .returned (.agg (nums .u64 (sPerm a 24)).toArray) ∧ Below w.heap.size w w' := by
  obtain ⟨V, hV⟩ : ∃ V, V = (nums .u64 a).toArray := ⟨_, rfl⟩
  have hVl : V.size = 25 := by rw [hV]; simp [nums, ha]
  rw [← hV]
  go_enter Try.func81, Try.ntmps81
  go_upto_region 0 with fail
  apply wp_region_lit
  refine Go.Great.wpList_allocTo rfl (some 1) rfl (.pointer (some ⟨w.heap.size, 0, none⟩)) (.cells V 93) (by kernel_rfl) ?_
  refine Go.Great.wpList_allocTo rfl (some 2) rfl (.pointer (some ⟨(w.alloc (.cells V 93)).heap.size, 0, none⟩)) (.cells n25u 93) (by kernel_rfl) ?_
  refine wpList_frame (a' := ⟨List.toArray (Value.agg V :: Value.pointer (some ⟨w.heap.size, 0, none⟩) :: Value.pointer (some ⟨(w.alloc (Obj.cells V 93)).heap.size, 0, none⟩) :: undef :: undef :: undef :: undef :: undef :: undef :: undef :: undef :: undef :: undef :: undef :: undef :: undef :: undef :: undef :: undef :: undef :: undef :: undef :: undef :: undef :: undef :: undef :: undef :: undef :: undef :: undef :: undef :: undef :: undef :: undef :: undef :: undef :: undef :: undef :: undef :: undef :: undef :: undef :: undef :: undef :: undef :: undef :: undef :: undef :: undef :: undef :: undef :: undef :: undef :: undef :: undef :: undef :: undef :: undef :: undef :: undef :: undef :: undef :: undef :: undef :: undef :: undef :: undef :: undef :: undef :: undef :: undef :: undef :: undef :: undef :: undef :: undef :: undef :: undef :: undef :: undef :: undef :: undef :: undef :: undef :: undef :: undef :: undef :: undef :: undef :: undef :: undef :: undef :: undef :: undef :: undef :: undef :: undef :: undef :: undef :: undef :: undef :: undef :: undef :: undef :: undef :: undef :: undef :: undef :: undef :: undef :: undef :: undef :: undef :: undef :: undef :: undef :: undef :: undef :: undef :: undef :: undef :: undef :: undef :: undef :: undef :: undef :: undef :: undef :: undef :: undef :: undef :: undef :: undef :: undef :: undef :: undef :: undef :: undef :: undef :: undef :: undef :: undef :: undef :: undef :: undef :: undef :: undef :: undef :: undef :: []), []⟩) (by kernel_rfl) ?_
  apply wpList_nil
  have AG : Arr ((w.alloc (.cells V 93)).alloc (.cells n25u 93)) w.heap.size 93 .u64 a := by
    unfold Arr
    rw [← hV]
    exact blk_alloc (blk_new _ _) _
  have AO : Arr ((w.alloc (.cells V 93)).alloc (.cells n25u 93)) (w.alloc (.cells V 93)).heap.size 93 .u64 (List.replicate 25 0) := blk_new _ _
  have MV := ((Moved.refl w (fun i => w.heap.size ≤ i)).alloc (.cells V 93)).alloc (.cells n25u 93)
  have g1 : w.heap.size < (w.alloc (.cells V 93)).heap.size := (blk_lt (blk_new w (.cells V 93)))
  generalize ((w.alloc (.cells V 93)).alloc (.cells n25u 93)) = W1 at AG AO MV ⊢
  generalize (w.alloc (.cells V 93)).heap.size = go at AO g1 ⊢
  generalize hga : w.heap.size = ga at AG MV g1 ⊢
  have g2 := AO.lt
  go_upto_region 1 with fail
  apply wp_region_lit
  refine wpList_callTo rfl (some 14) rfl 138 #[] (by kernel_rfl) (.agg zConsts) (W1.alloc (.cells zConsts 145)) (roundsS.calls W1) ?_
  generalize hW2 : W1.alloc (.cells zConsts 145) = W2
  have AG2 : Arr W2 ga 93 .u64 a := hW2 ▸ AG.alloc _
  have AO2 : Arr W2 go 93 .u64 (List.replicate 25 0) := hW2 ▸ AO.alloc _
  have MV2 : Moved w W2 (fun i => ga ≤ i) := hW2 ▸ MV.alloc _
  clear hW2 AG AO MV g2
  refine Go.Great.wpList_allocTo rfl (some 3) rfl (.pointer (some ⟨W2.heap.size, 0, none⟩)) (.cells n24 145) (by kernel_rfl) ?_
  refine wpList_store_rowTo rfl 145 _ _ rfl rfl W2.heap.size zConsts (by kernel_rfl) (by kernel_rfl) 145 n24 (blk_new _ _) (by kernel_rfl) rfl (by kernel_rfl) ?_
  rw [setRow_new]
  have AR3 : Arr (W2.alloc (.cells zConsts 145)) W2.heap.size 145 .u64 kConsts := blk_new _ _
  have AG3 := AG2.alloc (.cells zConsts 145)
  have AO3 := AO2.alloc (.cells zConsts 145)
  have MV3 := MV2.alloc (.cells zConsts 145)
  have l1 := AG2.lt
  have l2 := AO2.lt
  clear AG2 AO2 MV2
  generalize W2.alloc (.cells zConsts 145) = W3 at AR3 AG3 AO3 MV3 ⊢
  generalize W2.heap.size = gr at AR3 l1 l2 ⊢
  refine wpList_frame (a' := ⟨List.toArray (Value.agg V :: Value.pointer (some ⟨ga, 0, none⟩) :: Value.pointer (some ⟨go, 0, none⟩) :: Value.pointer (some ⟨gr, 0, none⟩) :: undef :: undef :: undef :: undef :: undef :: undef :: undef :: undef :: undef :: undef :: Value.agg zConsts :: undef :: undef :: undef :: undef :: undef :: undef :: undef :: undef :: undef :: undef :: undef :: undef :: undef :: undef :: undef :: undef :: undef :: undef :: undef :: undef :: undef :: undef :: undef :: undef :: undef :: undef :: undef :: undef :: undef :: undef :: undef :: undef :: undef :: undef :: undef :: undef :: undef :: undef :: undef :: undef :: undef :: undef :: undef :: undef :: undef :: undef :: undef :: undef :: undef :: undef :: undef :: undef :: undef :: undef :: undef :: undef :: undef :: undef :: undef :: undef :: undef :: undef :: undef :: undef :: undef :: undef :: undef :: undef :: undef :: undef :: undef :: undef :: undef :: undef :: undef :: undef :: undef :: undef :: undef :: undef :: undef :: undef :: undef :: undef :: undef :: undef :: undef :: undef :: undef :: undef :: undef :: undef :: undef :: undef :: undef :: undef :: undef :: undef :: undef :: undef :: undef :: undef :: undef :: undef :: undef :: undef :: undef :: undef :: undef :: undef :: undef :: undef :: undef :: undef :: undef :: undef :: undef :: undef :: undef :: undef :: undef :: undef :: undef :: undef :: undef :: undef :: undef :: undef :: undef :: undef :: undef :: undef :: undef :: undef :: []), []⟩) (by kernel_rfl) ?_
  apply wpList_nil
  go_upto_region 2 with fail
  apply wp_region_lit
  refine wpList_callTo rfl (some 15) rfl 139 #[] (by kernel_rfl) (.agg zShiftsU) (W3.alloc (.cells zShiftsU 147)) (shiftsS.calls W3) ?_
  have AR4 := AR3.alloc (.cells zShiftsU 147)
  have AG4 := AG3.alloc (.cells zShiftsU 147)
  have AO4 := AO3.alloc (.cells zShiftsU 147)
  have MV4 := MV3.alloc (.cells zShiftsU 147)
  clear AR3 AG3 AO3 MV3
  generalize W3.alloc (.cells zShiftsU 147) = W4 at AR4 AG4 AO4 MV4 ⊢
  refine Go.Great.wpList_allocTo rfl (some 4) rfl (.pointer (some ⟨W4.heap.size, 0, none⟩)) (.cells n25u 147) (by kernel_rfl) ?_
  refine wpList_store_rowTo rfl 147 _ _ rfl rfl W4.heap.size zShiftsU (by kernel_rfl) (by kernel_rfl) 147 n25u (blk_new _ _) (by kernel_rfl) rfl (by kernel_rfl) ?_
  rw [setRow_new]
  have AH5 : Arr (W4.alloc (.cells zShiftsU 147)) W4.heap.size 147 .u64 kShifts := blk_new _ _
  have AR5 := AR4.alloc (.cells zShiftsU 147)
  have AG5 := AG4.alloc (.cells zShiftsU 147)
  have AO5 := AO4.alloc (.cells zShiftsU 147)
  have MV5 := MV4.alloc (.cells zShiftsU 147)
  have l3 := AG4.lt
  clear AR4 AG4 AO4 MV4
  generalize W4.alloc (.cells zShiftsU 147) = W5 at AH5 AR5 AG5 AO5 MV5 ⊢
  generalize W4.heap.size = gh at AH5 l3 ⊢
  refine wpList_frame (a' := ⟨List.toArray (Value.agg V :: Value.pointer (some ⟨ga, 0, none⟩) :: Value.pointer (some ⟨go, 0, none⟩) :: Value.pointer (some ⟨gr, 0, none⟩) :: Value.pointer (some ⟨gh, 0, none⟩) :: undef :: undef :: undef :: undef :: undef :: undef :: undef :: undef :: undef :: Value.agg zConsts :: Value.agg zShiftsU :: undef :: undef :: undef :: undef :: undef :: undef :: undef :: undef :: undef :: undef :: undef :: undef :: undef :: undef :: undef :: undef :: undef :: undef :: undef :: undef :: undef :: undef :: undef :: undef :: undef :: undef :: undef :: undef :: undef :: undef :: undef :: undef :: undef :: undef :: undef :: undef :: undef :: undef :: undef :: undef :: undef :: undef :: undef :: undef :: undef :: undef :: undef :: undef :: undef :: undef :: undef :: undef :: undef :: undef :: undef :: undef :: undef :: undef :: undef :: undef :: undef :: undef :: undef :: undef :: undef :: undef :: undef :: undef :: undef :: undef :: undef :: undef :: undef :: undef :: undef :: undef :: undef :: undef :: undef :: undef :: undef :: undef :: undef :: undef :: undef :: undef :: undef :: undef :: undef :: undef :: undef :: undef :: undef :: undef :: undef :: undef :: undef :: undef :: undef :: undef :: undef :: undef :: undef :: undef :: undef :: undef :: undef :: undef :: undef :: undef :: undef :: undef :: undef :: undef :: undef :: undef :: undef :: undef :: undef :: undef :: undef :: undef :: undef :: undef :: undef :: undef :: undef :: undef :: undef :: undef :: undef :: undef :: undef :: []), []⟩) (by kernel_rfl) ?_
  apply wpList_nil
  have n1 : gh ≠ ga := by omega
  have n2 : gr ≠ ga := by omega
  have n3 : go ≠ ga := by omega
  have g1' := g1
  have AH5 := Aside0.mk AH5
  have AR5 := Aside0.mk AR5
  have AG5 := Aside0.mk AG5
  have AO5 := Aside0.mk AO5
  have MV5 := Aside0.mk MV5
  have HG := Aside0.mk hga
  clear l1 l2 l3 g1 hga hV
  go_wp2
  refine permS.rounds ga gr gh a W5 ha n1 n2 AG5.out AR5.out AH5.out ?_
  intro a2 W6 S1 m1 hz
  obtain ⟨v5, hz⟩ := hz
  obtain ⟨v6, hz⟩ := hz
  obtain ⟨v7, hz⟩ := hz
  obtain ⟨v8, hz⟩ := hz
  obtain ⟨v9, hz⟩ := hz
  obtain ⟨v10, hz⟩ := hz
  obtain ⟨v11, hz⟩ := hz
  obtain ⟨v12, hz⟩ := hz
  obtain ⟨v13, hz⟩ := hz
  obtain ⟨v16, hz⟩ := hz
  obtain ⟨v17, hz⟩ := hz
  obtain ⟨v18, hz⟩ := hz
  obtain ⟨v19, hz⟩ := hz
  obtain ⟨v20, hz⟩ := hz
  obtain ⟨v21, hz⟩ := hz
  obtain ⟨v22, hz⟩ := hz
  obtain ⟨v23, hz⟩ := hz
  obtain ⟨v24, hz⟩ := hz
  obtain ⟨v25, hz⟩ := hz
  obtain ⟨v26, hz⟩ := hz
  obtain ⟨v27, hz⟩ := hz
  obtain ⟨v28, hz⟩ := hz
  obtain ⟨v29, hz⟩ := hz
  obtain ⟨v30, hz⟩ := hz
  obtain ⟨v31, hz⟩ := hz
  obtain ⟨v32, hz⟩ := hz
  obtain ⟨v33, hz⟩ := hz
  obtain ⟨v34, hz⟩ := hz
  obtain ⟨v35, hz⟩ := hz
  obtain ⟨v36, hz⟩ := hz
  obtain ⟨v37, hz⟩ := hz
  obtain ⟨v38, hz⟩ := hz
  obtain ⟨v39, hz⟩ := hz
  obtain ⟨v40, hz⟩ := hz
  obtain ⟨v41, hz⟩ := hz
  obtain ⟨v42, hz⟩ := hz
  obtain ⟨v43, hz⟩ := hz
  obtain ⟨v44, hz⟩ := hz
  obtain ⟨v45, hz⟩ := hz
  obtain ⟨v46, hz⟩ := hz
  obtain ⟨v47, hz⟩ := hz
  obtain ⟨v48, hz⟩ := hz
  obtain ⟨v49, hz⟩ := hz
  obtain ⟨v50, hz⟩ := hz
  obtain ⟨v51, hz⟩ := hz
  obtain ⟨v52, hz⟩ := hz
  obtain ⟨v53, hz⟩ := hz
  obtain ⟨v54, hz⟩ := hz
  obtain ⟨v55, hz⟩ := hz
  obtain ⟨v56, hz⟩ := hz
  obtain ⟨v57, hz⟩ := hz
  obtain ⟨v58, hz⟩ := hz
  obtain ⟨v59, hz⟩ := hz
  obtain ⟨v60, hz⟩ := hz
  obtain ⟨v61, hz⟩ := hz
  obtain ⟨v62, hz⟩ := hz
  obtain ⟨v63, hz⟩ := hz
  obtain ⟨v64, hz⟩ := hz
  obtain ⟨v65, hz⟩ := hz
  obtain ⟨v66, hz⟩ := hz
  obtain ⟨v67, hz⟩ := hz
  obtain ⟨v68, hz⟩ := hz
  obtain ⟨v69, hz⟩ := hz
  obtain ⟨v70, hz⟩ := hz
  obtain ⟨v71, hz⟩ := hz
  obtain ⟨v72, hz⟩ := hz
  obtain ⟨v73, hz⟩ := hz
  obtain ⟨v74, hz⟩ := hz
  obtain ⟨v75, hz⟩ := hz
  obtain ⟨v76, hz⟩ := hz
  obtain ⟨v77, hz⟩ := hz
  obtain ⟨v78, hz⟩ := hz
  obtain ⟨v79, hz⟩ := hz
  obtain ⟨v80, hz⟩ := hz
  obtain ⟨v81, hz⟩ := hz
  obtain ⟨v82, hz⟩ := hz
  obtain ⟨v83, hz⟩ := hz
  obtain ⟨v84, hz⟩ := hz
  obtain ⟨v85, hz⟩ := hz
  obtain ⟨v86, hz⟩ := hz
  obtain ⟨v87, hz⟩ := hz
  obtain ⟨v88, hz⟩ := hz
  obtain ⟨v89, hz⟩ := hz
  obtain ⟨v90, hz⟩ := hz
  obtain ⟨v91, hz⟩ := hz
  obtain ⟨v92, hz⟩ := hz
  obtain ⟨v93, hz⟩ := hz
  obtain ⟨v94, hz⟩ := hz
  obtain ⟨v95, hz⟩ := hz
  obtain ⟨v96, hz⟩ := hz
  obtain ⟨v97, hz⟩ := hz
  obtain ⟨v98, hz⟩ := hz
  obtain ⟨v99, hz⟩ := hz
  obtain ⟨v100, hz⟩ := hz
  obtain ⟨v101, hz⟩ := hz
  obtain ⟨v102, hz⟩ := hz
  obtain ⟨v103, hz⟩ := hz
  obtain ⟨v104, hz⟩ := hz
  obtain ⟨v105, hz⟩ := hz
  obtain ⟨v106, hz⟩ := hz
  obtain ⟨v107, hz⟩ := hz
  obtain ⟨v108, hz⟩ := hz
  obtain ⟨v109, hz⟩ := hz
  obtain ⟨v110, hz⟩ := hz
  obtain ⟨v111, hz⟩ := hz
  obtain ⟨v112, hz⟩ := hz
  obtain ⟨v113, hz⟩ := hz
  obtain ⟨v114, hz⟩ := hz
  obtain ⟨v115, hz⟩ := hz
  obtain ⟨v116, hz⟩ := hz
  obtain ⟨v117, hz⟩ := hz
  obtain ⟨v118, hz⟩ := hz
  obtain ⟨v119, hz⟩ := hz
  obtain ⟨v120, hz⟩ := hz
  obtain ⟨v121, hz⟩ := hz
  obtain ⟨v122, hz⟩ := hz
  obtain ⟨v123, hz⟩ := hz
  obtain ⟨v124, hz⟩ := hz
  obtain ⟨v125, hz⟩ := hz
  obtain ⟨v126, hz⟩ := hz
  obtain ⟨v127, hz⟩ := hz
  obtain ⟨v128, hz⟩ := hz
  obtain ⟨v129, hz⟩ := hz
  obtain ⟨v130, hz⟩ := hz
  obtain ⟨v131, hz⟩ := hz
  obtain ⟨v132, hz⟩ := hz
  obtain ⟨v133, hz⟩ := hz
  obtain ⟨v134, hz⟩ := hz
  obtain ⟨v135, hz⟩ := hz
  obtain ⟨v136, hz⟩ := hz
  obtain ⟨v137, hz⟩ := hz
  obtain ⟨v138, hz⟩ := hz
  obtain ⟨v139, hz⟩ := hz
  obtain ⟨v140, hz⟩ := hz
  obtain ⟨v141, hz⟩ := hz
  obtain ⟨v142, hz⟩ := hz
  obtain ⟨v143, hz⟩ := hz
  obtain ⟨v144, hz⟩ := hz
  obtain ⟨v145, hz⟩ := hz
  obtain ⟨v146, hz⟩ := hz
  obtain ⟨v147, hz⟩ := hz
  subst hz
  have AO6 := AO5.out.moved m1 (fun e => n3 e)
  have MV6 := MV5.out.trans_new m1 (fun i e => .inl (Nat.le_of_eq e.symm))
  go_upto_region 31 with fail
  apply wp_region_lit
  have hsz : (nums .u64 (sPerm a 24)).toArray.size = 25 := by simp [nums, sPerm_length, ha]
  refine wpList_load_row rfl 93 _ rfl ga rfl 93 _ (0, 0) _ S1 Try.underlying93 rfl (by rw [hsz]; kernel_rfl) ?_
  have hone : (nums .u64 (sPerm a 24)).toArray.all (·.oneCell') = true := by simp [nums, Value.oneCell']
  refine wpList_store_rowTo rfl 93 _ _ rfl rfl go (nums .u64 (sPerm a 24)).toArray (by kernel_rfl) (by kernel_rfl) 93 _ AO6 (by rw [hsz]; kernel_rfl) (by rw [hsz]; rfl) hone ?_
  have AF := setRow_heap W6 go _ (nums .u64 (sPerm a 24)).toArray 93 (0, 0) AO6
  have hgo : w.heap.size ≤ go := by have := HG.out; omega
  have BF : Below w.heap.size w (W6.setRow go (nums .u64 (sPerm a 24)).toArray) := below_setRow (MV6.below (fun i hi h => absurd h (by have := HG.out; omega))) hgo _
  generalize W6.setRow go (nums .u64 (sPerm a 24)).toArray = W7 at AF BF ⊢
  refine wpList_frame (a' := ⟨List.toArray (Value.agg V :: Value.pointer (some ⟨ga, 0, none⟩) :: Value.pointer (some ⟨go, 0, none⟩) :: Value.pointer (some ⟨gr, 0, none⟩) :: Value.pointer (some ⟨gh, 0, none⟩) :: v5 :: v6 :: v7 :: v8 :: v9 :: v10 :: v11 :: v12 :: v13 :: Value.agg zConsts :: Value.agg zShiftsU :: v16 :: v17 :: v18 :: v19 :: v20 :: v21 :: v22 :: v23 :: v24 :: v25 :: v26 :: v27 :: v28 :: v29 :: v30 :: v31 :: v32 :: v33 :: v34 :: v35 :: v36 :: v37 :: v38 :: v39 :: v40 :: v41 :: v42 :: v43 :: v44 :: v45 :: v46 :: v47 :: v48 :: v49 :: v50 :: v51 :: v52 :: v53 :: v54 :: v55 :: v56 :: v57 :: v58 :: v59 :: v60 :: v61 :: v62 :: v63 :: v64 :: v65 :: v66 :: v67 :: v68 :: v69 :: v70 :: v71 :: v72 :: v73 :: v74 :: v75 :: v76 :: v77 :: v78 :: v79 :: v80 :: v81 :: v82 :: v83 :: v84 :: v85 :: v86 :: v87 :: v88 :: v89 :: v90 :: v91 :: v92 :: v93 :: v94 :: v95 :: v96 :: v97 :: v98 :: v99 :: v100 :: v101 :: v102 :: v103 :: v104 :: v105 :: v106 :: v107 :: v108 :: v109 :: v110 :: v111 :: v112 :: v113 :: v114 :: v115 :: v116 :: v117 :: v118 :: v119 :: v120 :: v121 :: v122 :: v123 :: v124 :: v125 :: v126 :: v127 :: v128 :: v129 :: v130 :: v131 :: v132 :: v133 :: v134 :: v135 :: v136 :: v137 :: v138 :: v139 :: v140 :: v141 :: v142 :: v143 :: v144 :: v145 :: v146 :: v147 :: Value.agg (nums .u64 (sPerm a 24)).toArray :: []), []⟩) (by kernel_rfl) ?_
  apply wpList_nil
  go_wp2
  refine bodyPost_ret (results_cell_row rfl _ _ go 93 _ (0, 0) _ rfl AF Try.underlying93 rfl (by rw [hsz]; kernel_rfl)) rfl ?_
  exact ⟨rfl, BF⟩
end Go.Proofs.Ytlogocmojnhpbaa.Print
