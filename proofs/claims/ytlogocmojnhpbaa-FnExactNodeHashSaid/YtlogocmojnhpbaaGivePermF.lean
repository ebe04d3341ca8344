/- The contract of the program's permutation: what it leaves in the state, as a plain function of lists. -/
import Derived.Test.YtlogocmojnhpbaaGivePermR
import Derived.Deep.WholeRow
namespace Go.Proofs.Ytlogocmojnhpbaa.Print
open Go.RowKit Go.Proofs.YtlogocmojnhpbaaW.PrintWords
set_option linter.unusedVariables false
set_option linter.unusedSimpArgs false
def zShifts : Array Value := (nums .i64 kShifts).toArray
def zConsts : Array Value := (nums .u64 kConsts).toArray
def n25 : Array Value := (nums .i64 (List.replicate 25 0)).toArray
def n24 : Array Value := (nums .u64 (List.replicate 24 0)).toArray
theorem size3 (w : World) : (sizeOf 3).run Try.prog w = .ok 1 w := by
  simp [sizeOf, go_sem]
  rfl
theorem setRow_new (w : World) (c c' : Array Value) (t : TypeId) : (w.alloc (.cells c t)).setRow w.heap.size c' = w.alloc (.cells c' t) := World.setRow_alloc_new w c c' t
set_option maxHeartbeats 8000000 in
set_option maxRecDepth 100000 in
theorem permI.calls (g : Nat) (s : List Int) (w : World) (hs : s.length = 25) (hb : Arr w g 96 .u64 s) :
    Calls Try.prog 85 #[.pointer (some ⟨g, 0, none⟩)] w fun e w' => e = .returned (.tuple #[]) ∧ Arr w' g 96 .u64 (kPerm s 24) ∧ Moved w w' (fun i => i = g) := by
  have HB := Aside0.mk hb
  have hlt := hb.lt
  clear hb
  go_enter Try.func85, Try.ntmps85
  go_upto_region 0 with fail
  apply wp_region_lit
  refine wpList_buildTo rfl 152 _ rfl (some 18) rfl zShifts (by kernel_rfl) ?_
  refine Go.Great.wpList_allocTo rfl (some 2) rfl (.pointer (some ⟨w.heap.size, 0, none⟩)) (.cells n25 152) (by kernel_rfl) ?_
  refine wpList_store_rowTo rfl 152 _ _ rfl rfl w.heap.size zShifts (by kernel_rfl) (by kernel_rfl) 152 n25 (blk_new _ _) (by kernel_rfl) rfl (by kernel_rfl) ?_
  rw [setRow_new]
  refine wpList_frame (a' := ⟨List.toArray (Value.pointer (some ⟨g, 0, none⟩) :: undef :: Value.pointer (some ⟨w.heap.size, 0, none⟩) :: undef :: undef :: undef :: undef :: undef :: undef :: undef :: undef :: undef :: undef :: undef :: undef :: undef :: undef :: undef :: Value.agg zShifts :: undef :: undef :: undef :: undef :: undef :: undef :: undef :: undef :: undef :: undef :: undef :: undef :: undef :: undef :: undef :: undef :: undef :: undef :: undef :: undef :: undef :: undef :: undef :: undef :: undef :: undef :: undef :: undef :: undef :: undef :: undef :: undef :: undef :: undef :: undef :: undef :: undef :: undef :: undef :: undef :: undef :: undef :: undef :: undef :: undef :: undef :: undef :: undef :: undef :: undef :: undef :: undef :: undef :: undef :: undef :: undef :: undef :: undef :: undef :: undef :: undef :: undef :: undef :: undef :: undef :: undef :: undef :: undef :: undef :: undef :: undef :: undef :: undef :: undef :: undef :: undef :: undef :: undef :: undef :: undef :: undef :: undef :: undef :: undef :: undef :: undef :: undef :: undef :: undef :: undef :: undef :: undef :: undef :: undef :: undef :: undef :: undef :: undef :: undef :: undef :: undef :: undef :: undef :: undef :: undef :: []), []⟩) (by kernel_rfl) ?_
  apply wpList_nil
  go_upto_region 1 with fail
  apply wp_region_lit
  refine wpList_buildTo rfl 145 _ rfl (some 19) rfl zConsts (by kernel_rfl) ?_
  refine Go.Great.wpList_allocTo rfl (some 3) rfl (.pointer (some ⟨(w.alloc (.cells zShifts 152)).heap.size, 0, none⟩)) (.cells n24 145) (by kernel_rfl) ?_
  refine wpList_store_rowTo rfl 145 _ _ rfl rfl (w.alloc (.cells zShifts 152)).heap.size zConsts (by kernel_rfl) (by kernel_rfl) 145 n24 (blk_new _ _) (by kernel_rfl) rfl (by kernel_rfl) ?_
  rw [setRow_new]
  refine wpList_frame (a' := ⟨List.toArray (Value.pointer (some ⟨g, 0, none⟩) :: undef :: Value.pointer (some ⟨w.heap.size, 0, none⟩) :: Value.pointer (some ⟨(w.alloc (.cells zShifts 152)).heap.size, 0, none⟩) :: undef :: undef :: undef :: undef :: undef :: undef :: undef :: undef :: undef :: undef :: undef :: undef :: undef :: undef :: Value.agg zShifts :: Value.agg zConsts :: undef :: undef :: undef :: undef :: undef :: undef :: undef :: undef :: undef :: undef :: undef :: undef :: undef :: undef :: undef :: undef :: undef :: undef :: undef :: undef :: undef :: undef :: undef :: undef :: undef :: undef :: undef :: undef :: undef :: undef :: undef :: undef :: undef :: undef :: undef :: undef :: undef :: undef :: undef :: undef :: undef :: undef :: undef :: undef :: undef :: undef :: undef :: undef :: undef :: undef :: undef :: undef :: undef :: undef :: undef :: undef :: undef :: undef :: undef :: undef :: undef :: undef :: undef :: undef :: undef :: undef :: undef :: undef :: undef :: undef :: undef :: undef :: undef :: undef :: undef :: undef :: undef :: undef :: undef :: undef :: undef :: undef :: undef :: undef :: undef :: undef :: undef :: undef :: undef :: undef :: undef :: undef :: undef :: undef :: undef :: undef :: undef :: undef :: undef :: undef :: undef :: undef :: undef :: undef :: []), []⟩) (by kernel_rfl) ?_
  apply wpList_nil
  have A1 : Arr ((w.alloc (.cells zShifts 152)).alloc (.cells zConsts 145)) w.heap.size 152 .i64 kShifts := blk_alloc (blk_new _ _) _
  have A2 : Arr ((w.alloc (.cells zShifts 152)).alloc (.cells zConsts 145)) (w.alloc (.cells zShifts 152)).heap.size 145 .u64 kConsts := blk_new _ _
  have AG : Arr ((w.alloc (.cells zShifts 152)).alloc (.cells zConsts 145)) g 96 .u64 s := (HB.out.alloc _).alloc _
  have MV : Moved w ((w.alloc (.cells zShifts 152)).alloc (.cells zConsts 145)) (fun i => i = g) := ((Moved.refl _ _).alloc _).alloc _
  generalize (w.alloc (.cells zShifts 152)).alloc (.cells zConsts 145) = W1 at A1 A2 AG MV ⊢
  generalize (w.alloc (.cells zShifts 152)).heap.size = gc at A2 ⊢
  have hne : w.heap.size ≠ g := by omega
  generalize w.heap.size = gh at A1 hne ⊢
  clear hlt HB
  go_upto_region 2 with fail
  apply wp_region_lit
  refine wpList_load_row rfl 145 _ rfl gc rfl 145 _ (0, 0) _ A2 Try.underlying145 rfl (by kernel_rfl) ?_
  have hC := fun (j : Nat) (w : World) (hj : j < 24) => idx_arr Try.underlying145 size92 agg92 .u64 kConsts rfl j w hj
  generalize Value.agg (nums .u64 kConsts).toArray = C at hC ⊢
  refine wpList_frame (a' := ⟨List.toArray (Value.pointer (some ⟨g, 0, none⟩) :: undef :: Value.pointer (some ⟨gh, 0, none⟩) :: Value.pointer (some ⟨gc, 0, none⟩) :: undef :: undef :: undef :: undef :: undef :: undef :: undef :: undef :: undef :: undef :: undef :: undef :: undef :: undef :: Value.agg zShifts :: Value.agg zConsts :: C :: undef :: undef :: undef :: undef :: undef :: undef :: undef :: undef :: undef :: undef :: undef :: undef :: undef :: undef :: undef :: undef :: undef :: undef :: undef :: undef :: undef :: undef :: undef :: undef :: undef :: undef :: undef :: undef :: undef :: undef :: undef :: undef :: undef :: undef :: undef :: undef :: undef :: undef :: undef :: undef :: undef :: undef :: undef :: undef :: undef :: undef :: undef :: undef :: undef :: undef :: undef :: undef :: undef :: undef :: undef :: undef :: undef :: undef :: undef :: undef :: undef :: undef :: undef :: undef :: undef :: undef :: undef :: undef :: undef :: undef :: undef :: undef :: undef :: undef :: undef :: undef :: undef :: undef :: undef :: undef :: undef :: undef :: undef :: undef :: undef :: undef :: undef :: undef :: undef :: undef :: undef :: undef :: undef :: undef :: undef :: undef :: undef :: undef :: undef :: undef :: undef :: undef :: undef :: []), []⟩) (by kernel_rfl) ?_
  have MV := Aside0.mk MV
  have hC := Aside0.mk hC
  have AG := Aside0.mk AG
  have A1 := Aside0.mk A1
  clear A2
  go_wp2
  refine permI.rounds g gh s C W1 hs hne hC.out AG.out A1.out ?_
  intro a2 W2 S1 m1 hz
  obtain ⟨v5, hz⟩ := hz
  obtain ⟨v6, hz⟩ := hz
  obtain ⟨v7, hz⟩ := hz
  obtain ⟨v8, hz⟩ := hz
  obtain ⟨v9, hz⟩ := hz
  obtain ⟨v10, hz⟩ := hz
  obtain ⟨v11, hz⟩ := hz
  obtain ⟨v12, hz⟩ := hz
  obtain ⟨v13, hz⟩ := hz
  obtain ⟨v14, hz⟩ := hz
  obtain ⟨v15, hz⟩ := hz
  obtain ⟨v16, hz⟩ := hz
  obtain ⟨v17, hz⟩ := hz
  obtain ⟨v21, hz⟩ := hz
  obtain ⟨v22, hz⟩ := hz
  obtain ⟨v23, hz⟩ := hz
  obtain ⟨v24, hz⟩ := hz
  obtain ⟨v25, hz⟩ := hz
  obtain ⟨v26, hz⟩ := hz
  obtain ⟨v27, hz⟩ := hz
  obtain ⟨v28, hz⟩ := hz
  obtain ⟨v29, hz⟩ := hz
  obtain ⟨v30, hz⟩ := hz
  obtain ⟨v31, hz⟩ := hz
  obtain ⟨v32, hz⟩ := hz
  obtain ⟨v33, hz⟩ := hz
  obtain ⟨v34, hz⟩ := hz
  obtain ⟨v35, hz⟩ := hz
  obtain ⟨v36, hz⟩ := hz
  obtain ⟨v37, hz⟩ := hz
  obtain ⟨v38, hz⟩ := hz
  obtain ⟨v39, hz⟩ := hz
  obtain ⟨v40, hz⟩ := hz
  obtain ⟨v41, hz⟩ := hz
  obtain ⟨v42, hz⟩ := hz
  obtain ⟨v43, hz⟩ := hz
  obtain ⟨v44, hz⟩ := hz
  obtain ⟨v45, hz⟩ := hz
  obtain ⟨v46, hz⟩ := hz
  obtain ⟨v47, hz⟩ := hz
  obtain ⟨v48, hz⟩ := hz
  obtain ⟨v49, hz⟩ := hz
  obtain ⟨v50, hz⟩ := hz
  obtain ⟨v51, hz⟩ := hz
  obtain ⟨v52, hz⟩ := hz
  obtain ⟨v53, hz⟩ := hz
  obtain ⟨v54, hz⟩ := hz
  obtain ⟨v55, hz⟩ := hz
  obtain ⟨v56, hz⟩ := hz
  obtain ⟨v57, hz⟩ := hz
  obtain ⟨v58, hz⟩ := hz
  obtain ⟨v59, hz⟩ := hz
  obtain ⟨v60, hz⟩ := hz
  obtain ⟨v61, hz⟩ := hz
  obtain ⟨v62, hz⟩ := hz
  obtain ⟨v63, hz⟩ := hz
  obtain ⟨v64, hz⟩ := hz
  obtain ⟨v65, hz⟩ := hz
  obtain ⟨v66, hz⟩ := hz
  obtain ⟨v67, hz⟩ := hz
  obtain ⟨v68, hz⟩ := hz
  obtain ⟨v69, hz⟩ := hz
  obtain ⟨v70, hz⟩ := hz
  obtain ⟨v71, hz⟩ := hz
  obtain ⟨v72, hz⟩ := hz
  obtain ⟨v73, hz⟩ := hz
  obtain ⟨v74, hz⟩ := hz
  obtain ⟨v75, hz⟩ := hz
  obtain ⟨v76, hz⟩ := hz
  obtain ⟨v77, hz⟩ := hz
  obtain ⟨v78, hz⟩ := hz
  obtain ⟨v79, hz⟩ := hz
  obtain ⟨v80, hz⟩ := hz
  obtain ⟨v81, hz⟩ := hz
  obtain ⟨v82, hz⟩ := hz
  obtain ⟨v83, hz⟩ := hz
  obtain ⟨v84, hz⟩ := hz
  obtain ⟨v85, hz⟩ := hz
  obtain ⟨v86, hz⟩ := hz
  obtain ⟨v87, hz⟩ := hz
  obtain ⟨v88, hz⟩ := hz
  obtain ⟨v89, hz⟩ := hz
  obtain ⟨v90, hz⟩ := hz
  obtain ⟨v91, hz⟩ := hz
  obtain ⟨v92, hz⟩ := hz
  obtain ⟨v93, hz⟩ := hz
  obtain ⟨v94, hz⟩ := hz
  obtain ⟨v95, hz⟩ := hz
  obtain ⟨v96, hz⟩ := hz
  obtain ⟨v97, hz⟩ := hz
  obtain ⟨v98, hz⟩ := hz
  obtain ⟨v99, hz⟩ := hz
  obtain ⟨v100, hz⟩ := hz
  obtain ⟨v101, hz⟩ := hz
  obtain ⟨v102, hz⟩ := hz
  obtain ⟨v103, hz⟩ := hz
  obtain ⟨v104, hz⟩ := hz
  obtain ⟨v105, hz⟩ := hz
  obtain ⟨v106, hz⟩ := hz
  obtain ⟨v107, hz⟩ := hz
  obtain ⟨v108, hz⟩ := hz
  obtain ⟨v109, hz⟩ := hz
  obtain ⟨v110, hz⟩ := hz
  obtain ⟨v111, hz⟩ := hz
  obtain ⟨v112, hz⟩ := hz
  obtain ⟨v113, hz⟩ := hz
  obtain ⟨v114, hz⟩ := hz
  obtain ⟨v115, hz⟩ := hz
  obtain ⟨v116, hz⟩ := hz
  obtain ⟨v117, hz⟩ := hz
  obtain ⟨v118, hz⟩ := hz
  obtain ⟨v119, hz⟩ := hz
  obtain ⟨v120, hz⟩ := hz
  obtain ⟨v121, hz⟩ := hz
  obtain ⟨v122, hz⟩ := hz
  obtain ⟨v123, hz⟩ := hz
  subst hz
  have S1 := Aside0.mk S1
  have MV := Aside0.mk (MV.out.trans m1)
  clear m1
  go_wp2
  first | go_end0 | refine bodyPost_ret (results_none rfl _ _ _) rfl ?_
  exact ⟨rfl, S1.out, MV.out⟩
end Go.Proofs.Ytlogocmojnhpbaa.Print
