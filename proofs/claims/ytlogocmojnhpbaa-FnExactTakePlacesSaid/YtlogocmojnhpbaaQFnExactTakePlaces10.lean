-- Packed by a program of this session (slim.py) out of printed texts; not trusted, Lean checks it.
import Derived.Test.YtlogocmojnhpbaaP0
import Derived.Test.YtlogocmojnhpbaaK4
import Derived.Test.YtlogocmojnhpbaaQFnExactTakePlaces5
namespace Go.Proofs.Ytlogocmojnhpbaa.Print
open Go.RowKit Go.Proofs.YtlogocmojnhpbaaW.PrintWords Go.Proofs.YtlogocmojnhpbaaW.PrintLast Go.Proofs.YtlogocmojnhpbaaW.PrintMore
attribute [local go_sem] max2_int min2_int max_two min_two max_three min_three max_four min_four
set_option linter.unusedVariables false
set_option linter.unusedSimpArgs false
def spec_l05Absorb.f (k:Nat) (l0_0:List (S79)) (a0_1:Int) (a0_2:ByteArray) (a0_3:Int) (a1:ByteArray):Option ((List (S79)) × Int × ByteArray × Int):=if a0_2.size + 6 ≤ 9223372036854775807 then ((spec_l02Number.f k (a1.size:Int) 4).bind fun t419=> (if (a0_2 ++ (⟨#[97,98,115,111,114,98]⟩:ByteArray)).size + (strOfNums t419).size ≤ 9223372036854775807 then (if ((a0_2 ++ (⟨#[97,98,115,111,114,98]⟩:ByteArray)) ++ (strOfNums t419)).size + a1.size ≤ 9223372036854775807 then ((spec_l03Hash.f (((a0_2 ++ (⟨#[97,98,115,111,114,98]⟩:ByteArray)) ++ (strOfNums t419)) ++ a1)).bind fun t422=> (some (l0_0,a0_1,t422,0))) else (none)) else (none))) else (none)
theorem spec_l05Absorb.mono:∀ a0 a1 a2 a3 a4 k,LeO (spec_l05Absorb.f k a0 a1 a2 a3 a4) (spec_l05Absorb.f (k + 1) a0 a1 a2 a3 a4):=by
  intro a0 a1 a2 a3 a4 k
  unfold spec_l05Absorb.f
  repeat' first
      |(with_reducible exact spec_l02Number.mono _ _ _)
      |(with_reducible exact LeO.refl _)
      |(with_reducible exact LeO.none _)
      |(with_reducible refine LeO.ite ?_ ?_)
      |(with_reducible refine LeO.bind ?_ (fun _=> ?_))
      |exact spec_l02Number.mono _ _ _
      |exact LeO.none _
      |refine LeO.ite ?_ ?_
      |refine LeO.bind ?_ (fun _=> ?_)
def spec_l05Absorb.T1:Bool × List (List Nat × List Nat):=(true, [([], []),([0], [0]),([1], [1]),([], []),([3], [3]),([4], [4]),([5], [5]),([2,6], [2,6]),([], []),([7,8], [7,8]),([9,5], [9]),([0,1,2,3,4,5,6,7,8,9,10], []),([11,10,10,0,1,2,3,4,5,6,7,8,9,10], [10,11])])
def spec_l05Absorb.B1:List Nat:= [0,1,3,0,8,24,56,127,0,511,1023,2047,4095]
theorem spec_l05Absorb.tab1:rtab .any (opsOf Try.f126 1)=spec_l05Absorb.T1:=by kernel_rfl
theorem spec_l05Absorb.bits1:waitsOk spec_l05Absorb.T1.2 spec_l05Absorb.B1=true:=by kernel_rfl
set_option maxHeartbeats 8000000 in
set_option maxRecDepth 100000 in
theorem spec_l05Absorb.calls (k:Nat) (P0_0_:Nat → Prop) (u9000_:Value) (l0_0:List (S79)) (a0_1:Int) (a0_2:ByteArray) (a0_3:Int) (a1:ByteArray) (r1:List (S79)) (r2:Int) (r3:ByteArray) (r4:Int) (w0 w:World) (hB:Below w0.heap.size w0 w) (ho0_0:Kd.R k79 79 w w0.heap.size P0_0_ u9000_ l0_0) (h:spec_l05Absorb.f k l0_0 a0_1 a0_2 a0_3 a1=some (r1,r2,r3,r4)):
    Calls Try.prog 126 #[.agg #[u9000_,.int .i64 a0_1,.string a0_2,.int .i64 a0_3],.string a1] w fun e w'=> ∃ v0_:Value,e= .returned (.agg #[v0_,.int .i64 r2,.string r3,.int .i64 r4]) ∧ Kd.R k79 79 w' w0.heap.size (fun k_=> (P0_0_ k_ ∨ w.heap.size ≤ k_)) v0_ r1 ∧ Below w0.heap.size w0 w' ∧ Kept w w' (fun k_=> P0_0_ k_):=by
  have hu36:=Try.underlying36
  have HO0_0:=Aside0.mk (show Kd.R k79 79 w w0.heap.size (fun k_=> (P0_0_ k_ ∨ w.heap.size ≤ k_)) u9000_ l0_0 from Kd.R_mono ho0_0 (fun k_ hk=> (.inl hk)))
  have HK:=Aside0.mk (Kept.refl w (fun k_=> P0_0_ k_))
  have HW0:=Aside0.mk hB.size
  have HB:=Aside0.mk hB
  clear hB
  have H:(if a0_2.size + 6 ≤ 9223372036854775807 then ((spec_l02Number.f k (a1.size:Int) 4).bind fun t419=> (if (a0_2 ++ (⟨#[97,98,115,111,114,98]⟩:ByteArray)).size + (strOfNums t419).size ≤ 9223372036854775807 then (if ((a0_2 ++ (⟨#[97,98,115,111,114,98]⟩:ByteArray)) ++ (strOfNums t419)).size + a1.size ≤ 9223372036854775807 then ((spec_l03Hash.f (((a0_2 ++ (⟨#[97,98,115,111,114,98]⟩:ByteArray)) ++ (strOfNums t419)) ++ a1)).bind fun t422=> (some (l0_0,a0_1,t422,0))) else (none)) else (none))) else (none))=some (r1,r2,r3,r4):=h
  clear h
  by_cases c3:a0_2.size + 6 ≤ 9223372036854775807
  · rw [if_pos c3] at H
    have c3b0:=eq_true c3
    have c3b1:decide (a0_2.size + 6 ≤ 9223372036854775807)=true:=decide_eq_true c3
    try have c3b2:(9223372036854775807 < a0_2.size + 6)=False:=eq_false (Nat.not_lt.2 c3)
    replace H:=Option.bind_eq_some_iff.mp H
    obtain ⟨t419,A40,H⟩:=H
    replace H:(if (a0_2 ++ (⟨#[97,98,115,111,114,98]⟩:ByteArray)).size + (strOfNums t419).size ≤ 9223372036854775807 then (if ((a0_2 ++ (⟨#[97,98,115,111,114,98]⟩:ByteArray)) ++ (strOfNums t419)).size + a1.size ≤ 9223372036854775807 then ((spec_l03Hash.f (((a0_2 ++ (⟨#[97,98,115,111,114,98]⟩:ByteArray)) ++ (strOfNums t419)) ++ a1)).bind fun t422=> (some (l0_0,a0_1,t422,0))) else (none)) else (none))=some (r1,r2,r3,r4):=H
    have A4:=Aside0.mk A40
    clear A40
    by_cases c5:(a0_2 ++ (⟨#[97,98,115,111,114,98]⟩:ByteArray)).size + (strOfNums t419).size ≤ 9223372036854775807
    · rw [if_pos c5] at H
      have c5b0:=eq_true c5
      have c5b1:decide ((a0_2 ++ (⟨#[97,98,115,111,114,98]⟩:ByteArray)).size + (strOfNums t419).size ≤ 9223372036854775807)=true:=decide_eq_true c5
      try have c5b2:(9223372036854775807 < (a0_2 ++ (⟨#[97,98,115,111,114,98]⟩:ByteArray)).size + (strOfNums t419).size)=False:=eq_false (Nat.not_lt.2 c5)
      try have c5b3:(9223372036854775807 < a0_2.size + 6 + (strOfNums t419).size)=False:=by have h_:=c5b2;simp only [ByteArray.size_append] at h_;exact h_
      by_cases c6:((a0_2 ++ (⟨#[97,98,115,111,114,98]⟩:ByteArray)) ++ (strOfNums t419)).size + a1.size ≤ 9223372036854775807
      · rw [if_pos c6] at H
        have c6b0:=eq_true c6
        have c6b1:decide (((a0_2 ++ (⟨#[97,98,115,111,114,98]⟩:ByteArray)) ++ (strOfNums t419)).size + a1.size ≤ 9223372036854775807)=true:=decide_eq_true c6
        try have c6b2:(9223372036854775807 < ((a0_2 ++ (⟨#[97,98,115,111,114,98]⟩:ByteArray)) ++ (strOfNums t419)).size + a1.size)=False:=eq_false (Nat.not_lt.2 c6)
        try have c6b3:(9223372036854775807 < a0_2.size + 6 + (strOfNums t419).size + a1.size)=False:=by have h_:=c6b2;simp only [ByteArray.size_append] at h_;exact h_
        replace H:=Option.bind_eq_some_iff.mp H
        obtain ⟨t422,A70,H⟩:=H
        replace H:(some (l0_0,a0_1,t422,0))=some (r1,r2,r3,r4):=H
        have A7:=Aside0.mk A70
        clear A70
        simp only [Option.some.injEq,Prod.mk.injEq] at H
        obtain ⟨rfl,rfl,rfl,rfl⟩:=H
        obtain ⟨Ao8,co8,eo8⟩:=Kd.R_slice HO0_0.out
        subst eo8
        go_enter Try.func126,Try.ntmps126
        try go_wp2_with (first|((with_reducible refine gate_dst (N:=2) rfl ?_);refine box_event ?hg (N:=2) ?hd (cs:= #[.slice Ao8 l0_0.length co8,.int .i64 a0_1,.string a0_2,.int .i64 a0_3]) (t:=36) ?hr ?_;(case hd=> rfl);(case hg=> rfl);(case hr=> first|(go_simp;done)|(go_simp;rfl));intro gb417 hg w9 hbox hb;have n0_:=Aside0.mk (Kd.R_below (by (with_reducible repeat (first|apply Kd.R_alloc|apply Kd.R_drewN|apply Kd.R_drew));exact HO0_0.out) hb);have n1_:=Aside0.mk (Kept.below (S:=(fun k_=> P0_0_ k_)) (by repeat (first|(with_reducible first|exact HK.out|apply Kept.alloc|apply Kept.drewN|apply Kept.drew)|exact HK.out)) hb);have n2_:=Aside0.mk (below_step (by repeat (first|(with_reducible first|exact HB.out|apply bwA|apply bwN|apply bwD)|exact HB.out)) hb);have n3_:=Aside0.mk (hbox);have n4_:=Aside0.mk ((by rw [hg];exact (by first|exact HK.out.1|exact (show Kept w _ (fun k_=> P0_0_ k_) from by repeat (first|(with_reducible first|exact HK.out|apply Kept.alloc|apply Kept.drewN|apply Kept.drew)|exact HK.out)).1):w.heap.size ≤ gb417));have n5_:=Aside0.mk ((by rw [hg];exact (below_size (by repeat (first|(with_reducible first|exact HB.out|apply bwA|apply bwN|apply bwD)|exact HB.out))):w0.heap.size ≤ gb417));clear HO0_0;clear HK;clear HB;have HO0_0:=n0_;have HK:=n1_;have HB:=n2_;have BK417:=n3_;have GW417:=n4_;have GE417:=n5_;clear n0_ n1_ n2_ n3_ n4_ n5_;clear hb hbox hg)|((with_reducible refine gate_dst (N:=4) rfl ?_);refine box_event ?hg (N:=4) ?hd (cs:= #[.slice none 0 0,.int .i64 0,.string (⟨#[]⟩:ByteArray),.int .i64 0]) (t:=36) ?hr ?_;(case hd=> rfl);(case hg=> rfl);(case hr=> first|(go_simp;done)|(go_simp;rfl));intro gb418 hg w10 hbox hb;have n0_:=Aside0.mk (Kd.R_below (by (with_reducible repeat (first|apply Kd.R_alloc|apply Kd.R_drewN|apply Kd.R_drew));exact HO0_0.out) hb);have n1_:=Aside0.mk (blk_below (g:=gb417) (o:= .cells #[.slice Ao8 l0_0.length co8,.int .i64 a0_1,.string a0_2,.int .i64 a0_3] 36 (0,0)) (by (with_reducible repeat (first|apply bN|apply bd|apply bA));exact BK417.out) hb);have n2_:=Aside0.mk (Kept.below (S:=(fun k_=> P0_0_ k_)) (by repeat (first|(with_reducible first|exact HK.out|apply Kept.alloc|apply Kept.drewN|apply Kept.drew|refine Kept.setCell ?_ (.inr GW417.out) _)|exact HK.out)) hb);have n3_:=Aside0.mk (below_step (by repeat (first|(with_reducible first|exact HB.out|apply bwA|apply bwN|apply bwD|refine bwS ?_ GE417.out)|exact HB.out)) hb);have n4_:=Aside0.mk (hbox);have n5_:=Aside0.mk ((by rw [hg];exact (by first|exact HK.out.1|exact (show Kept w _ (fun k_=> P0_0_ k_) from by repeat (first|(with_reducible first|exact HK.out|apply Kept.alloc|apply Kept.drewN|apply Kept.drew|refine Kept.setCell ?_ (.inr GW417.out) _)|exact HK.out)).1):w.heap.size ≤ gb418));have n6_:=Aside0.mk ((by rw [hg];exact (below_size (by repeat (first|(with_reducible first|exact HB.out|apply bwA|apply bwN|apply bwD|refine bwS ?_ GE417.out)|exact HB.out))):w0.heap.size ≤ gb418));have n7_:=Aside0.mk ((by rw [hg];exact Nat.ne_of_lt (blk_lt (g:=gb417) (o:= .cells #[.slice Ao8 l0_0.length co8,.int .i64 a0_1,.string a0_2,.int .i64 a0_3] 36 (0,0)) (by (with_reducible repeat (first|apply bN|apply bd|apply bA));exact BK417.out)):gb417 ≠ gb418));have n8_:=Aside0.mk ((by rw [hg];exact Nat.ne_of_gt (blk_lt (g:=gb417) (o:= .cells #[.slice Ao8 l0_0.length co8,.int .i64 a0_1,.string a0_2,.int .i64 a0_3] 36 (0,0)) (by (with_reducible repeat (first|apply bN|apply bd|apply bA));exact BK417.out)):gb418 ≠ gb417));clear HO0_0;clear BK417;clear HK;clear HB;have HO0_0:=n0_;have BK417:=n1_;have HK:=n2_;have HB:=n3_;have BK418:=n4_;have GW418:=n5_;have GE418:=n6_;have NB417_418:=n7_;have NB418_417:=n8_;clear n0_ n1_ n2_ n3_ n4_ n5_ n6_ n7_ n8_;clear hb hbox hg))
        have n0_:=Aside0.mk (Kd.R_drew HO0_0.out)
        have n1_:=Aside0.mk (blk_drew BK417.out)
        have n2_:=Aside0.mk (blk_drew BK418.out)
        have n3_:=Aside0.mk (Kept.drew HK.out)
        have n4_:=Aside0.mk (bwD HB.out)
        clear HO0_0
        clear BK417
        clear BK418
        clear HK
        clear HB
        have HO0_0:=n0_
        have BK417:=n1_
        have BK418:=n2_
        have HK:=n3_
        have HB:=n4_
        clear n0_ n1_ n2_ n3_ n4_
        refine start_ (n:=13) (S:=fun w'=> w'.cell? ⟨gb417,0,none⟩=some (.slice Ao8 l0_0.length co8) ∧ w'.cell? ⟨gb417,1,none⟩=some (.int .i64 a0_1) ∧ w'.cell? ⟨gb417,2,none⟩=some (.string a0_2) ∧ w'.cell? ⟨gb417,3,none⟩=some (.int .i64 a0_3)) (ds:= [12]) #[false,false,false,false,false,false,false,false,false,false,false,false,false] (by kernel_rfl) rfl rfl ⟨(blk_cell BK417.out 0).trans rfl,(blk_cell BK417.out 1).trans rfl,(blk_cell BK417.out 2).trans rfl,(blk_cell BK417.out 3).trans rfl⟩ (fun hHeld=> ?_);refine with_tabW spec_l05Absorb.tab1 spec_l05Absorb.bits1 (fun HT_ HW_=> ?_)
        generalize w10.drew=w11 at HO0_0 BK417 BK418 HK HB hHeld ⊢
        refine pure_ (i:=0) (N:=some 5) (v:=?_) (a':=?_) #[true,false,false,false,false,false,false,false,false,false,false,false,false] rfl rfl (any_of HT_.out (by kernel_rfl)) (fun _ _ _ h=> h) (Or.inl ⟨by rfl,?_⟩) ?_ ?_
        rotate_left
        · intro w'
          go_simp
          with_reducible rfl
        rotate_left
        · simp only [Act.put,List.setIfInBounds_toArray,List.set_cons_zero,List.set_cons_succ,i64_w,i32_w]
          rfl
        refine pure_ (i:=3) (N:=some 8) (v:=?_) (a':=?_) #[true,false,false,true,false,false,false,false,false,false,false,false,false] rfl rfl (any_of HT_.out (by kernel_rfl)) (fun _ _ _ h=> h) (Or.inl ⟨by rfl,?_⟩) ?_ ?_
        rotate_left
        · intro w'
          go_simp
          with_reducible rfl
        rotate_left
        · simp only [Act.put,List.setIfInBounds_toArray,List.set_cons_zero,List.set_cons_succ,i64_w,i32_w]
          rfl
        refine pure_ (i:=4) (N:=some 9) (v:=?_) (a':=?_) #[true,false,false,true,true,false,false,false,false,false,false,false,false] rfl rfl (any_of HT_.out (by kernel_rfl)) (fun _ _ _ h=> h) (Or.inl ⟨by rfl,?_⟩) ?_ ?_
        rotate_left
        · intro w'
          go_simp
          with_reducible rfl
        rotate_left
        · simp only [Act.put,List.setIfInBounds_toArray,List.set_cons_zero,List.set_cons_succ,i64_w,i32_w]
          rfl
        refine pure_ (i:=8) (N:=some 13) (v:=?_) (a':=?_) #[true,false,false,true,true,false,false,false,true,false,false,false,false] rfl rfl (any_of HT_.out (by kernel_rfl)) (fun _ _ _ h=> h) (Or.inl ⟨by rfl,?_⟩) ?_ ?_
        rotate_left
        · intro w'
          go_simp
          with_reducible rfl
        rotate_left
        · simp only [Act.put,List.setIfInBounds_toArray,List.set_cons_zero,List.set_cons_succ,i64_w,i32_w]
          rfl
        refine take_ (i:=1) (N:=some 6) (v:=?_) (a':=?_) #[true,true,false,true,true,false,false,false,true,false,false,false,false] rfl rfl (take_ofW HT_.out HW_.out (by kernel_rfl)) (fun _ _ _ h=> h) (Or.inl ⟨by rfl,?_⟩) hHeld ?_ ?_
        rotate_left
        · rintro w' ⟨s0,s1,s2,s3⟩
          go_simp
          with_reducible rfl
        rotate_left
        · simp only [Act.put,List.setIfInBounds_toArray,List.set_cons_zero,List.set_cons_succ,i64_w,i32_w]
          rfl
        refine pure_ (i:=2) (N:=some 7) (v:=?_) (a':=?_) #[true,true,true,true,true,false,false,false,true,false,false,false,false] rfl rfl (any_of HT_.out (by kernel_rfl)) (fun _ _ _ h=> h) (Or.inl ⟨by rfl,?_⟩) ?_ ?_
        rotate_left
        · intro w'
          go_simp
          with_reducible rfl
        rotate_left
        · simp only [Act.put,List.setIfInBounds_toArray,List.set_cons_zero,List.set_cons_succ,i64_w,i32_w]
          rfl
        refine one_ (i:=5) (N:=some 10) #[true,true,true,true,true,true,false,false,true,false,false,false,false] rfl rfl (one_of HT_.out (by kernel_rfl)) (by decide) (fun K hK=> ?_)
        refine goes_ Try.func148 (by kernel_rfl) rfl #[.int .i64 (a1.size:Int),.int .i64 4] (by rfl) rfl rfl (by (try simp only [List.map_toArray,List.map_cons,List.map_nil]);first|done|rfl|(simp only [List.length_drop,List.length_take];rfl)) ?_
        with_reducible refine (spec_l02Number.calls k (a1.size:Int) 4 t419 _ A4.out).mono ?_
        rintro e w12 ⟨v420,rfl,ho0,hb⟩
        refine ⟨_,rfl,?_⟩
        have n0_:=Aside0.mk (Kd.R_below (by (with_reducible repeat (first|apply Kd.R_alloc|apply Kd.R_drewN|apply Kd.R_drew));exact HO0_0.out) hb)
        have n1_:=Aside0.mk (Kd.R_lower (Kd.R_newM (M:=fun k_=> (P0_0_ k_ ∨ w.heap.size ≤ k_)) ho0 (by first|exact HK.out.1|exact (show Kept w _ (fun k_=> P0_0_ k_) from by repeat (first|(with_reducible first|exact HK.out|apply Kept.alloc|apply Kept.drewN|apply Kept.drew|refine Kept.setCell ?_ (.inr GW417.out) _|refine Kept.setCell ?_ (.inr GW418.out) _)|exact HK.out)).1) (fun k_ h_=> .inr h_)) (below_size (by repeat (first|(with_reducible first|exact HB.out|apply bwA|apply bwN|apply bwD|refine bwS ?_ GE417.out|refine bwS ?_ GE418.out)|exact HB.out))))
        have n2_:=Aside0.mk (blk_below (g:=gb417) (o:= .cells #[.slice Ao8 l0_0.length co8,.int .i64 a0_1,.string a0_2,.int .i64 a0_3] 36 (0,0)) (by (with_reducible repeat (first|apply bN|apply bd|apply bA));exact BK417.out) hb)
        have n3_:=Aside0.mk (blk_below (g:=gb418) (o:= .cells #[.slice none 0 0,.int .i64 0,.string (⟨#[]⟩:ByteArray),.int .i64 0] 36 (0,0)) (by (with_reducible repeat (first|apply bN|apply bd|apply bA));exact BK418.out) hb)
        have n4_:=Aside0.mk (Kept.below (S:=(fun k_=> P0_0_ k_)) (by repeat (first|(with_reducible first|exact HK.out|apply Kept.alloc|apply Kept.drewN|apply Kept.drew|refine Kept.setCell ?_ (.inr GW417.out) _|refine Kept.setCell ?_ (.inr GW418.out) _)|exact HK.out)) hb)
        have n5_:=Aside0.mk (below_step (by repeat (first|(with_reducible first|exact HB.out|apply bwA|apply bwN|apply bwD|refine bwS ?_ GE417.out|refine bwS ?_ GE418.out)|exact HB.out)) hb)
        clear HO0_0
        clear BK417
        clear BK418
        clear HK
        clear HB
        have HO0_0:=n0_
        have HO421:=n1_
        have BK417:=n2_
        have BK418:=n3_
        have HK:=n4_
        have HB:=n5_
        clear n0_ n1_ n2_ n3_ n4_ n5_
        (try clear hb)
        (try clear hb2)
        (try clear hk)
        (try clear hi)
        (try clear ho0)
        refine hK.out _ _ ⟨(blk_cell BK417.out 0).trans rfl,(blk_cell BK417.out 1).trans rfl,(blk_cell BK417.out 2).trans rfl,(blk_cell BK417.out 3).trans rfl⟩ (fun hHeld=> ?_)
        clear hK K
        refine norm_ (a':=?_) ?_ ?_
        rotate_left
        · show Act.put _ (some 10) _=_
          simp only [Act.put,List.setIfInBounds_toArray,List.set_cons_zero,List.set_cons_succ,i64_w,i32_w]
          rfl
        refine one_ (i:=6) (N:=some 11) #[true,true,true,true,true,true,true,false,true,false,false,false,false] rfl rfl (one_of HT_.out (by kernel_rfl)) (by decide) (fun K hK=> ?_)
        have hcv13:=own_string (P:=Try.prog) Try.underlying25 Try.underlying5 Try.underlying9 (Kd.own_of_R HO421.out)
        refine value_ (w1:=?_) (v:=?_) (by rfl) rfl ?_ ?_
        rotate_left 2
        · go_simp
          constructor
          · rfl
          · rfl
        clear hcv13
        refine hK.out _ _ ⟨(blk_cell BK417.out 0).trans rfl,(blk_cell BK417.out 1).trans rfl,(blk_cell BK417.out 2).trans rfl,(blk_cell BK417.out 3).trans rfl⟩ (fun hHeld=> ?_)
        clear hK K
        refine norm_ (a':=?_) ?_ ?_
        rotate_left
        · show Act.put _ (some 11) _=_
          simp only [Act.put,List.setIfInBounds_toArray,List.set_cons_zero,List.set_cons_succ,i64_w,i32_w]
          rfl
        refine pure_ (i:=7) (N:=some 12) (v:=?_) (a':=?_) #[true,true,true,true,true,true,true,true,true,false,false,false,false] rfl rfl (any_of HT_.out (by kernel_rfl)) (fun _ _ _ h=> h) (Or.inl ⟨by rfl,?_⟩) ?_ ?_
        rotate_left
        · intro w'
          go_simp
          with_reducible rfl
        rotate_left
        · simp only [Act.put,List.setIfInBounds_toArray,List.set_cons_zero,List.set_cons_succ,i64_w,i32_w]
          rfl
        refine pure_ (i:=9) (N:=some 14) (v:=?_) (a':=?_) #[true,true,true,true,true,true,true,true,true,true,false,false,false] rfl rfl (any_of HT_.out (by kernel_rfl)) (fun _ _ _ h=> h) (Or.inl ⟨by rfl,?_⟩) ?_ ?_
        rotate_left
        · intro w'
          go_simp
          with_reducible rfl
        rotate_left
        · simp only [Act.put,List.setIfInBounds_toArray,List.set_cons_zero,List.set_cons_succ,i64_w,i32_w]
          rfl
        refine one_ (i:=10) (N:=some 15) #[true,true,true,true,true,true,true,true,true,true,true,false,false] rfl rfl (one_of HT_.out (by kernel_rfl)) (by decide) (fun K hK=> ?_)
        refine goes_ Try.func87 (by kernel_rfl) rfl #[.string (((a0_2 ++ (⟨#[97,98,115,111,114,98]⟩:ByteArray)) ++ (strOfNums t419)) ++ a1)] (by rfl) rfl rfl (by (try simp only [List.map_toArray,List.map_cons,List.map_nil]);first|done|rfl|(simp only [List.length_drop,List.length_take];rfl)) ?_
        with_reducible refine (spec_l03Hash.calls (((a0_2 ++ (⟨#[97,98,115,111,114,98]⟩:ByteArray)) ++ (strOfNums t419)) ++ a1) t422 _ A7.out).mono ?_
        rintro e w14 ⟨rfl,hb⟩
        refine ⟨_,rfl,?_⟩
        have n0_:=Aside0.mk (Kd.R_below (by (with_reducible repeat (first|apply Kd.R_alloc|apply Kd.R_drewN|apply Kd.R_drew));exact HO0_0.out) hb)
        have n1_:=Aside0.mk (Kd.R_below (by (with_reducible repeat (first|apply Kd.R_alloc|apply Kd.R_drewN|apply Kd.R_drew));exact HO421.out) hb)
        have n2_:=Aside0.mk (blk_below (g:=gb417) (o:= .cells #[.slice Ao8 l0_0.length co8,.int .i64 a0_1,.string a0_2,.int .i64 a0_3] 36 (0,0)) (by (with_reducible repeat (first|apply bN|apply bd|apply bA));exact BK417.out) hb)
        have n3_:=Aside0.mk (blk_below (g:=gb418) (o:= .cells #[.slice none 0 0,.int .i64 0,.string (⟨#[]⟩:ByteArray),.int .i64 0] 36 (0,0)) (by (with_reducible repeat (first|apply bN|apply bd|apply bA));exact BK418.out) hb)
        have n4_:=Aside0.mk (Kept.below (S:=(fun k_=> P0_0_ k_)) (by repeat (first|(with_reducible first|exact HK.out|apply Kept.alloc|apply Kept.drewN|apply Kept.drew|refine Kept.setCell ?_ (.inr GW417.out) _|refine Kept.setCell ?_ (.inr GW418.out) _)|exact HK.out)) hb)
        have n5_:=Aside0.mk (below_step (by repeat (first|(with_reducible first|exact HB.out|apply bwA|apply bwN|apply bwD|refine bwS ?_ GE417.out|refine bwS ?_ GE418.out)|exact HB.out)) hb)
        clear HO0_0
        clear HO421
        clear BK417
        clear BK418
        clear HK
        clear HB
        have HO0_0:=n0_
        have HO421:=n1_
        have BK417:=n2_
        have BK418:=n3_
        have HK:=n4_
        have HB:=n5_
        clear n0_ n1_ n2_ n3_ n4_ n5_
        (try clear hb)
        (try clear hb2)
        (try clear hk)
        (try clear hi)
        refine hK.out _ _ ⟨(blk_cell BK417.out 0).trans rfl,(blk_cell BK417.out 1).trans rfl,(blk_cell BK417.out 2).trans rfl,(blk_cell BK417.out 3).trans rfl⟩ (fun hHeld=> ?_)
        clear hK K
        refine norm_ (a':=?_) ?_ ?_
        rotate_left
        · show Act.put _ (some 15) _=_
          simp only [Act.put,List.setIfInBounds_toArray,List.set_cons_zero,List.set_cons_succ,i64_w,i32_w]
          rfl
        refine pure_ (i:=11) (N:=some 16) (v:=?_) (a':=?_) #[true,true,true,true,true,true,true,true,true,true,true,true,false] rfl rfl (any_of HT_.out (by kernel_rfl)) (fun _ _ _ h=> h) (Or.inl ⟨by rfl,?_⟩) ?_ ?_
        rotate_left
        · intro w'
          go_simp
          with_reducible rfl
        rotate_left
        · simp only [Act.put,List.setIfInBounds_toArray,List.set_cons_zero,List.set_cons_succ,i64_w,i32_w]
          rfl
        refine last_ (i:=12) (N:=none) #[true,true,true,true,true,true,true,true,true,true,true,true,true] rfl rfl (one_of HT_.out (by kernel_rfl)) (by decide) (fun K hK=> ?_)
        have hs15:w14.cell? ⟨gb417,2,none⟩=some (.string a0_2):=(blk_cell BK417.out 2).trans rfl
        have hfs15:=blk_frozen BK417.out 2
        have hns15_1:=NB418_417.out
        have hms15_1:=NB417_418.out
        refine skip_ (w1:=?_) (by rfl) rfl ?_ ?_
        rotate_left
        · go_simp
          rfl
        refine hK.out _ _ ?_
        clear hK K
        refine done_ (done_of HT_.out (by kernel_rfl)) ?_
        have hnb16:=NB417_418.out
        have hnc16:=NB418_417.out
        have hcz17_0:w14.cell? ⟨gb417,0,none⟩=some (.slice Ao8 l0_0.length co8):=(blk_cell BK417.out 0).trans rfl
        have hcz17_1:w14.cell? ⟨gb417,1,none⟩=some (.int .i64 a0_1):=(blk_cell BK417.out 1).trans rfl
        have hcz17_2:w14.cell? ⟨gb417,2,none⟩=some (.string a0_2):=(blk_cell BK417.out 2).trans rfl
        have hcz17_3:w14.cell? ⟨gb417,3,none⟩=some (.int .i64 a0_3):=(blk_cell BK417.out 3).trans rfl
        have hfz17_0:=blk_frozen BK417.out 0
        have hfz17_1:=blk_frozen BK417.out 1
        have hfz17_2:=blk_frozen BK417.out 2
        have hfz17_3:=blk_frozen BK417.out 3
        have hcz18_0:w14.cell? ⟨gb418,0,none⟩=some (.slice none 0 0):=(blk_cell BK418.out 0).trans rfl
        have hcz18_1:w14.cell? ⟨gb418,1,none⟩=some (.int .i64 0):=(blk_cell BK418.out 1).trans rfl
        have hcz18_2:w14.cell? ⟨gb418,2,none⟩=some (.string (⟨#[]⟩:ByteArray)):=(blk_cell BK418.out 2).trans rfl
        have hcz18_3:w14.cell? ⟨gb418,3,none⟩=some (.int .i64 0):=(blk_cell BK418.out 3).trans rfl
        have hfz18_0:=blk_frozen BK418.out 0
        have hfz18_1:=blk_frozen BK418.out 1
        have hfz18_2:=blk_frozen BK418.out 2
        have hfz18_3:=blk_frozen BK418.out 3
        try go_wp2
        refine bodyPost_ret (results_cell_row rfl _ _ gb418 36 #[.slice Ao8 l0_0.length co8,.int .i64 a0_1,.string t422,.int .i64 0] (0,0) _ rfl (by (with_reducible repeat (first|apply bN|apply bd|apply bA));refine blk_put (cs:= #[.slice Ao8 l0_0.length co8,.int .i64 a0_1,.string t422,.int .i64 0]) ?_ 3 _ rfl;(with_reducible repeat (first|apply bN|apply bd|apply bA));refine blk_put (cs:= #[.slice Ao8 l0_0.length co8,.int .i64 a0_1,.string (⟨#[]⟩:ByteArray),.int .i64 0]) ?_ 2 _ rfl;(with_reducible repeat (first|apply bN|apply bd|apply bA));refine blk_put (cs:= #[.slice Ao8 l0_0.length co8,.int .i64 0,.string (⟨#[]⟩:ByteArray),.int .i64 0]) ?_ 1 _ rfl;(with_reducible repeat (first|apply bN|apply bd|apply bA));refine blk_put (cs:= #[.slice none 0 0,.int .i64 0,.string (⟨#[]⟩:ByteArray),.int .i64 0]) ?_ 0 _ rfl;(with_reducible repeat (first|apply bN|apply bd|apply bA));refine blk_far ?_ NB418_417.out _;(with_reducible repeat (first|apply bN|apply bd|apply bA));refine blk_far ?_ NB418_417.out _;(with_reducible repeat (first|apply bN|apply bd|apply bA));exact BK418.out) Try.underlying36 rfl (by kernel_rfl)) rfl ?_
        exact ⟨_,by first|rfl|(simp [errW_none,errW_some] <;> rfl)|(simp [*,errW_none,errW_some] <;> rfl),by (with_reducible repeat (first|apply Kd.R_alloc|apply Kd.R_drewN|apply Kd.R_drew));exact Kd.R_mono (Kd.R_far (p:=⟨gb418,3,none⟩) (Kd.R_far (p:=⟨gb418,2,none⟩) (Kd.R_far (p:=⟨gb418,1,none⟩) (Kd.R_far (p:=⟨gb418,0,none⟩) (Kd.R_far (p:=⟨gb417,3,none⟩) (Kd.R_far (p:=⟨gb417,2,none⟩) (Kd.R_types (Kd.R_types HO0_0.out BK417.out (by decide)) BK418.out (by decide)) (fun _ hk=> hk.1.2) (.string t422)) (fun _ hk=> hk.1.2) (.int .i64 0)) (fun _ hk=> hk.2) (.slice Ao8 l0_0.length co8)) (fun _ hk=> hk.2) (.int .i64 a0_1)) (fun _ hk=> hk.2) (.string t422)) (fun _ hk=> hk.2) (.int .i64 0)) (fun _ hk=> hk.1.1),by repeat (first|(with_reducible first|exact HB.out|apply bwA|apply bwN|apply bwD|refine bwS ?_ GE417.out|refine bwS ?_ GE418.out)|exact HB.out),by repeat (first|(with_reducible first|exact HK.out|apply Kept.alloc|apply Kept.drewN|apply Kept.drew|refine Kept.setCell ?_ (.inr GW417.out) _|refine Kept.setCell ?_ (.inr GW418.out) _)|exact HK.out)⟩
      · rw [if_neg c6] at H
        exact absurd H (by simp)
    · rw [if_neg c5] at H
      exact absurd H (by simp)
  · rw [if_neg c3] at H
    exact absurd H (by simp)
end Go.Proofs.Ytlogocmojnhpbaa.Print
