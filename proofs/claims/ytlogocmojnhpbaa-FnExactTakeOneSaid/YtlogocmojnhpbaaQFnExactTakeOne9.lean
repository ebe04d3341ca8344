-- Packed by a program of this session (slim.py) out of printed texts; not trusted, Lean checks it.
import Derived.Test.YtlogocmojnhpbaaP0
import Derived.Test.YtlogocmojnhpbaaK4
import Derived.Test.YtlogocmojnhpbaaQFnExactTakeOne4
import Derived.Test.YtlogocmojnhpbaaQFnExactTakeOne5
namespace Go.Proofs.Ytlogocmojnhpbaa.Print
open Go.RowKit Go.Proofs.YtlogocmojnhpbaaW.PrintWords Go.Proofs.YtlogocmojnhpbaaW.PrintLast Go.Proofs.YtlogocmojnhpbaaW.PrintMore
attribute [local go_sem] max2_int min2_int max_two min_two max_three min_three max_four min_four
set_option linter.unusedVariables false
set_option linter.unusedSimpArgs false
def spec_l05Absorb.f (k:Nat) (l0_0:List (S79)) (a0_1:Int) (a0_2:ByteArray) (a0_3:Int) (a1:ByteArray):Option ((List (S79)) × Int × ByteArray × Int):=if a0_2.size + 6 ≤ 9223372036854775807 then ((spec_l02Number.f k (a1.size:Int) 4).bind fun t419=> (if (a0_2 ++ (⟨#[97,98,115,111,114,98]⟩:ByteArray)).size + (strOfNums t419).size ≤ 9223372036854775807 then (if ((a0_2 ++ (⟨#[97,98,115,111,114,98]⟩:ByteArray)) ++ (strOfNums t419)).size + a1.size ≤ 9223372036854775807 then ((spec_l03Hash.f (((a0_2 ++ (⟨#[97,98,115,111,114,98]⟩:ByteArray)) ++ (strOfNums t419)) ++ a1)).bind fun t422=> (some (l0_0,a0_1,t422,0))) else (none)) else (none))) else (none)
theorem spec_l05Absorb.mono:∀ a0 a1 a2 a3 a4 k,LeO (spec_l05Absorb.f k a0 a1 a2 a3 a4) (spec_l05Absorb.f (k + 1) a0 a1 a2 a3 a4):=by
  intro a0 a1 a2 a3 a4 k
  unfold spec_l05Absorb.f
  repeat' first
      |(with_reducible exact spec_l02Number.mono _ _ _)
      |(with_reducible exact LeO.refl _)
      |(with_reducible exact LeO.none _)
      |(with_reducible refine LeO.ite ?_ ?_)
      |(with_reducible refine LeO.bind ?_ (fun _=> ?_))
      |exact spec_l02Number.mono _ _ _
      |exact LeO.none _
      |refine LeO.ite ?_ ?_
      |refine LeO.bind ?_ (fun _=> ?_)
def spec_l05Absorb.T1:Bool × List (List Nat × List Nat):=(true, [([], []),([0], [0]),([1], [1]),([], []),([3], [3]),([4], [4]),([5], [5]),([2,6], [2,6]),([], []),([7,8], [7,8]),([9,5], [9]),([0,1,2,3,4,5,6,7,8,9,10], []),([11,10,10,0,1,2,3,4,5,6,7,8,9,10], [10,11])])
def spec_l05Absorb.B1:List Nat:= [0,1,3,0,8,24,56,127,0,511,1023,2047,4095]
theorem spec_l05Absorb.tab1:rtab .any (opsOf Try.f126 1)=spec_l05Absorb.T1:=by kernel_rfl
theorem spec_l05Absorb.bits1:waitsOk spec_l05Absorb.T1.2 spec_l05Absorb.B1=true:=by kernel_rfl
set_option maxHeartbeats 8000000 in
set_option maxRecDepth 100000 in
theorem spec_l05Absorb.calls (k:Nat) (P0_0_:Nat → Prop) (u9000_:Value) (l0_0:List (S79)) (a0_1:Int) (a0_2:ByteArray) (a0_3:Int) (a1:ByteArray) (r1:List (S79)) (r2:Int) (r3:ByteArray) (r4:Int) (w0 w:World) (hB:Below w0.heap.size w0 w) (ho0_0:Kd.R k79 79 w w0.heap.size P0_0_ u9000_ l0_0) (h:spec_l05Absorb.f k l0_0 a0_1 a0_2 a0_3 a1=some (r1,r2,r3,r4)):
    Calls Try.prog 126 #[.agg #[u9000_,.int .i64 a0_1,.string a0_2,.int .i64 a0_3],.string a1] w fun e w'=> ∃ v0_:Value,e= .returned (.agg #[v0_,.int .i64 r2,.string r3,.int .i64 r4]) ∧ Kd.R k79 79 w' w0.heap.size (fun k_=> (P0_0_ k_ ∨ w.heap.size ≤ k_)) v0_ r1 ∧ Below w0.heap.size w0 w' ∧ Kept w w' (fun k_=> P0_0_ k_):=by
  have hu36:=Try.underlying36
  have HO0_0:=Aside0.mk (show Kd.R k79 79 w w0.heap.size (fun k_=> (P0_0_ k_ ∨ w.heap.size ≤ k_)) u9000_ l0_0 from Kd.R_mono ho0_0 (fun k_ hk=> (.inl hk)))
  have HK:=Aside0.mk (Kept.refl w (fun k_=> P0_0_ k_))
  have HW0:=Aside0.mk hB.size
  have HB:=Aside0.mk hB
  clear hB
  have H:(if a0_2.size + 6 ≤ 9223372036854775807 then ((spec_l02Number.f k (a1.size:Int) 4).bind fun t419=> (if (a0_2 ++ (⟨#[97,98,115,111,114,98]⟩:ByteArray)).size + (strOfNums t419).size ≤ 9223372036854775807 then (if ((a0_2 ++ (⟨#[97,98,115,111,114,98]⟩:ByteArray)) ++ (strOfNums t419)).size + a1.size ≤ 9223372036854775807 then ((spec_l03Hash.f (((a0_2 ++ (⟨#[97,98,115,111,114,98]⟩:ByteArray)) ++ (strOfNums t419)) ++ a1)).bind fun t422=> (some (l0_0,a0_1,t422,0))) else (none)) else (none))) else (none))=some (r1,r2,r3,r4):=h
  clear h
  by_cases c3:a0_2.size + 6 ≤ 9223372036854775807
  · rw [if_pos c3] at H
    have c3b0:=eq_true c3
    have c3b1:decide (a0_2.size + 6 ≤ 9223372036854775807)=true:=decide_eq_true c3
    try have c3b2:(9223372036854775807 < a0_2.size + 6)=False:=eq_false (Nat.not_lt.2 c3)
    replace H:=Option.bind_eq_some_iff.mp H
    obtain ⟨t419,A40,H⟩:=H
    replace H:(if (a0_2 ++ (⟨#[97,98,115,111,114,98]⟩:ByteArray)).size + (strOfNums t419).size ≤ 9223372036854775807 then (if ((a0_2 ++ (⟨#[97,98,115,111,114,98]⟩:ByteArray)) ++ (strOfNums t419)).size + a1.size ≤ 9223372036854775807 then ((spec_l03Hash.f (((a0_2 ++ (⟨#[97,98,115,111,114,98]⟩:ByteArray)) ++ (strOfNums t419)) ++ a1)).bind fun t422=> (some (l0_0,a0_1,t422,0))) else (none)) else (none))=some (r1,r2,r3,r4):=H
    have A4:=Aside0.mk A40
    clear A40
    by_cases c5:(a0_2 ++ (⟨#[97,98,115,111,114,98]⟩:ByteArray)).size + (strOfNums t419).size ≤ 9223372036854775807
    · rw [if_pos c5] at H
      have c5b0:=eq_true c5
      have c5b1:decide ((a0_2 ++ (⟨#[97,98,115,111,114,98]⟩:ByteArray)).size + (strOfNums t419).size ≤ 9223372036854775807)=true:=decide_eq_true c5
      try have c5b2:(9223372036854775807 < (a0_2 ++ (⟨#[97,98,115,111,114,98]⟩:ByteArray)).size + (strOfNums t419).size)=False:=eq_false (Nat.not_lt.2 c5)
      try have c5b3:(9223372036854775807 < a0_2.size + 6 + (strOfNums t419).size)=False:=by have h_:=c5b2;simp only [ByteArray.size_append] at h_;exact h_
      by_cases c6:((a0_2 ++ (⟨#[97,98,115,111,114,98]⟩:ByteArray)) ++ (strOfNums t419)).size + a1.size ≤ 9223372036854775807
      · rw [if_pos c6] at H
        have c6b0:=eq_true c6
        have c6b1:decide (((a0_2 ++ (⟨#[97,98,115,111,114,98]⟩:ByteArray)) ++ (strOfNums t419)).size + a1.size ≤ 9223372036854775807)=true:=decide_eq_true c6
        try have c6b2:(9223372036854775807 < ((a0_2 ++ (⟨#[97,98,115,111,114,98]⟩:ByteArray)) ++ (strOfNums t419)).size + a1.size)=False:=eq_false (Nat.not_lt.2 c6)
        try have c6b3:(9223372036854775807 < a0_2.size + 6 + (strOfNums t419).size + a1.size)=False:=by have h_:=c6b2;simp only [ByteArray.size_append] at h_;exact h_
        replace H:=Option.bind_eq_some_iff.mp H
        obtain ⟨t422,A70,H⟩:=H
        replace H:(some (l0_0,a0_1,t422,0))=some (r1,r2,r3,r4):=H
        have A7:=Aside0.mk A70
        clear A70
        simp only [Option.some.injEq,Prod.mk.injEq] at H
        obtain ⟨rfl,rfl,rfl,rfl⟩:=H
        obtain ⟨Ao8,co8,eo8⟩:=Kd.R_slice HO0_0.out
        subst eo8
        go_enter Try.func126,Try.ntmps126
        try go_wp2_with (first|((with_reducible refine gate_dst (N:=2) rfl ?_);refine box_event ?hg (N:=2) ?hd (cs:= #[.slice Ao8 l0_0.length co8,.int .i64 a0_1,.string a0_2,.int .i64 a0_3]) (t:=36) ?hr ?_;(case hd=> rfl);(case hg=> rfl);(case hr=> first|(go_simp;done)|(go_simp;rfl));intro gb417 hg w9 hbox hb;have n0_:=Aside0.mk (Kd.R_below (by (with_reducible repeat (first|apply Kd.R_alloc|apply Kd.R_drewN|apply Kd.R_drew));exact HO0_0.out) hb);have n1_:=Aside0.mk (Kept.below (S:=(fun k_=> P0_0_ k_)) (by repeat (first|(with_reducible first|exact HK.out|apply Kept.alloc|apply Kept.drewN|apply Kept.drew)|exact HK.out)) hb);have n2_:=Aside0.mk (below_step (by repeat (first|(with_reducible first|exact HB.out|apply below_alloc|apply pw_below_drewN|apply below_drew1)|exact HB.out)) hb);have n3_:=Aside0.mk (hbox);have n4_:=Aside0.mk ((by rw [hg];exact (by first|exact HK.out.1|exact (show Kept w _ (fun k_=> P0_0_ k_) from by repeat (first|(with_reducible first|exact HK.out|apply Kept.alloc|apply Kept.drewN|apply Kept.drew)|exact HK.out)).1):w.heap.size ≤ gb417));have n5_:=Aside0.mk ((by rw [hg];exact (below_size (by repeat (first|(with_reducible first|exact HB.out|apply below_alloc|apply pw_below_drewN|apply below_drew1)|exact HB.out))):w0.heap.size ≤ gb417));clear HO0_0;clear HK;clear HB;have HO0_0:=n0_;have HK:=n1_;have HB:=n2_;have BK417:=n3_;have GW417:=n4_;have GE417:=n5_;clear n0_ n1_ n2_ n3_ n4_ n5_;clear hb hbox hg)|((with_reducible refine gate_dst (N:=4) rfl ?_);refine box_event ?hg (N:=4) ?hd (cs:= #[.slice none 0 0,.int .i64 0,.string (⟨#[]⟩:ByteArray),.int .i64 0]) (t:=36) ?hr ?_;(case hd=> rfl);(case hg=> rfl);(case hr=> first|(go_simp;done)|(go_simp;rfl));intro gb418 hg w10 hbox hb;have n0_:=Aside0.mk (Kd.R_below (by (with_reducible repeat (first|apply Kd.R_alloc|apply Kd.R_drewN|apply Kd.R_drew));exact HO0_0.out) hb);have n1_:=Aside0.mk (blk_below (g:=gb417) (o:= .cells #[.slice Ao8 l0_0.length co8,.int .i64 a0_1,.string a0_2,.int .i64 a0_3] 36 (0,0)) (by (with_reducible repeat (first|apply bN|apply bd|apply bA));exact BK417.out) hb);have n2_:=Aside0.mk (Kept.below (S:=(fun k_=> P0_0_ k_)) (by repeat (first|(with_reducible first|exact HK.out|apply Kept.alloc|apply Kept.drewN|apply Kept.drew|refine Kept.setCell ?_ (.inr GW417.out) _)|exact HK.out)) hb);have n3_:=Aside0.mk (below_step (by repeat (first|(with_reducible first|exact HB.out|apply below_alloc|apply pw_below_drewN|apply below_drew1|refine below_set ?_ GE417.out)|exact HB.out)) hb);have n4_:=Aside0.mk (hbox);have n5_:=Aside0.mk ((by rw [hg];exact (by first|exact HK.out.1|exact (show Kept w _ (fun k_=> P0_0_ k_) from by repeat (first|(with_reducible first|exact HK.out|apply Kept.alloc|apply Kept.drewN|apply Kept.drew|refine Kept.setCell ?_ (.inr GW417.out) _)|exact HK.out)).1):w.heap.size ≤ gb418));have n6_:=Aside0.mk ((by rw [hg];exact (below_size (by repeat (first|(with_reducible first|exact HB.out|apply below_alloc|apply pw_below_drewN|apply below_drew1|refine below_set ?_ GE417.out)|exact HB.out))):w0.heap.size ≤ gb418));have n7_:=Aside0.mk ((by rw [hg];exact Nat.ne_of_lt (blk_lt (g:=gb417) (o:= .cells #[.slice Ao8 l0_0.length co8,.int .i64 a0_1,.string a0_2,.int .i64 a0_3] 36 (0,0)) (by (with_reducible repeat (first|apply bN|apply bd|apply bA));exact BK417.out)):gb417 ≠ gb418));have n8_:=Aside0.mk ((by rw [hg];exact Nat.ne_of_gt (blk_lt (g:=gb417) (o:= .cells #[.slice Ao8 l0_0.length co8,.int .i64 a0_1,.string a0_2,.int .i64 a0_3] 36 (0,0)) (by (with_reducible repeat (first|apply bN|apply bd|apply bA));exact BK417.out)):gb418 ≠ gb417));clear HO0_0;clear BK417;clear HK;clear HB;have HO0_0:=n0_;have BK417:=n1_;have HK:=n2_;have HB:=n3_;have BK418:=n4_;have GW418:=n5_;have GE418:=n6_;have NB417_418:=n7_;have NB418_417:=n8_;clear n0_ n1_ n2_ n3_ n4_ n5_ n6_ n7_ n8_;clear hb hbox hg))
        have n0_:=Aside0.mk (Kd.R_drew HO0_0.out)
        have n1_:=Aside0.mk (blk_drew BK417.out)
        have n2_:=Aside0.mk (blk_drew BK418.out)
        have n3_:=Aside0.mk (Kept.drew HK.out)
        have n4_:=Aside0.mk (below_drew1 HB.out)
        clear HO0_0
        clear BK417
        clear BK418
        clear HK
        clear HB
        have HO0_0:=n0_
        have BK417:=n1_
        have BK418:=n2_
        have HK:=n3_
        have HB:=n4_
        clear n0_ n1_ n2_ n3_ n4_
        refine start_ (n:=13) (S:=fun w'=> w'.cell? ⟨gb417,0,none⟩=some (.slice Ao8 l0_0.length co8) ∧ w'.cell? ⟨gb417,1,none⟩=some (.int .i64 a0_1) ∧ w'.cell? ⟨gb417,2,none⟩=some (.string a0_2) ∧ w'.cell? ⟨gb417,3,none⟩=some (.int .i64 a0_3)) (ds:= [12]) #[false,false,false,false,false,false,false,false,false,false,false,false,false] (by kernel_rfl) rfl rfl ⟨(blk_cell BK417.out 0).trans rfl,(blk_cell BK417.out 1).trans rfl,(blk_cell BK417.out 2).trans rfl,(blk_cell BK417.out 3).trans rfl⟩ (fun hHeld=> ?_);refine with_tabW spec_l05Absorb.tab1 spec_l05Absorb.bits1 (fun HT_ HW_=> ?_)
        generalize w10.drew=w11 at HO0_0 BK417 BK418 HK HB hHeld ⊢
        refine pure_ (i:=0) (N:=some 5) (v:=?_) (a':=?_) #[true,false,false,false,false,false,false,false,false,false,false,false,false] rfl rfl (any_of HT_.out (by kernel_rfl)) (fun _ _ _ h=> h) (Or.inl ⟨by rfl,?_⟩) ?_ ?_
        rotate_left
        · intro w'
          go_simp
          with_reducible rfl
        rotate_left
        · simp only [Act.put,List.setIfInBounds_toArray,List.set_cons_zero,List.set_cons_succ,i64_w,i32_w]
          rfl
        refine pure_ (i:=3) (N:=some 8) (v:=?_) (a':=?_) #[true,false,false,true,false,false,false,false,false,false,false,false,false] rfl rfl (any_of HT_.out (by kernel_rfl)) (fun _ _ _ h=> h) (Or.inl ⟨by rfl,?_⟩) ?_ ?_
        rotate_left
        · intro w'
          go_simp
          with_reducible rfl
        rotate_left
        · simp only [Act.put,List.setIfInBounds_toArray,List.set_cons_zero,List.set_cons_succ,i64_w,i32_w]
          rfl
        refine pure_ (i:=4) (N:=some 9) (v:=?_) (a':=?_) #[true,false,false,true,true,false,false,false,false,false,false,false,false] rfl rfl (any_of HT_.out (by kernel_rfl)) (fun _ _ _ h=> h) (Or.inl ⟨by rfl,?_⟩) ?_ ?_
        rotate_left
        · intro w'
          go_simp
          with_reducible rfl
        rotate_left
        · simp only [Act.put,List.setIfInBounds_toArray,List.set_cons_zero,List.set_cons_succ,i64_w,i32_w]
          rfl
        refine pure_ (i:=8) (N:=some 13) (v:=?_) (a':=?_) #[true,false,false,true,true,false,false,false,true,false,false,false,false] rfl rfl (any_of HT_.out (by kernel_rfl)) (fun _ _ _ h=> h) (Or.inl ⟨by rfl,?_⟩) ?_ ?_
        rotate_left
        · intro w'
          go_simp
          with_reducible rfl
        rotate_left
        · simp only [Act.put,List.setIfInBounds_toArray,List.set_cons_zero,List.set_cons_succ,i64_w,i32_w]
          rfl
        refine take_ (i:=1) (N:=some 6) (v:=?_) (a':=?_) #[true,true,false,true,true,false,false,false,true,false,false,false,false] rfl rfl (take_ofW HT_.out HW_.out (by kernel_rfl)) (fun _ _ _ h=> h) (Or.inl ⟨by rfl,?_⟩) hHeld ?_ ?_
        rotate_left
        · rintro w' ⟨s0,s1,s2,s3⟩
          go_simp
          with_reducible rfl
        rotate_left
        · simp only [Act.put,List.setIfInBounds_toArray,List.set_cons_zero,List.set_cons_succ,i64_w,i32_w]
          rfl
        refine pure_ (i:=2) (N:=some 7) (v:=?_) (a':=?_) #[true,true,true,true,true,false,false,false,true,false,false,false,false] rfl rfl (any_of HT_.out (by kernel_rfl)) (fun _ _ _ h=> h) (Or.inl ⟨by rfl,?_⟩) ?_ ?_
        rotate_left
        · intro w'
          go_simp
          with_reducible rfl
        rotate_left
        · simp only [Act.put,List.setIfInBounds_toArray,List.set_cons_zero,List.set_cons_succ,i64_w,i32_w]
          rfl
        refine one_ (i:=5) (N:=some 10) #[true,true,true,true,true,true,false,false,true,false,false,false,false] rfl rfl (one_of HT_.out (by kernel_rfl)) (by decide) (fun K hK=> ?_)
        refine goes_ Try.func148 (by kernel_rfl) rfl #[.int .i64 (a1.size:Int),.int .i64 4] (by rfl) rfl rfl (by (try simp only [List.map_toArray,List.map_cons,List.map_nil]);first|done|rfl|(simp only [List.length_drop,List.length_take];rfl)) ?_
        with_reducible refine (spec_l02Number.calls k (a1.size:Int) 4 t419 _ A4.out).mono ?_
        rintro e w12 ⟨v420,rfl,ho0,hb⟩
        refine ⟨_,rfl,?_⟩
        have n0_:=Aside0.mk (Kd.R_below (by (with_reducible repeat (first|apply Kd.R_alloc|apply Kd.R_drewN|apply Kd.R_drew));exact HO0_0.out) hb)
        have n1_:=Aside0.mk (Kd.R_lower (Kd.R_newM (M:=fun k_=> (P0_0_ k_ ∨ w.heap.size ≤ k_)) ho0 (by first|exact HK.out.1|exact (show Kept w _ (fun k_=> P0_0_ k_) from by repeat (first|(with_reducible first|exact HK.out|apply Kept.alloc|apply Kept.drewN|apply Kept.drew|refine Kept.setCell ?_ (.inr GW417.out) _|refine Kept.setCell ?_ (.inr GW418.out) _)|exact HK.out)).1) (fun k_ h_=> .inr h_)) (below_size (by repeat (first|(with_reducible first|exact HB.out|apply below_alloc|apply pw_below_drewN|apply below_drew1|refine below_set ?_ GE417.out|refine below_set ?_ GE418.out)|exact HB.out))))
        have n2_:=Aside0.mk (blk_below (g:=gb417) (o:= .cells #[.slice Ao8 l0_0.length co8,.int .i64 a0_1,.string a0_2,.int .i64 a0_3] 36 (0,0)) (by (with_reducible repeat (first|apply bN|apply bd|apply bA));exact BK417.out) hb)
        have n3_:=Aside0.mk (blk_below (g:=gb418) (o:= .cells #[.slice none 0 0,.int .i64 0,.string (⟨#[]⟩:ByteArray),.int .i64 0] 36 (0,0)) (by (with_reducible repeat (first|apply bN|apply bd|apply bA));exact BK418.out) hb)
        have n4_:=Aside0.mk (Kept.below (S:=(fun k_=> P0_0_ k_)) (by repeat (first|(with_reducible first|exact HK.out|apply Kept.alloc|apply Kept.drewN|apply Kept.drew|refine Kept.setCell ?_ (.inr GW417.out) _|refine Kept.setCell ?_ (.inr GW418.out) _)|exact HK.out)) hb)
        have n5_:=Aside0.mk (below_step (by repeat (first|(with_reducible first|exact HB.out|apply below_alloc|apply pw_below_drewN|apply below_drew1|refine below_set ?_ GE417.out|refine below_set ?_ GE418.out)|exact HB.out)) hb)
        clear HO0_0
        clear BK417
        clear BK418
        clear HK
        clear HB
        have HO0_0:=n0_
        have HO421:=n1_
        have BK417:=n2_
        have BK418:=n3_
        have HK:=n4_
        have HB:=n5_
        clear n0_ n1_ n2_ n3_ n4_ n5_
        (try clear hb)
        (try clear hb2)
        (try clear hk)
        (try clear hi)
        (try clear ho0)
        refine hK.out _ _ ⟨(blk_cell BK417.out 0).trans rfl,(blk_cell BK417.out 1).trans rfl,(blk_cell BK417.out 2).trans rfl,(blk_cell BK417.out 3).trans rfl⟩ (fun hHeld=> ?_)
        clear hK K
        refine norm_ (a':=?_) ?_ ?_
        rotate_left
        · show Act.put _ (some 10) _=_
          simp only [Act.put,List.setIfInBounds_toArray,List.set_cons_zero,List.set_cons_succ,i64_w,i32_w]
          rfl
        refine one_ (i:=6) (N:=some 11) #[true,true,true,true,true,true,true,false,true,false,false,false,false] rfl rfl (one_of HT_.out (by kernel_rfl)) (by decide) (fun K hK=> ?_)
        have hcv13:=own_string (P:=Try.prog) Try.underlying25 Try.underlying5 Try.underlying9 (Kd.own_of_R HO421.out)
        refine value_ (w1:=?_) (v:=?_) (by rfl) rfl ?_ ?_
        rotate_left 2
        · go_simp
          constructor
          · rfl
          · rfl
        clear hcv13
        refine hK.out _ _ ⟨(blk_cell BK417.out 0).trans rfl,(blk_cell BK417.out 1).trans rfl,(blk_cell BK417.out 2).trans rfl,(blk_cell BK417.out 3).trans rfl⟩ (fun hHeld=> ?_)
        clear hK K
        refine norm_ (a':=?_) ?_ ?_
        rotate_left
        · show Act.put _ (some 11) _=_
          simp only [Act.put,List.setIfInBounds_toArray,List.set_cons_zero,List.set_cons_succ,i64_w,i32_w]
          rfl
        refine pure_ (i:=7) (N:=some 12) (v:=?_) (a':=?_) #[true,true,true,true,true,true,true,true,true,false,false,false,false] rfl rfl (any_of HT_.out (by kernel_rfl)) (fun _ _ _ h=> h) (Or.inl ⟨by rfl,?_⟩) ?_ ?_
        rotate_left
        · intro w'
          go_simp
          with_reducible rfl
        rotate_left
        · simp only [Act.put,List.setIfInBounds_toArray,List.set_cons_zero,List.set_cons_succ,i64_w,i32_w]
          rfl
        refine pure_ (i:=9) (N:=some 14) (v:=?_) (a':=?_) #[true,true,true,true,true,true,true,true,true,true,false,false,false] rfl rfl (any_of HT_.out (by kernel_rfl)) (fun _ _ _ h=> h) (Or.inl ⟨by rfl,?_⟩) ?_ ?_
        rotate_left
        · intro w'
          go_simp
          with_reducible rfl
        rotate_left
        · simp only [Act.put,List.setIfInBounds_toArray,List.set_cons_zero,List.set_cons_succ,i64_w,i32_w]
          rfl
        refine one_ (i:=10) (N:=some 15) #[true,true,true,true,true,true,true,true,true,true,true,false,false] rfl rfl (one_of HT_.out (by kernel_rfl)) (by decide) (fun K hK=> ?_)
        refine goes_ Try.func87 (by kernel_rfl) rfl #[.string (((a0_2 ++ (⟨#[97,98,115,111,114,98]⟩:ByteArray)) ++ (strOfNums t419)) ++ a1)] (by rfl) rfl rfl (by (try simp only [List.map_toArray,List.map_cons,List.map_nil]);first|done|rfl|(simp only [List.length_drop,List.length_take];rfl)) ?_
        with_reducible refine (spec_l03Hash.calls (((a0_2 ++ (⟨#[97,98,115,111,114,98]⟩:ByteArray)) ++ (strOfNums t419)) ++ a1) t422 _ A7.out).mono ?_
        rintro e w14 ⟨rfl,hb⟩
        refine ⟨_,rfl,?_⟩
        have n0_:=Aside0.mk (Kd.R_below (by (with_reducible repeat (first|apply Kd.R_alloc|apply Kd.R_drewN|apply Kd.R_drew));exact HO0_0.out) hb)
        have n1_:=Aside0.mk (Kd.R_below (by (with_reducible repeat (first|apply Kd.R_alloc|apply Kd.R_drewN|apply Kd.R_drew));exact HO421.out) hb)
        have n2_:=Aside0.mk (blk_below (g:=gb417) (o:= .cells #[.slice Ao8 l0_0.length co8,.int .i64 a0_1,.string a0_2,.int .i64 a0_3] 36 (0,0)) (by (with_reducible repeat (first|apply bN|apply bd|apply bA));exact BK417.out) hb)
        have n3_:=Aside0.mk (blk_below (g:=gb418) (o:= .cells #[.slice none 0 0,.int .i64 0,.string (⟨#[]⟩:ByteArray),.int .i64 0] 36 (0,0)) (by (with_reducible repeat (first|apply bN|apply bd|apply bA));exact BK418.out) hb)
        have n4_:=Aside0.mk (Kept.below (S:=(fun k_=> P0_0_ k_)) (by repeat (first|(with_reducible first|exact HK.out|apply Kept.alloc|apply Kept.drewN|apply Kept.drew|refine Kept.setCell ?_ (.inr GW417.out) _|refine Kept.setCell ?_ (.inr GW418.out) _)|exact HK.out)) hb)
        have n5_:=Aside0.mk (below_step (by repeat (first|(with_reducible first|exact HB.out|apply below_alloc|apply pw_below_drewN|apply below_drew1|refine below_set ?_ GE417.out|refine below_set ?_ GE418.out)|exact HB.out)) hb)
        clear HO0_0
        clear HO421
        clear BK417
        clear BK418
        clear HK
        clear HB
        have HO0_0:=n0_
        have HO421:=n1_
        have BK417:=n2_
        have BK418:=n3_
        have HK:=n4_
        have HB:=n5_
        clear n0_ n1_ n2_ n3_ n4_ n5_
        (try clear hb)
        (try clear hb2)
        (try clear hk)
        (try clear hi)
        refine hK.out _ _ ⟨(blk_cell BK417.out 0).trans rfl,(blk_cell BK417.out 1).trans rfl,(blk_cell BK417.out 2).trans rfl,(blk_cell BK417.out 3).trans rfl⟩ (fun hHeld=> ?_)
        clear hK K
        refine norm_ (a':=?_) ?_ ?_
        rotate_left
        · show Act.put _ (some 15) _=_
          simp only [Act.put,List.setIfInBounds_toArray,List.set_cons_zero,List.set_cons_succ,i64_w,i32_w]
          rfl
        refine pure_ (i:=11) (N:=some 16) (v:=?_) (a':=?_) #[true,true,true,true,true,true,true,true,true,true,true,true,false] rfl rfl (any_of HT_.out (by kernel_rfl)) (fun _ _ _ h=> h) (Or.inl ⟨by rfl,?_⟩) ?_ ?_
        rotate_left
        · intro w'
          go_simp
          with_reducible rfl
        rotate_left
        · simp only [Act.put,List.setIfInBounds_toArray,List.set_cons_zero,List.set_cons_succ,i64_w,i32_w]
          rfl
        refine last_ (i:=12) (N:=none) #[true,true,true,true,true,true,true,true,true,true,true,true,true] rfl rfl (one_of HT_.out (by kernel_rfl)) (by decide) (fun K hK=> ?_)
        have hs15:w14.cell? ⟨gb417,2,none⟩=some (.string a0_2):=(blk_cell BK417.out 2).trans rfl
        have hfs15:=blk_frozen BK417.out 2
        have hns15_1:=NB418_417.out
        have hms15_1:=NB417_418.out
        refine skip_ (w1:=?_) (by rfl) rfl ?_ ?_
        rotate_left
        · go_simp
          rfl
        refine hK.out _ _ ?_
        clear hK K
        refine done_ (done_of HT_.out (by kernel_rfl)) ?_
        have hnb16:=NB417_418.out
        have hnc16:=NB418_417.out
        have hcz17_0:w14.cell? ⟨gb417,0,none⟩=some (.slice Ao8 l0_0.length co8):=(blk_cell BK417.out 0).trans rfl
        have hcz17_1:w14.cell? ⟨gb417,1,none⟩=some (.int .i64 a0_1):=(blk_cell BK417.out 1).trans rfl
        have hcz17_2:w14.cell? ⟨gb417,2,none⟩=some (.string a0_2):=(blk_cell BK417.out 2).trans rfl
        have hcz17_3:w14.cell? ⟨gb417,3,none⟩=some (.int .i64 a0_3):=(blk_cell BK417.out 3).trans rfl
        have hfz17_0:=blk_frozen BK417.out 0
        have hfz17_1:=blk_frozen BK417.out 1
        have hfz17_2:=blk_frozen BK417.out 2
        have hfz17_3:=blk_frozen BK417.out 3
        have hcz18_0:w14.cell? ⟨gb418,0,none⟩=some (.slice none 0 0):=(blk_cell BK418.out 0).trans rfl
        have hcz18_1:w14.cell? ⟨gb418,1,none⟩=some (.int .i64 0):=(blk_cell BK418.out 1).trans rfl
        have hcz18_2:w14.cell? ⟨gb418,2,none⟩=some (.string (⟨#[]⟩:ByteArray)):=(blk_cell BK418.out 2).trans rfl
        have hcz18_3:w14.cell? ⟨gb418,3,none⟩=some (.int .i64 0):=(blk_cell BK418.out 3).trans rfl
        have hfz18_0:=blk_frozen BK418.out 0
        have hfz18_1:=blk_frozen BK418.out 1
        have hfz18_2:=blk_frozen BK418.out 2
        have hfz18_3:=blk_frozen BK418.out 3
        try go_wp2
        refine bodyPost_ret (results_cell_row rfl _ _ gb418 36 #[.slice Ao8 l0_0.length co8,.int .i64 a0_1,.string t422,.int .i64 0] (0,0) _ rfl (by (with_reducible repeat (first|apply bN|apply bd|apply bA));refine blk_put (cs:= #[.slice Ao8 l0_0.length co8,.int .i64 a0_1,.string t422,.int .i64 0]) ?_ 3 _ rfl;(with_reducible repeat (first|apply bN|apply bd|apply bA));refine blk_put (cs:= #[.slice Ao8 l0_0.length co8,.int .i64 a0_1,.string (⟨#[]⟩:ByteArray),.int .i64 0]) ?_ 2 _ rfl;(with_reducible repeat (first|apply bN|apply bd|apply bA));refine blk_put (cs:= #[.slice Ao8 l0_0.length co8,.int .i64 0,.string (⟨#[]⟩:ByteArray),.int .i64 0]) ?_ 1 _ rfl;(with_reducible repeat (first|apply bN|apply bd|apply bA));refine blk_put (cs:= #[.slice none 0 0,.int .i64 0,.string (⟨#[]⟩:ByteArray),.int .i64 0]) ?_ 0 _ rfl;(with_reducible repeat (first|apply bN|apply bd|apply bA));refine blk_far ?_ NB418_417.out _;(with_reducible repeat (first|apply bN|apply bd|apply bA));refine blk_far ?_ NB418_417.out _;(with_reducible repeat (first|apply bN|apply bd|apply bA));exact BK418.out) Try.underlying36 rfl (by kernel_rfl)) rfl ?_
        exact ⟨_,by first|rfl|(simp [errW_none,errW_some] <;> rfl)|(simp [*,errW_none,errW_some] <;> rfl),by (with_reducible repeat (first|apply Kd.R_alloc|apply Kd.R_drewN|apply Kd.R_drew));exact Kd.R_mono (Kd.R_far (p:=⟨gb418,3,none⟩) (Kd.R_far (p:=⟨gb418,2,none⟩) (Kd.R_far (p:=⟨gb418,1,none⟩) (Kd.R_far (p:=⟨gb418,0,none⟩) (Kd.R_far (p:=⟨gb417,3,none⟩) (Kd.R_far (p:=⟨gb417,2,none⟩) (Kd.R_types (Kd.R_types HO0_0.out BK417.out (by decide)) BK418.out (by decide)) (fun _ hk=> hk.1.2) (.string t422)) (fun _ hk=> hk.1.2) (.int .i64 0)) (fun _ hk=> hk.2) (.slice Ao8 l0_0.length co8)) (fun _ hk=> hk.2) (.int .i64 a0_1)) (fun _ hk=> hk.2) (.string t422)) (fun _ hk=> hk.2) (.int .i64 0)) (fun _ hk=> hk.1.1),by repeat (first|(with_reducible first|exact HB.out|apply below_alloc|apply pw_below_drewN|apply below_drew1|refine below_set ?_ GE417.out|refine below_set ?_ GE418.out)|exact HB.out),by repeat (first|(with_reducible first|exact HK.out|apply Kept.alloc|apply Kept.drewN|apply Kept.drew|refine Kept.setCell ?_ (.inr GW417.out) _|refine Kept.setCell ?_ (.inr GW418.out) _)|exact HK.out)⟩
      · rw [if_neg c6] at H
        exact absurd H (by simp)
    · rw [if_neg c5] at H
      exact absurd H (by simp)
  · rw [if_neg c3] at H
    exact absurd H (by simp)
def spec_l05Some.l0:Nat → Int → List (S79) → Int → List (S79) → Int → ByteArray → Int → Option ((List (S79)) × Int × ByteArray × Int × (List (S79)))
  |0,_,_,_,_,_,_,_=> none
  |k + 1,x1,x6,x7,x761000,x761001,x761002,x761003=> if x7 < x1 then ((spec_l05Draw.f k x761000 x761001 x761002 x761003).bind fun bt765=> (if x6.length < 8796093022208 then (spec_l05Some.l0 k x1 (x6 ++ [(⟨bt765.2.2.2.2.1,bt765.2.2.2.2.2⟩:S79)]) (wrap64 (x7 + 1)) bt765.1 bt765.2.1 bt765.2.2.1 bt765.2.2.2.1) else (none))) else (some (x761000,x761001,x761002,x761003,x6))
def spec_l05Some.f (k:Nat) (l0_0:List (S79)) (a0_1:Int) (a0_2:ByteArray) (a0_3:Int) (a1:Int):Option ((List (S79)) × Int × ByteArray × Int × (List (S79))):=spec_l05Some.l0 k a1 (([]:List (S79))) 0 l0_0 a0_1 a0_2 a0_3
theorem spec_l05Some.mono_l:∀ k,(∀ y0 y1 y2 y3 y4 y5 y6,LeO (spec_l05Some.l0 k y0 y1 y2 y3 y4 y5 y6) (spec_l05Some.l0 (k + 1) y0 y1 y2 y3 y4 y5 y6))
  |0=> fun _ _ _ _ _ _ _ r h=> by simp [spec_l05Some.l0] at h
  |k + 1=> by
    have ih0:=spec_l05Some.mono_l k
    · intro y0 y1 y2 y3 y4 y5 y6
      unfold spec_l05Some.l0
      repeat' first
      |(with_reducible exact ih0 _ _ _ _ _ _ _)
      |(with_reducible exact spec_l05Draw.mono _ _ _ _ _)
      |(with_reducible exact LeO.refl _)
      |(with_reducible exact LeO.none _)
      |(with_reducible refine LeO.ite ?_ ?_)
      |(with_reducible refine LeO.bind ?_ (fun _=> ?_))
      |exact ih0 _ _ _ _ _ _ _
      |exact spec_l05Draw.mono _ _ _ _ _
      |exact LeO.none _
      |refine LeO.ite ?_ ?_
      |refine LeO.bind ?_ (fun _=> ?_)
theorem spec_l05Some.mono:∀ a0 a1 a2 a3 a4 k,LeO (spec_l05Some.f k a0 a1 a2 a3 a4) (spec_l05Some.f (k + 1) a0 a1 a2 a3 a4):=by
  intro a0 a1 a2 a3 a4 k
  have ih0:=spec_l05Some.mono_l k
  unfold spec_l05Some.f
  repeat' first
      |(with_reducible exact ih0 _ _ _ _ _ _ _)
      |(with_reducible exact spec_l05Draw.mono _ _ _ _ _)
      |(with_reducible exact LeO.refl _)
      |(with_reducible exact LeO.none _)
      |(with_reducible refine LeO.ite ?_ ?_)
      |(with_reducible refine LeO.bind ?_ (fun _=> ?_))
      |exact ih0 _ _ _ _ _ _ _
      |exact spec_l05Draw.mono _ _ _ _ _
      |exact LeO.none _
      |refine LeO.ite ?_ ?_
      |refine LeO.bind ?_ (fun _=> ?_)
set_option maxHeartbeats 8000000 in
set_option maxRecDepth 100000 in
theorem spec_l05Some.calls (k:Nat) (P0_0_:Nat → Prop) (u9000_:Value) (l0_0:List (S79)) (a0_1:Int) (a0_2:ByteArray) (a0_3:Int) (a1:Int) (r1:List (S79)) (r2:Int) (r3:ByteArray) (r4:Int) (r5:List (S79)) (w0 w:World) (hB:Below w0.heap.size w0 w) (ho0_0:Kd.R k79 79 w w0.heap.size P0_0_ u9000_ l0_0) (h:spec_l05Some.f k l0_0 a0_1 a0_2 a0_3 a1=some (r1,r2,r3,r4,r5)):
    Calls Try.prog 133 #[.agg #[u9000_,.int .i64 a0_1,.string a0_2,.int .i64 a0_3],.int .i64 a1] w fun e w'=> ∃ v0_ v4_:Value,e= .returned (.tuple #[.agg #[v0_,.int .i64 r2,.string r3,.int .i64 r4],v4_]) ∧ Kd.R k79 79 w' w0.heap.size (fun k_=> (P0_0_ k_ ∨ w.heap.size ≤ k_) ∧ some k_ ≠ (v4_:Value).ownBlock) v0_ r1 ∧ Kd.R k79 79 w' w0.heap.size (fun k_=> (P0_0_ k_ ∨ w.heap.size ≤ k_) ∧ some k_ ≠ (v0_:Value).ownBlock) v4_ r5 ∧ Below w0.heap.size w0 w' ∧ Kept w w' (fun k_=> P0_0_ k_):=by
  have hu36:=Try.underlying36
  have hu79:=Try.underlying79
  have HO0_0:=Aside0.mk (show Kd.R k79 79 w w0.heap.size (fun k_=> (P0_0_ k_ ∨ w.heap.size ≤ k_)) u9000_ l0_0 from Kd.R_mono ho0_0 (fun k_ hk=> (.inl hk)))
  have HK:=Aside0.mk (Kept.refl w (fun k_=> P0_0_ k_))
  have HW0:=Aside0.mk hB.size
  have HB:=Aside0.mk hB
  clear hB
  have H:(spec_l05Some.l0 k a1 (([]:List (S79))) 0 l0_0 a0_1 a0_2 a0_3)=some (r1,r2,r3,r4,r5):=h
  clear h
  obtain ⟨y762,hy762⟩:∃ y_:List (S79),y_=(([]:List (S79))):=⟨_,rfl⟩
  replace H:(spec_l05Some.l0 k a1 y762 0 l0_0 a0_1 a0_2 a0_3)=some (r1,r2,r3,r4,r5):=by first|(rw [hy762];with_reducible exact H)|(have H2_:=(Option.bind_some _ _).symm.trans H;rw [hy762];with_reducible exact H2_)|(have H2_:=(Option.bind_some _ _).symm.trans H;with_reducible exact H2_)|with_reducible exact H|(rw [hy762];exact H)|exact H
  have Ny762:=Aside0.mk hy762
  clear hy762
  have H':=Aside0.mk H
  clear H
  obtain ⟨Ao3,co3,eo3⟩:=Kd.R_slice HO0_0.out
  subst eo3
  go_enter Try.func133,Try.ntmps133
  go_wp2_with (first|((with_reducible refine gate_dst (N:=2) rfl ?_);refine box_event ?hg (N:=2) ?hd (cs:= #[.slice Ao3 l0_0.length co3,.int .i64 a0_1,.string a0_2,.int .i64 a0_3]) (t:=36) ?hr ?_;(case hd=> rfl);(case hg=> rfl);(case hr=> first|(go_simp;done)|(go_simp;rfl));intro gb760 hg w4 hbox hb;have n0_:=Aside0.mk (Kd.R_below (by (with_reducible repeat (first|apply Kd.R_alloc|apply Kd.R_drewN|apply Kd.R_drew));exact HO0_0.out) hb);have n1_:=Aside0.mk (Kept.below (S:=(fun k_=> P0_0_ k_)) (by repeat (first|(with_reducible first|exact HK.out|apply Kept.alloc|apply Kept.drewN|apply Kept.drew)|exact HK.out)) hb);have n2_:=Aside0.mk (below_step (by repeat (first|(with_reducible first|exact HB.out|apply below_alloc|apply pw_below_drewN|apply below_drew1)|exact HB.out)) hb);have n3_:=Aside0.mk (hbox);have n4_:=Aside0.mk ((by rw [hg];exact (by first|exact HK.out.1|exact (show Kept w _ (fun k_=> P0_0_ k_) from by repeat (first|(with_reducible first|exact HK.out|apply Kept.alloc|apply Kept.drewN|apply Kept.drew)|exact HK.out)).1):w.heap.size ≤ gb760));have n5_:=Aside0.mk ((by rw [hg];exact (below_size (by repeat (first|(with_reducible first|exact HB.out|apply below_alloc|apply pw_below_drewN|apply below_drew1)|exact HB.out))):w0.heap.size ≤ gb760));clear HO0_0;clear HK;clear HB;have HO0_0:=n0_;have HK:=n1_;have HB:=n2_;have BK760:=n3_;have GW760:=n4_;have GE760:=n5_;clear n0_ n1_ n2_ n3_ n4_ n5_;clear hb hbox hg)|((with_reducible refine gate_dst (N:=4) rfl ?_);refine box_event ?hg (N:=4) ?hd (cs:= #[.slice none 0 0,.int .i64 0,.string (⟨#[]⟩:ByteArray),.int .i64 0]) (t:=36) ?hr ?_;(case hd=> rfl);(case hg=> rfl);(case hr=> first|(go_simp;done)|(go_simp;rfl));intro gb761 hg w5 hbox hb;have n0_:=Aside0.mk (Kd.R_below (by (with_reducible repeat (first|apply Kd.R_alloc|apply Kd.R_drewN|apply Kd.R_drew));exact HO0_0.out) hb);have n1_:=Aside0.mk (blk_below (g:=gb760) (o:= .cells #[.slice Ao3 l0_0.length co3,.int .i64 a0_1,.string a0_2,.int .i64 a0_3] 36 (0,0)) (by (with_reducible repeat (first|apply bN|apply bd|apply bA));exact BK760.out) hb);have n2_:=Aside0.mk (Kept.below (S:=(fun k_=> P0_0_ k_)) (by repeat (first|(with_reducible first|exact HK.out|apply Kept.alloc|apply Kept.drewN|apply Kept.drew|refine Kept.setCell ?_ (.inr GW760.out) _)|exact HK.out)) hb);have n3_:=Aside0.mk (below_step (by repeat (first|(with_reducible first|exact HB.out|apply below_alloc|apply pw_below_drewN|apply below_drew1|refine below_set ?_ GE760.out)|exact HB.out)) hb);have n4_:=Aside0.mk (hbox);have n5_:=Aside0.mk ((by rw [hg];exact (by first|exact HK.out.1|exact (show Kept w _ (fun k_=> P0_0_ k_) from by repeat (first|(with_reducible first|exact HK.out|apply Kept.alloc|apply Kept.drewN|apply Kept.drew|refine Kept.setCell ?_ (.inr GW760.out) _)|exact HK.out)).1):w.heap.size ≤ gb761));have n6_:=Aside0.mk ((by rw [hg];exact (below_size (by repeat (first|(with_reducible first|exact HB.out|apply below_alloc|apply pw_below_drewN|apply below_drew1|refine below_set ?_ GE760.out)|exact HB.out))):w0.heap.size ≤ gb761));have n7_:=Aside0.mk ((by rw [hg];exact Nat.ne_of_lt (blk_lt (g:=gb760) (o:= .cells #[.slice Ao3 l0_0.length co3,.int .i64 a0_1,.string a0_2,.int .i64 a0_3] 36 (0,0)) (by (with_reducible repeat (first|apply bN|apply bd|apply bA));exact BK760.out)):gb760 ≠ gb761));have n8_:=Aside0.mk ((by rw [hg];exact Nat.ne_of_gt (blk_lt (g:=gb760) (o:= .cells #[.slice Ao3 l0_0.length co3,.int .i64 a0_1,.string a0_2,.int .i64 a0_3] 36 (0,0)) (by (with_reducible repeat (first|apply bN|apply bd|apply bA));exact BK760.out)):gb761 ≠ gb760));clear HO0_0;clear BK760;clear HK;clear HB;have HO0_0:=n0_;have BK760:=n1_;have HK:=n2_;have HB:=n3_;have BK761:=n4_;have GW761:=n5_;have GE761:=n6_;have NB760_761:=n7_;have NB761_760:=n8_;clear n0_ n1_ n2_ n3_ n4_ n5_ n6_ n7_ n8_;clear hb hbox hg)|((with_reducible refine gate_dst (N:=10) rfl ?_);refine Kd.R_lit k79 _ 79 ?hg (N:=10) ?hd (xs:=([]:List (S79))) (inner:= []) (ok:=fun _=> True) (okp:=fun _=> True) ?hr ?hp (fun _ hk=> hk) trivial (Below.refl _ _) (Nat.le_refl _) (by simp) ?_;(case hd=> rfl);(case hg=> rfl);(case hr=> first|(go_simp;done)|(go_simp;rfl));(case hp=> exact (Reps.none _ _));intro v763 w6 ho7 hb hg_ hnew_;clear hg_ hnew_;(first|rw [← Ny762.out] at ho7|(simp only [Int.reduceToNat] at ho7;rw [← Ny762.out] at ho7));have n0_:=Aside0.mk (Kd.R_elder' (by (with_reducible repeat (first|apply Kd.R_alloc|apply Kd.R_drewN|apply Kd.R_drew));exact HO0_0.out) (Kd.R_base ho7) hb);have n1_:=Aside0.mk (Kd.R_lower (Kd.R_new' (Kd.R_newM (M:=fun k_=> (P0_0_ k_ ∨ w.heap.size ≤ k_)) ho7 (by first|exact HK.out.1|exact (show Kept w _ (fun k_=> P0_0_ k_) from by repeat (first|(with_reducible first|exact HK.out|apply Kept.alloc|apply Kept.drewN|apply Kept.drew|refine Kept.setCell ?_ (.inr GW760.out) _|refine Kept.setCell ?_ (.inr GW761.out) _)|exact HK.out)).1) (fun k_ h_=> .inr h_)) (Kd.R_lt (by (with_reducible repeat (first|apply Kd.R_alloc|apply Kd.R_drewN|apply Kd.R_drew));exact HO0_0.out))) (below_size (by repeat (first|(with_reducible first|exact HB.out|apply below_alloc|apply pw_below_drewN|apply below_drew1|refine below_set ?_ GE760.out|refine below_set ?_ GE761.out)|exact HB.out))));have n2_:=Aside0.mk (blk_below (g:=gb760) (o:= .cells #[.slice Ao3 l0_0.length co3,.int .i64 a0_1,.string a0_2,.int .i64 a0_3] 36 (0,0)) (by (with_reducible repeat (first|apply bN|apply bd|apply bA));exact BK760.out) hb);have n3_:=Aside0.mk (blk_below (g:=gb761) (o:= .cells #[.slice none 0 0,.int .i64 0,.string (⟨#[]⟩:ByteArray),.int .i64 0] 36 (0,0)) (by (with_reducible repeat (first|apply bN|apply bd|apply bA));exact BK761.out) hb);have n4_:=Aside0.mk (Kept.below (S:=(fun k_=> P0_0_ k_)) (by repeat (first|(with_reducible first|exact HK.out|apply Kept.alloc|apply Kept.drewN|apply Kept.drew|refine Kept.setCell ?_ (.inr GW760.out) _|refine Kept.setCell ?_ (.inr GW761.out) _)|exact HK.out)) hb);have n5_:=Aside0.mk (below_step (by repeat (first|(with_reducible first|exact HB.out|apply below_alloc|apply pw_below_drewN|apply below_drew1|refine below_set ?_ GE760.out|refine below_set ?_ GE761.out)|exact HB.out)) hb);clear HO0_0;clear BK760;clear BK761;clear HK;clear HB;have HO0_0:=n0_;have HO764:=n1_;have BK760:=n2_;have BK761:=n3_;have HK:=n4_;have HB:=n5_;clear n0_ n1_ n2_ n3_ n4_ n5_;clear hb ho7))
  go_loopg [6,7] k (fun kq v6 v7 w'=> ∃ (x6_1:List (S79)) (x7_1:Int) (x761000_1:List (S79)) (x761001_1:Int) (x761002_1:ByteArray) (x761003_1:Int) (u761000:Value),v7= .int .i64 x7_1 ∧ Aside0 (spec_l05Some.l0 kq a1 x6_1 x7_1 x761000_1 x761001_1 x761002_1 x761003_1=some (r1,r2,r3,r4,r5)) ∧ Aside0 (kq ≤ k) ∧ Aside0 (Kd.R k79 79 w' w0.heap.size (fun k_=> (P0_0_ k_ ∨ w.heap.size ≤ k_) ∧ some k_ ≠ (u761000:Value).ownBlock) v6 x6_1) ∧ Aside0 (Kd.R k79 79 w' w0.heap.size (fun k_=> (P0_0_ k_ ∨ w.heap.size ≤ k_) ∧ some k_ ≠ (v6:Value).ownBlock) u761000 x761000_1) ∧ Aside0 (w'.heap[gb760]?=some (.cells #[u761000,.int .i64 x761001_1,.string x761002_1,.int .i64 x761003_1] 36 (0,0))) ∧ Aside0 (w'.heap[gb761]?=some (.cells #[(.slice none 0 0),.int .i64 0,.string (⟨#[]⟩:ByteArray),.int .i64 0] 36 (0,0))) ∧ Aside0 (Kept w w' (fun k_=> P0_0_ k_)) ∧ Aside0 (Below w0.heap.size w0 w'))
  case atStart=> exact ⟨(y762),(0),(l0_0),(a0_1),(a0_2),(a0_3),(.slice Ao3 l0_0.length co3),(by first|rfl|(simp;done)|(simp [*];done)),H',⟨Nat.le_refl _⟩,⟨by (with_reducible repeat (first|apply Kd.R_alloc|apply Kd.R_drewN|apply Kd.R_drew));exact Kd.R_mono HO764.out (fun _ hk=> ⟨hk.1.1,hk.2⟩)⟩,⟨by (with_reducible repeat (first|apply Kd.R_alloc|apply Kd.R_drewN|apply Kd.R_drew));exact HO0_0.out⟩,⟨by (with_reducible repeat (first|apply bN|apply bd|apply bA));exact BK760.out⟩,⟨by (with_reducible repeat (first|apply bN|apply bd|apply bA));exact BK761.out⟩,⟨by repeat (first|(with_reducible first|exact HK.out|apply Kept.alloc|apply Kept.drewN|apply Kept.drew|refine Kept.setCell ?_ (.inr GW760.out) _|refine Kept.setCell ?_ (.inr GW761.out) _)|exact HK.out)⟩,⟨by repeat (first|(with_reducible first|exact HB.out|apply below_alloc|apply pw_below_drewN|apply below_drew1|refine below_set ?_ GE760.out|refine below_set ?_ GE761.out)|exact HB.out)⟩⟩
  case round=>
    clear H'
    try clear c1
    try clear p2
    obtain ⟨x6_1,x7_1,x761000_1,x761001_1,x761002_1,x761003_1,u761000,rfl,HA,HK1,HO_6,HO_761000,BK760,BK761,HK,HB⟩:=hrel
    cases gk with
    |zero=> exact absurd HA.out (by simp [spec_l05Some.l0])
    |succ k1=>
      have H:=HA.out
      clear HA
      simp only [spec_l05Some.l0] at H
      by_cases c8:x7_1 < a1
      · rw [if_pos c8] at H
        have c8b0:decide (x7_1 < a1)=true:=decide_eq_true c8
        clear c8
        replace H:=Option.bind_eq_some_iff.mp H
        obtain ⟨⟨t765,t768,t769,t770,t771,t772⟩,A90,H⟩:=H
        replace H:(if x6_1.length < 8796093022208 then (spec_l05Some.l0 k1 a1 (x6_1 ++ [(⟨t771,t772⟩:S79)]) (wrap64 (x7_1 + 1)) t765 t768 t769 t770) else (none))=some (r1,r2,r3,r4,r5):=H
        have A9:=Aside0.mk A90
        clear A90
        by_cases c10:x6_1.length < 8796093022208
        · rw [if_pos c10] at H
          have LMc10:=Aside0.mk c10
          clear c10
          obtain ⟨y775,hy775⟩:∃ y_:List (S79),y_=(x6_1 ++ [(⟨t771,t772⟩:S79)]):=⟨_,rfl⟩
          replace H:(spec_l05Some.l0 k1 a1 y775 (wrap64 (x7_1 + 1)) t765 t768 t769 t770)=some (r1,r2,r3,r4,r5):=by first|(rw [hy775];with_reducible exact H)|(have H2_:=(Option.bind_some _ _).symm.trans H;rw [hy775];with_reducible exact H2_)|(have H2_:=(Option.bind_some _ _).symm.trans H;with_reducible exact H2_)|with_reducible exact H|(rw [hy775];exact H)|exact H
          have Ny775:=Aside0.mk hy775
          clear hy775
          have H':=Aside0.mk H
          clear H
          have hnb11:=NB760_761.out
          have hnc11:=NB761_760.out
          have hcz12_0:wr.cell? ⟨gb760,0,none⟩=some (u761000):=(blk_cell BK760.out 0).trans rfl
          have hcz12_1:wr.cell? ⟨gb760,1,none⟩=some (.int .i64 x761001_1):=(blk_cell BK760.out 1).trans rfl
          have hcz12_2:wr.cell? ⟨gb760,2,none⟩=some (.string x761002_1):=(blk_cell BK760.out 2).trans rfl
          have hcz12_3:wr.cell? ⟨gb760,3,none⟩=some (.int .i64 x761003_1):=(blk_cell BK760.out 3).trans rfl
          have hfz12_0:=blk_frozen BK760.out 0
          have hfz12_1:=blk_frozen BK760.out 1
          have hfz12_2:=blk_frozen BK760.out 2
          have hfz12_3:=blk_frozen BK760.out 3
          obtain ⟨Ao13,co13,eo13⟩:=Kd.R_slice HO_761000.out
          subst eo13
          go_wp2_with (first|((with_reducible refine gate_callee (f:=132) rfl ?_);refine goesL_ (some 18) rfl rfl Try.func132 (by kernel_rfl) rfl #[.agg #[.slice Ao13 x761000_1.length co13,.int .i64 x761001_1,.string x761002_1,.int .i64 x761003_1]] rfl (by (try simp only [List.map_toArray,List.map_cons,List.map_nil]);first|done|rfl|(simp only [List.length_drop,List.length_take];rfl)) ?_;(with_reducible refine (spec_l05Draw.calls k1 (fun k_=> some k_=(.slice Ao13 x761000_1.length co13:Value).ownBlock) (.slice Ao13 x761000_1.length co13) x761000_1 x761001_1 x761002_1 x761003_1 t765 t768 t769 t770 t771 t772 w0 _ ?side1 ?side2 A9.out).mono ?_);(case side1=> repeat (first|(with_reducible first|exact HB.out|apply below_alloc|apply pw_below_drewN|apply below_drew1|refine below_set ?_ GE760.out|refine below_set ?_ GE761.out)|exact HB.out));(case side2=> exact Kd.R_tight rfl HO_761000.out);rintro e w14 ⟨v766,rfl,ho0,hb,hkp⟩;refine ⟨_,rfl,?_⟩;have n0_:=Aside0.mk (Kd.R_mono (ok':=fun k_=> (P0_0_ k_ ∨ w.heap.size ≤ k_) ∧ some k_ ≠ (v766:Value).ownBlock) (Kd.R_keptB (HO_6.out) hkp (fun k_ hk_ hs_=> (hk_.2) hs_)) (fun k_ hk_=> ⟨hk_.1.1,fun e_=> Or.elim (ho0.1 k_ e_.symm) (fun hs_=> hk_.2.1 hs_) (fun hn_=> Nat.not_le.2 hk_.2.2 hn_)⟩));have n1_:=Aside0.mk (blk_kept (by (with_reducible repeat (first|apply bN|apply bd|apply bA));exact BK760.out) hkp (fun hs_=> (fun e_=> (Kd.R_ne HO_761000.out BK760.out (by decide)) e_) hs_));have n2_:=Aside0.mk (blk_kept (by (with_reducible repeat (first|apply bN|apply bd|apply bA));exact BK761.out) hkp (fun hs_=> (fun e_=> (Kd.R_ne HO_761000.out BK761.out (by decide)) e_) hs_));have n3_:=Aside0.mk (Kd.R_mono (ok':=fun k_=> (P0_0_ k_ ∨ w.heap.size ≤ k_) ∧ some k_ ≠ (u6:Value).ownBlock) ho0 (fun k_ hk_=> ⟨Or.elim hk_ (fun hs_=> (HO_761000.out.1 k_ (hs_).symm).1) (fun hn_=> (.inr (Nat.le_trans (by first|exact HK.out.1|exact (show Kept w _ (fun k_=> P0_0_ k_) from by repeat (first|(with_reducible first|exact HK.out|apply Kept.alloc|apply Kept.drewN|apply Kept.drew|refine Kept.setCell ?_ (.inr GW760.out) _|refine Kept.setCell ?_ (.inr GW761.out) _)|exact HK.out)).1) hn_))),Or.elim hk_ (fun hs_=> fun e_=> (((HO_6.out).1 k_ e_.symm).2) hs_) (fun hn_=> (Kd.fresh' (Kd.R_lt (by (with_reducible repeat (first|apply Kd.R_alloc|apply Kd.R_drewN|apply Kd.R_drew));exact HO_6.out)) k_ hn_))⟩));have n4_:=Aside0.mk (Kept.then_ (S:=(fun k_=> P0_0_ k_)) (by repeat (first|(with_reducible first|exact HK.out|apply Kept.alloc|apply Kept.drewN|apply Kept.drew|refine Kept.setCell ?_ (.inr GW760.out) _|refine Kept.setCell ?_ (.inr GW761.out) _)|exact HK.out)) hkp (fun k_ hs_=> (fun e_=> (HO_761000.out.1 k_ e_.symm).1) hs_));have n5_:=Aside0.mk (hb);clear HO_6;clear BK760;clear BK761;clear HK;clear HB;clear HO_761000;have HO_6:=n0_;have BK760:=n1_;have BK761:=n2_;have HO767:=n3_;have HK:=n4_;have HB:=n5_;clear n0_ n1_ n2_ n3_ n4_ n5_;(try clear hb);(try clear hkp);(try clear ho0))|((with_reducible refine gate_dst (N:=8) rfl ?_);refine box_event ?hg (N:=8) ?hd (cs:= #[.slice none 0 0,.int .i64 0,.string (⟨#[]⟩:ByteArray),.int .i64 0]) (t:=36) ?hr ?_;(case hd=> rfl);(case hg=> rfl);(case hr=> first|(go_simp;done)|(go_simp;rfl));intro gb773 hg w15 hbox hb;have n0_:=Aside0.mk (Kd.R_below (by (with_reducible repeat (first|apply Kd.R_alloc|apply Kd.R_drewN|apply Kd.R_drew));exact HO_6.out) hb);have n1_:=Aside0.mk (Kd.R_below (by (with_reducible repeat (first|apply Kd.R_alloc|apply Kd.R_drewN|apply Kd.R_drew));exact HO767.out) hb);have n2_:=Aside0.mk (blk_below (g:=gb760) (o:= .cells #[.slice Ao13 x761000_1.length co13,.int .i64 x761001_1,.string x761002_1,.int .i64 x761003_1] 36 (0,0)) (by (with_reducible repeat (first|apply bN|apply bd|apply bA));exact BK760.out) hb);have n3_:=Aside0.mk (blk_below (g:=gb761) (o:= .cells #[.slice none 0 0,.int .i64 0,.string (⟨#[]⟩:ByteArray),.int .i64 0] 36 (0,0)) (by (with_reducible repeat (first|apply bN|apply bd|apply bA));exact BK761.out) hb);have n4_:=Aside0.mk (Kept.below (S:=(fun k_=> P0_0_ k_)) (by repeat (first|(with_reducible first|exact HK.out|apply Kept.alloc|apply Kept.drewN|apply Kept.drew|refine Kept.setCell ?_ (.inr GW760.out) _|refine Kept.setCell ?_ (.inr GW761.out) _)|exact HK.out)) hb);have n5_:=Aside0.mk (below_step (by repeat (first|(with_reducible first|exact HB.out|apply below_alloc|apply pw_below_drewN|apply below_drew1|refine below_set ?_ GE760.out|refine below_set ?_ GE761.out)|exact HB.out)) hb);have n6_:=Aside0.mk (hbox);have n7_:=Aside0.mk ((by rw [hg];exact (by first|exact HK.out.1|exact (show Kept w _ (fun k_=> P0_0_ k_) from by repeat (first|(with_reducible first|exact HK.out|apply Kept.alloc|apply Kept.drewN|apply Kept.drew|refine Kept.setCell ?_ (.inr GW760.out) _|refine Kept.setCell ?_ (.inr GW761.out) _)|exact HK.out)).1):w.heap.size ≤ gb773));have n8_:=Aside0.mk ((by rw [hg];exact (below_size (by repeat (first|(with_reducible first|exact HB.out|apply below_alloc|apply pw_below_drewN|apply below_drew1|refine below_set ?_ GE760.out|refine below_set ?_ GE761.out)|exact HB.out))):w0.heap.size ≤ gb773));have n9_:=Aside0.mk ((by rw [hg];exact Nat.ne_of_lt (blk_lt (g:=gb760) (o:= .cells #[.slice Ao13 x761000_1.length co13,.int .i64 x761001_1,.string x761002_1,.int .i64 x761003_1] 36 (0,0)) (by (with_reducible repeat (first|apply bN|apply bd|apply bA));exact BK760.out)):gb760 ≠ gb773));have n10_:=Aside0.mk ((by rw [hg];exact Nat.ne_of_gt (blk_lt (g:=gb760) (o:= .cells #[.slice Ao13 x761000_1.length co13,.int .i64 x761001_1,.string x761002_1,.int .i64 x761003_1] 36 (0,0)) (by (with_reducible repeat (first|apply bN|apply bd|apply bA));exact BK760.out)):gb773 ≠ gb760));have n11_:=Aside0.mk ((by rw [hg];exact Nat.ne_of_lt (blk_lt (g:=gb761) (o:= .cells #[.slice none 0 0,.int .i64 0,.string (⟨#[]⟩:ByteArray),.int .i64 0] 36 (0,0)) (by (with_reducible repeat (first|apply bN|apply bd|apply bA));exact BK761.out)):gb761 ≠ gb773));have n12_:=Aside0.mk ((by rw [hg];exact Nat.ne_of_gt (blk_lt (g:=gb761) (o:= .cells #[.slice none 0 0,.int .i64 0,.string (⟨#[]⟩:ByteArray),.int .i64 0] 36 (0,0)) (by (with_reducible repeat (first|apply bN|apply bd|apply bA));exact BK761.out)):gb773 ≠ gb761));clear HO_6;clear HO767;clear BK760;clear BK761;clear HK;clear HB;have HO_6:=n0_;have HO767:=n1_;have BK760:=n2_;have BK761:=n3_;have HK:=n4_;have HB:=n5_;have BK773:=n6_;have GW773:=n7_;have GE773:=n8_;have NB760_773:=n9_;have NB773_760:=n10_;have NB761_773:=n11_;have NB773_761:=n12_;clear n0_ n1_ n2_ n3_ n4_ n5_ n6_ n7_ n8_ n9_ n10_ n11_ n12_;clear hb hbox hg)|((with_reducible refine gate_dst (N:=9) rfl ?_);refine box_event ?hg (N:=9) ?hd (cs:= #[.int .i64 0,.int .i64 0]) (t:=79) ?hr ?_;(case hd=> rfl);(case hg=> rfl);(case hr=> first|(go_simp;done)|(go_simp;rfl));intro gb774 hg w16 hbox hb;have n0_:=Aside0.mk (Kd.R_below (Kd.R_elderB (by (with_reducible repeat (first|apply Kd.R_alloc|apply Kd.R_drewN|apply Kd.R_drew));exact HO_6.out) gb774 (Nat.le_of_eq hg.symm)) hb);have n1_:=Aside0.mk (Kd.R_below (Kd.R_elderB (by (with_reducible repeat (first|apply Kd.R_alloc|apply Kd.R_drewN|apply Kd.R_drew));exact HO767.out) gb774 (Nat.le_of_eq hg.symm)) hb);have n2_:=Aside0.mk (blk_below (g:=gb760) (o:= .cells #[.slice Ao13 x761000_1.length co13,.int .i64 x761001_1,.string x761002_1,.int .i64 x761003_1] 36 (0,0)) (by (with_reducible repeat (first|apply bN|apply bd|apply bA));exact BK760.out) hb);have n3_:=Aside0.mk (blk_below (g:=gb761) (o:= .cells #[.slice none 0 0,.int .i64 0,.string (⟨#[]⟩:ByteArray),.int .i64 0] 36 (0,0)) (by (with_reducible repeat (first|apply bN|apply bd|apply bA));exact BK761.out) hb);have n4_:=Aside0.mk (blk_below (g:=gb773) (o:= .cells #[.slice none 0 0,.int .i64 0,.string (⟨#[]⟩:ByteArray),.int .i64 0] 36 (0,0)) (by (with_reducible repeat (first|apply bN|apply bd|apply bA));exact BK773.out) hb);have n5_:=Aside0.mk (Kept.below (S:=(fun k_=> P0_0_ k_)) (by repeat (first|(with_reducible first|exact HK.out|apply Kept.alloc|apply Kept.drewN|apply Kept.drew|refine Kept.setCell ?_ (.inr GW760.out) _|refine Kept.setCell ?_ (.inr GW761.out) _|refine Kept.setCell ?_ (.inr GW773.out) _)|exact HK.out)) hb);have n6_:=Aside0.mk (below_step (by repeat (first|(with_reducible first|exact HB.out|apply below_alloc|apply pw_below_drewN|apply below_drew1|refine below_set ?_ GE760.out|refine below_set ?_ GE761.out|refine below_set ?_ GE773.out)|exact HB.out)) hb);have n7_:=Aside0.mk (hbox);have n8_:=Aside0.mk ((by rw [hg];exact (by first|exact HK.out.1|exact (show Kept w _ (fun k_=> P0_0_ k_) from by repeat (first|(with_reducible first|exact HK.out|apply Kept.alloc|apply Kept.drewN|apply Kept.drew|refine Kept.setCell ?_ (.inr GW760.out) _|refine Kept.setCell ?_ (.inr GW761.out) _|refine Kept.setCell ?_ (.inr GW773.out) _)|exact HK.out)).1):w.heap.size ≤ gb774));have n9_:=Aside0.mk ((by rw [hg];exact (below_size (by repeat (first|(with_reducible first|exact HB.out|apply below_alloc|apply pw_below_drewN|apply below_drew1|refine below_set ?_ GE760.out|refine below_set ?_ GE761.out|refine below_set ?_ GE773.out)|exact HB.out))):w0.heap.size ≤ gb774));have n10_:=Aside0.mk ((by rw [hg];exact Nat.ne_of_lt (blk_lt (g:=gb760) (o:= .cells #[.slice Ao13 x761000_1.length co13,.int .i64 x761001_1,.string x761002_1,.int .i64 x761003_1] 36 (0,0)) (by (with_reducible repeat (first|apply bN|apply bd|apply bA));exact BK760.out)):gb760 ≠ gb774));have n11_:=Aside0.mk ((by rw [hg];exact Nat.ne_of_gt (blk_lt (g:=gb760) (o:= .cells #[.slice Ao13 x761000_1.length co13,.int .i64 x761001_1,.string x761002_1,.int .i64 x761003_1] 36 (0,0)) (by (with_reducible repeat (first|apply bN|apply bd|apply bA));exact BK760.out)):gb774 ≠ gb760));have n12_:=Aside0.mk ((by rw [hg];exact Nat.ne_of_lt (blk_lt (g:=gb761) (o:= .cells #[.slice none 0 0,.int .i64 0,.string (⟨#[]⟩:ByteArray),.int .i64 0] 36 (0,0)) (by (with_reducible repeat (first|apply bN|apply bd|apply bA));exact BK761.out)):gb761 ≠ gb774));have n13_:=Aside0.mk ((by rw [hg];exact Nat.ne_of_gt (blk_lt (g:=gb761) (o:= .cells #[.slice none 0 0,.int .i64 0,.string (⟨#[]⟩:ByteArray),.int .i64 0] 36 (0,0)) (by (with_reducible repeat (first|apply bN|apply bd|apply bA));exact BK761.out)):gb774 ≠ gb761));have n14_:=Aside0.mk ((by rw [hg];exact Nat.ne_of_lt (blk_lt (g:=gb773) (o:= .cells #[.slice none 0 0,.int .i64 0,.string (⟨#[]⟩:ByteArray),.int .i64 0] 36 (0,0)) (by (with_reducible repeat (first|apply bN|apply bd|apply bA));exact BK773.out)):gb773 ≠ gb774));have n15_:=Aside0.mk ((by rw [hg];exact Nat.ne_of_gt (blk_lt (g:=gb773) (o:= .cells #[.slice none 0 0,.int .i64 0,.string (⟨#[]⟩:ByteArray),.int .i64 0] 36 (0,0)) (by (with_reducible repeat (first|apply bN|apply bd|apply bA));exact BK773.out)):gb774 ≠ gb773));clear HO_6;clear HO767;clear BK760;clear BK761;clear BK773;clear HK;clear HB;have HO_6:=n0_;have HO767:=n1_;have BK760:=n2_;have BK761:=n3_;have BK773:=n4_;have HK:=n5_;have HB:=n6_;have BK774:=n7_;have GW774:=n8_;have GE774:=n9_;have NB760_774:=n10_;have NB774_760:=n11_;have NB761_774:=n12_;have NB774_761:=n13_;have NB773_774:=n14_;have NB774_773:=n15_;clear n0_ n1_ n2_ n3_ n4_ n5_ n6_ n7_ n8_ n9_ n10_ n11_ n12_ n13_ n14_ n15_;clear hb hbox hg;obtain ⟨Ao17,co17,eo17⟩:=Kd.R_slice HO767.out;subst eo17;have hnb18:=NB773_760.out;have hnc18:=NB760_773.out;have hnb19:=NB773_761.out;have hnc19:=NB761_773.out;have hnb20:=NB773_774.out;have hnc20:=NB774_773.out;have hcz21_0:w16.cell? ⟨gb773,0,none⟩=some (.slice none 0 0):=(blk_cell BK773.out 0).trans rfl;have hcz21_1:w16.cell? ⟨gb773,1,none⟩=some (.int .i64 0):=(blk_cell BK773.out 1).trans rfl;have hcz21_2:w16.cell? ⟨gb773,2,none⟩=some (.string (⟨#[]⟩:ByteArray)):=(blk_cell BK773.out 2).trans rfl;have hcz21_3:w16.cell? ⟨gb773,3,none⟩=some (.int .i64 0):=(blk_cell BK773.out 3).trans rfl;have hfz21_0:=blk_frozen BK773.out 0;have hfz21_1:=blk_frozen BK773.out 1;have hfz21_2:=blk_frozen BK773.out 2;have hfz21_3:=blk_frozen BK773.out 3;have hnb22:=NB774_760.out;have hnc22:=NB760_774.out;have hnb23:=NB774_761.out;have hnc23:=NB761_774.out;have hcz24_0:w16.cell? ⟨gb774,0,none⟩=some (.int .i64 0):=(blk_cell BK774.out 0).trans rfl;have hcz24_1:w16.cell? ⟨gb774,1,none⟩=some (.int .i64 0):=(blk_cell BK774.out 1).trans rfl;have hfz24_0:=blk_frozen BK774.out 0;have hfz24_1:=blk_frozen BK774.out 1;have hcz25_0:w16.cell? ⟨gb760,0,none⟩=some (.slice Ao13 x761000_1.length co13):=(blk_cell BK760.out 0).trans rfl;have hcz25_1:w16.cell? ⟨gb760,1,none⟩=some (.int .i64 x761001_1):=(blk_cell BK760.out 1).trans rfl;have hcz25_2:w16.cell? ⟨gb760,2,none⟩=some (.string x761002_1):=(blk_cell BK760.out 2).trans rfl;have hcz25_3:w16.cell? ⟨gb760,3,none⟩=some (.int .i64 x761003_1):=(blk_cell BK760.out 3).trans rfl;have hfz25_0:=blk_frozen BK760.out 0;have hfz25_1:=blk_frozen BK760.out 1;have hfz25_2:=blk_frozen BK760.out 2;have hfz25_3:=blk_frozen BK760.out 3)|((with_reducible refine gate_builtin (b:= .append) (xs:= #[.tmp 22,.tmp 24]) rfl ?_);at_builtin;refine Kd.R_append k79 (w0:=w0) w0.heap.size rfl (.tmp 22) (.tmp 24) 34 79 (.agg #[(.int .i64 0),(.int .i64 0)]) 16 rfl Try.underlying34 info79 rfl (by decide) (by omega) u6 x6_1 (⟨t771,t772⟩:S79) [.int .i64 t771,.int .i64 t772] (fun k_=> (P0_0_ k_ ∨ w.heap.size ≤ k_) ∧ some k_ ≠ (.slice Ao17 t765.length co17:Value).ownBlock ∧ k_ ≠ gb774) (fun _=> False) rfl (by first|(go_simp;done)|(go_simp;rfl)) ?aP (fun _ hk=> hk.elim) ?aF ?aO ?aB ?aS ?aL ?_;(case aP=> exact k79_mkM _ _ _ (⟨t771,t772⟩:S79));(case aB=> exact (by repeat (first|(with_reducible first|exact HB.out|apply below_alloc|apply pw_below_drewN|apply below_drew1|refine below_set ?_ GE760.out|refine below_set ?_ GE761.out|refine below_set ?_ GE773.out|refine below_set ?_ GE774.out)|exact HB.out)));(case aF=> exact (fun k_ hk=> ⟨(.inr (Nat.le_trans (show Kept w _ (fun k_=> P0_0_ k_) from by repeat (first|(with_reducible first|exact HK.out|apply Kept.alloc|apply Kept.drewN|apply Kept.drew|refine Kept.setCell ?_ (.inr GW760.out) _|refine Kept.setCell ?_ (.inr GW761.out) _|refine Kept.setCell ?_ (.inr GW773.out) _|refine Kept.setCell ?_ (.inr GW774.out) _)|exact HK.out)).1 hk)),Kd.fresh' (Kd.R_lt (by (with_reducible repeat (first|apply Kd.R_alloc|apply Kd.R_drewN|apply Kd.R_drew));exact (Kd.R_mono (Kd.R_mono (Kd.R_mono (Kd.R_far (p:=⟨gb760,3,none⟩) (Kd.R_far (p:=⟨gb760,2,none⟩) (Kd.R_far (p:=⟨gb760,1,none⟩) (Kd.R_far (p:=⟨gb760,0,none⟩) (Kd.R_far (p:=⟨gb774,1,none⟩) (Kd.R_far (p:=⟨gb774,0,none⟩) (Kd.R_far (p:=⟨gb773,3,none⟩) (Kd.R_far (p:=⟨gb773,2,none⟩) (Kd.R_far (p:=⟨gb773,1,none⟩) (Kd.R_far (p:=⟨gb773,0,none⟩) (Kd.R_types (Kd.R_mono (Kd.R_types HO767.out BK773.out (by decide)) (fun k_ hk=> (⟨hk,hk.1.2⟩:_ ∧ k_ ≠ gb774))) BK760.out (by decide)) (fun _ hk=> hk.1.1.2) (.slice Ao17 t765.length co17)) (fun _ hk=> hk.1.1.2) (.int .i64 t768)) (fun _ hk=> hk.1.1.2) (.string t769)) (fun _ hk=> hk.1.1.2) (.int .i64 t770)) (fun _ hk=> hk.1.2) (.int .i64 t771)) (fun _ hk=> hk.1.2) (.int .i64 t772)) (fun _ hk=> hk.2) (.slice Ao17 t765.length co17)) (fun _ hk=> hk.2) (.int .i64 t768)) (fun _ hk=> hk.2) (.string t769)) (fun _ hk=> hk.2) (.int .i64 t770)) (fun _ h_=> h_.1)) (fun _ h_=> h_.1)) (fun _ h_=> h_.1)))) k_ hk,Kd.freshB (g:=gb774) (o:= .cells #[.int .i64 t771,.int .i64 t772] 79 (0,0)) (by (with_reducible repeat (first|apply bN|apply bd|apply bA));refine blk_far ?_ NB774_760.out _;(with_reducible repeat (first|apply bN|apply bd|apply bA));refine blk_far ?_ NB774_760.out _;(with_reducible repeat (first|apply bN|apply bd|apply bA));refine blk_far ?_ NB774_760.out _;(with_reducible repeat (first|apply bN|apply bd|apply bA));refine blk_far ?_ NB774_760.out _;(with_reducible repeat (first|apply bN|apply bd|apply bA));refine blk_put (cs:= #[.int .i64 t771,.int .i64 0]) ?_ 1 _ rfl;(with_reducible repeat (first|apply bN|apply bd|apply bA));refine blk_put (cs:= #[.int .i64 0,.int .i64 0]) ?_ 0 _ rfl;(with_reducible repeat (first|apply bN|apply bd|apply bA));refine blk_far ?_ NB774_773.out _;(with_reducible repeat (first|apply bN|apply bd|apply bA));refine blk_far ?_ NB774_773.out _;(with_reducible repeat (first|apply bN|apply bd|apply bA));refine blk_far ?_ NB774_773.out _;(with_reducible repeat (first|apply bN|apply bd|apply bA));refine blk_far ?_ NB774_773.out _;(with_reducible repeat (first|apply bN|apply bd|apply bA));exact BK774.out) k_ hk⟩));(case aO=> exact (by (with_reducible repeat (first|apply Kd.R_alloc|apply Kd.R_drewN|apply Kd.R_drew));exact Kd.R_mono (Kd.R_far (p:=⟨gb760,3,none⟩) (Kd.R_far (p:=⟨gb760,2,none⟩) (Kd.R_far (p:=⟨gb760,1,none⟩) (Kd.R_far (p:=⟨gb760,0,none⟩) (Kd.R_far (p:=⟨gb774,1,none⟩) (Kd.R_far (p:=⟨gb774,0,none⟩) (Kd.R_far (p:=⟨gb773,3,none⟩) (Kd.R_far (p:=⟨gb773,2,none⟩) (Kd.R_far (p:=⟨gb773,1,none⟩) (Kd.R_far (p:=⟨gb773,0,none⟩) (Kd.R_types (Kd.R_mono (Kd.R_types HO_6.out BK773.out (by decide)) (fun k_ hk=> (⟨hk,hk.1.2⟩:_ ∧ k_ ≠ gb774))) BK760.out (by decide)) (fun _ hk=> hk.1.1.2) (.slice Ao17 t765.length co17)) (fun _ hk=> hk.1.1.2) (.int .i64 t768)) (fun _ hk=> hk.1.1.2) (.string t769)) (fun _ hk=> hk.1.1.2) (.int .i64 t770)) (fun _ hk=> hk.1.2) (.int .i64 t771)) (fun _ hk=> hk.1.2) (.int .i64 t772)) (fun _ hk=> hk.2) (.slice Ao17 t765.length co17)) (fun _ hk=> hk.2) (.int .i64 t768)) (fun _ hk=> hk.2) (.string t769)) (fun _ hk=> hk.2) (.int .i64 t770)) (fun _ hk=> ⟨hk.1.1.1.1.1,⟨hk.1.1.1.1.2,hk.1.1.1.2⟩⟩)));(case aS=> exact (below_size (by repeat (first|(with_reducible first|exact HB.out|apply below_alloc|apply pw_below_drewN|apply below_drew1|refine below_set ?_ GE760.out|refine below_set ?_ GE761.out|refine below_set ?_ GE773.out|refine below_set ?_ GE774.out)|exact HB.out))));(case aL=> have:=LMc10.out;omega);intro v776 w26 ho hb hg hat;rw [← Ny775.out] at ho;have n0_:=Aside0.mk (blk_grown (g:=gb760) (o:= .cells #[.slice Ao17 t765.length co17,.int .i64 t768,.string t769,.int .i64 t770] 36 (0,0)) (by (with_reducible repeat (first|apply bN|apply bd|apply bA));refine blk_put (cs:= #[.slice Ao17 t765.length co17,.int .i64 t768,.string t769,.int .i64 x761003_1]) ?_ 3 _ rfl;(with_reducible repeat (first|apply bN|apply bd|apply bA));refine blk_put (cs:= #[.slice Ao17 t765.length co17,.int .i64 t768,.string x761002_1,.int .i64 x761003_1]) ?_ 2 _ rfl;(with_reducible repeat (first|apply bN|apply bd|apply bA));refine blk_put (cs:= #[.slice Ao17 t765.length co17,.int .i64 x761001_1,.string x761002_1,.int .i64 x761003_1]) ?_ 1 _ rfl;(with_reducible repeat (first|apply bN|apply bd|apply bA));refine blk_put (cs:= #[.slice Ao13 x761000_1.length co13,.int .i64 x761001_1,.string x761002_1,.int .i64 x761003_1]) ?_ 0 _ rfl;(with_reducible repeat (first|apply bN|apply bd|apply bA));refine blk_far ?_ NB760_774.out _;(with_reducible repeat (first|apply bN|apply bd|apply bA));refine blk_far ?_ NB760_774.out _;(with_reducible repeat (first|apply bN|apply bd|apply bA));refine blk_far ?_ NB760_773.out _;(with_reducible repeat (first|apply bN|apply bd|apply bA));refine blk_far ?_ NB760_773.out _;(with_reducible repeat (first|apply bN|apply bd|apply bA));refine blk_far ?_ NB760_773.out _;(with_reducible repeat (first|apply bN|apply bd|apply bA));refine blk_far ?_ NB760_773.out _;(with_reducible repeat (first|apply bN|apply bd|apply bA));exact BK760.out) hg (Kd.R_ne HO_6.out BK760.out (by decide)));have n1_:=Aside0.mk (blk_grown (g:=gb761) (o:= .cells #[.slice none 0 0,.int .i64 0,.string (⟨#[]⟩:ByteArray),.int .i64 0] 36 (0,0)) (by (with_reducible repeat (first|apply bN|apply bd|apply bA));refine blk_far ?_ NB761_760.out _;(with_reducible repeat (first|apply bN|apply bd|apply bA));refine blk_far ?_ NB761_760.out _;(with_reducible repeat (first|apply bN|apply bd|apply bA));refine blk_far ?_ NB761_760.out _;(with_reducible repeat (first|apply bN|apply bd|apply bA));refine blk_far ?_ NB761_760.out _;(with_reducible repeat (first|apply bN|apply bd|apply bA));refine blk_far ?_ NB761_774.out _;(with_reducible repeat (first|apply bN|apply bd|apply bA));refine blk_far ?_ NB761_774.out _;(with_reducible repeat (first|apply bN|apply bd|apply bA));refine blk_far ?_ NB761_773.out _;(with_reducible repeat (first|apply bN|apply bd|apply bA));refine blk_far ?_ NB761_773.out _;(with_reducible repeat (first|apply bN|apply bd|apply bA));refine blk_far ?_ NB761_773.out _;(with_reducible repeat (first|apply bN|apply bd|apply bA));refine blk_far ?_ NB761_773.out _;(with_reducible repeat (first|apply bN|apply bd|apply bA));exact BK761.out) hg (Kd.R_ne HO_6.out BK761.out (by decide)));have n2_:=Aside0.mk (Kd.R_after (ok:=(fun k_=> (P0_0_ k_ ∨ w.heap.size ≤ k_) ∧ k_ ≠ gb774)) (by (with_reducible repeat (first|apply Kd.R_alloc|apply Kd.R_drewN|apply Kd.R_drew));exact Kd.R_mono (Kd.R_far (p:=⟨gb760,3,none⟩) (Kd.R_far (p:=⟨gb760,2,none⟩) (Kd.R_far (p:=⟨gb760,1,none⟩) (Kd.R_far (p:=⟨gb760,0,none⟩) (Kd.R_far (p:=⟨gb774,1,none⟩) (Kd.R_far (p:=⟨gb774,0,none⟩) (Kd.R_far (p:=⟨gb773,3,none⟩) (Kd.R_far (p:=⟨gb773,2,none⟩) (Kd.R_far (p:=⟨gb773,1,none⟩) (Kd.R_far (p:=⟨gb773,0,none⟩) (Kd.R_types (Kd.R_mono (Kd.R_types HO767.out BK773.out (by decide)) (fun k_ hk=> (⟨hk,hk.1.2⟩:_ ∧ k_ ≠ gb774))) BK760.out (by decide)) (fun _ hk=> hk.1.1.2) (.slice Ao17 t765.length co17)) (fun _ hk=> hk.1.1.2) (.int .i64 t768)) (fun _ hk=> hk.1.1.2) (.string t769)) (fun _ hk=> hk.1.1.2) (.int .i64 t770)) (fun _ hk=> hk.1.2) (.int .i64 t771)) (fun _ hk=> hk.1.2) (.int .i64 t772)) (fun _ hk=> hk.2) (.slice Ao17 t765.length co17)) (fun _ hk=> hk.2) (.int .i64 t768)) (fun _ hk=> hk.2) (.string t769)) (fun _ hk=> hk.2) (.int .i64 t770)) (fun _ hk=> ⟨⟨hk.1.1.1.1.1,hk.1.1.1.2⟩,hk.1.1.1.1.2⟩)) hg hat);have n3_:=Aside0.mk (blk_grown (g:=gb773) (o:= .cells #[.slice Ao17 t765.length co17,.int .i64 t768,.string t769,.int .i64 t770] 36 (0,0)) (by (with_reducible repeat (first|apply bN|apply bd|apply bA));refine blk_far ?_ NB773_760.out _;(with_reducible repeat (first|apply bN|apply bd|apply bA));refine blk_far ?_ NB773_760.out _;(with_reducible repeat (first|apply bN|apply bd|apply bA));refine blk_far ?_ NB773_760.out _;(with_reducible repeat (first|apply bN|apply bd|apply bA));refine blk_far ?_ NB773_760.out _;(with_reducible repeat (first|apply bN|apply bd|apply bA));refine blk_far ?_ NB773_774.out _;(with_reducible repeat (first|apply bN|apply bd|apply bA));refine blk_far ?_ NB773_774.out _;(with_reducible repeat (first|apply bN|apply bd|apply bA));refine blk_put (cs:= #[.slice Ao17 t765.length co17,.int .i64 t768,.string t769,.int .i64 0]) ?_ 3 _ rfl;(with_reducible repeat (first|apply bN|apply bd|apply bA));refine blk_put (cs:= #[.slice Ao17 t765.length co17,.int .i64 t768,.string (⟨#[]⟩:ByteArray),.int .i64 0]) ?_ 2 _ rfl;(with_reducible repeat (first|apply bN|apply bd|apply bA));refine blk_put (cs:= #[.slice Ao17 t765.length co17,.int .i64 0,.string (⟨#[]⟩:ByteArray),.int .i64 0]) ?_ 1 _ rfl;(with_reducible repeat (first|apply bN|apply bd|apply bA));refine blk_put (cs:= #[.slice none 0 0,.int .i64 0,.string (⟨#[]⟩:ByteArray),.int .i64 0]) ?_ 0 _ rfl;(with_reducible repeat (first|apply bN|apply bd|apply bA));exact BK773.out) hg (Kd.R_ne HO_6.out BK773.out (by decide)));have n4_:=Aside0.mk (blk_grown (g:=gb774) (o:= .cells #[.int .i64 t771,.int .i64 t772] 79 (0,0)) (by (with_reducible repeat (first|apply bN|apply bd|apply bA));refine blk_far ?_ NB774_760.out _;(with_reducible repeat (first|apply bN|apply bd|apply bA));refine blk_far ?_ NB774_760.out _;(with_reducible repeat (first|apply bN|apply bd|apply bA));refine blk_far ?_ NB774_760.out _;(with_reducible repeat (first|apply bN|apply bd|apply bA));refine blk_far ?_ NB774_760.out _;(with_reducible repeat (first|apply bN|apply bd|apply bA));refine blk_put (cs:= #[.int .i64 t771,.int .i64 0]) ?_ 1 _ rfl;(with_reducible repeat (first|apply bN|apply bd|apply bA));refine blk_put (cs:= #[.int .i64 0,.int .i64 0]) ?_ 0 _ rfl;(with_reducible repeat (first|apply bN|apply bd|apply bA));refine blk_far ?_ NB774_773.out _;(with_reducible repeat (first|apply bN|apply bd|apply bA));refine blk_far ?_ NB774_773.out _;(with_reducible repeat (first|apply bN|apply bd|apply bA));refine blk_far ?_ NB774_773.out _;(with_reducible repeat (first|apply bN|apply bd|apply bA));refine blk_far ?_ NB774_773.out _;(with_reducible repeat (first|apply bN|apply bd|apply bA));exact BK774.out) hg (Kd.R_away HO_6.out (fun _ hk=> hk.2)));have n5_:=Aside0.mk (hb);have n6_:=Aside0.mk (Kept.of_grown (S:=(fun k_=> P0_0_ k_)) hg (by repeat (first|(with_reducible first|exact HK.out|apply Kept.alloc|apply Kept.drewN|apply Kept.drew|refine Kept.setCell ?_ (.inr GW760.out) _|refine Kept.setCell ?_ (.inr GW761.out) _|refine Kept.setCell ?_ (.inr GW773.out) _|refine Kept.setCell ?_ (.inr GW774.out) _)|exact HK.out)) (fun k_ e_=> (HO_6.out.1 k_ e_).1.1));have n7_:=Aside0.mk (ho);clear BK760;clear BK761;clear HO767;clear BK773;clear BK774;clear HB;clear HK;clear HO_6;have BK760:=n0_;have BK761:=n1_;have HO767:=n2_;have BK773:=n3_;have BK774:=n4_;have HB:=n5_;have HK:=n6_;have HO777:=n7_;clear n0_ n1_ n2_ n3_ n4_ n5_ n6_ n7_;clear ho hb hg hat))
          go_roundg k1
          case measure=> have:=HK1.out;omega
          case rel=> exact ⟨(y775),(wrap64 (x7_1 + 1)),(t765),(t768),(t769),(t770),(.slice Ao17 t765.length co17),(by first|rfl|(simp;done)|(simp [*];done)),H',⟨by have:=HK1.out;omega⟩,⟨by (with_reducible repeat (first|apply Kd.R_alloc|apply Kd.R_drewN|apply Kd.R_drew));exact Kd.R_mono HO777.out (fun _ hk=> ⟨hk.1,hk.2.1⟩)⟩,⟨by (with_reducible repeat (first|apply Kd.R_alloc|apply Kd.R_drewN|apply Kd.R_drew));exact Kd.R_mono HO767.out (fun _ hk=> ⟨hk.1.1,hk.2⟩)⟩,⟨by (with_reducible repeat (first|apply bN|apply bd|apply bA));exact BK760.out⟩,⟨by (with_reducible repeat (first|apply bN|apply bd|apply bA));exact BK761.out⟩,⟨by repeat (first|(with_reducible first|exact HK.out|apply Kept.alloc|apply Kept.drewN|apply Kept.drew|refine Kept.setCell ?_ (.inr GW760.out) _|refine Kept.setCell ?_ (.inr GW761.out) _|refine Kept.setCell ?_ (.inr GW773.out) _|refine Kept.setCell ?_ (.inr GW774.out) _)|exact HK.out)⟩,⟨by repeat (first|(with_reducible first|exact HB.out|apply below_alloc|apply pw_below_drewN|apply below_drew1|refine below_set ?_ GE760.out|refine below_set ?_ GE761.out|refine below_set ?_ GE773.out|refine below_set ?_ GE774.out)|exact HB.out)⟩⟩
        · rw [if_neg c10] at H
          exact absurd H (by simp)
      · rw [if_neg c8] at H
        have c8b0:decide (x7_1 < a1)=false:=decide_eq_false c8
        clear c8
        simp only [Option.some.injEq,Prod.mk.injEq] at H
        obtain ⟨rfl,rfl,rfl,rfl,rfl⟩:=H
        have hnb27:=NB760_761.out
        have hnc27:=NB761_760.out
        have hcz28_0:wr.cell? ⟨gb760,0,none⟩=some (u761000):=(blk_cell BK760.out 0).trans rfl
        have hcz28_1:wr.cell? ⟨gb760,1,none⟩=some (.int .i64 x761001_1):=(blk_cell BK760.out 1).trans rfl
        have hcz28_2:wr.cell? ⟨gb760,2,none⟩=some (.string x761002_1):=(blk_cell BK760.out 2).trans rfl
        have hcz28_3:wr.cell? ⟨gb760,3,none⟩=some (.int .i64 x761003_1):=(blk_cell BK760.out 3).trans rfl
        have hfz28_0:=blk_frozen BK760.out 0
        have hfz28_1:=blk_frozen BK760.out 1
        have hfz28_2:=blk_frozen BK760.out 2
        have hfz28_3:=blk_frozen BK760.out 3
        obtain ⟨Ao29,co29,eo29⟩:=Kd.R_slice HO_761000.out
        subst eo29
        have hcz30_0:wr.cell? ⟨gb761,0,none⟩=some (.slice none 0 0):=(blk_cell BK761.out 0).trans rfl
        have hcz30_1:wr.cell? ⟨gb761,1,none⟩=some (.int .i64 0):=(blk_cell BK761.out 1).trans rfl
        have hcz30_2:wr.cell? ⟨gb761,2,none⟩=some (.string (⟨#[]⟩:ByteArray)):=(blk_cell BK761.out 2).trans rfl
        have hcz30_3:wr.cell? ⟨gb761,3,none⟩=some (.int .i64 0):=(blk_cell BK761.out 3).trans rfl
        have hfz30_0:=blk_frozen BK761.out 0
        have hfz30_1:=blk_frozen BK761.out 1
        have hfz30_2:=blk_frozen BK761.out 2
        have hfz30_3:=blk_frozen BK761.out 3
        go_wp2
        refine bodyPost_ret (results_ct rfl _ _ gb761 36 #[.slice Ao29 x761000_1.length co29,.int .i64 x761001_1,.string x761002_1,.int .i64 x761003_1] (0,0) _ rfl (by (with_reducible repeat (first|apply bN|apply bd|apply bA));refine blk_put (cs:= #[.slice Ao29 x761000_1.length co29,.int .i64 x761001_1,.string x761002_1,.int .i64 0]) ?_ 3 _ rfl;(with_reducible repeat (first|apply bN|apply bd|apply bA));refine blk_put (cs:= #[.slice Ao29 x761000_1.length co29,.int .i64 x761001_1,.string (⟨#[]⟩:ByteArray),.int .i64 0]) ?_ 2 _ rfl;(with_reducible repeat (first|apply bN|apply bd|apply bA));refine blk_put (cs:= #[.slice Ao29 x761000_1.length co29,.int .i64 0,.string (⟨#[]⟩:ByteArray),.int .i64 0]) ?_ 1 _ rfl;(with_reducible repeat (first|apply bN|apply bd|apply bA));refine blk_put (cs:= #[.slice none 0 0,.int .i64 0,.string (⟨#[]⟩:ByteArray),.int .i64 0]) ?_ 0 _ rfl;(with_reducible repeat (first|apply bN|apply bd|apply bA));exact BK761.out) Try.underlying36 rfl (by kernel_rfl)) rfl ?_
        exact ⟨_,_,by first|rfl|(simp [errW_none,errW_some] <;> rfl)|(simp [*,errW_none,errW_some] <;> rfl),by (with_reducible repeat (first|apply Kd.R_alloc|apply Kd.R_drewN|apply Kd.R_drew));exact Kd.R_mono (Kd.R_far (p:=⟨gb761,3,none⟩) (Kd.R_far (p:=⟨gb761,2,none⟩) (Kd.R_far (p:=⟨gb761,1,none⟩) (Kd.R_far (p:=⟨gb761,0,none⟩) (Kd.R_types HO_761000.out BK761.out (by decide)) (fun _ hk=> hk.2) (.slice Ao29 x761000_1.length co29)) (fun _ hk=> hk.2) (.int .i64 x761001_1)) (fun _ hk=> hk.2) (.string x761002_1)) (fun _ hk=> hk.2) (.int .i64 x761003_1)) (fun _ hk=> ⟨hk.1.1,hk.1.2⟩),by (with_reducible repeat (first|apply Kd.R_alloc|apply Kd.R_drewN|apply Kd.R_drew));exact Kd.R_mono (Kd.R_far (p:=⟨gb761,3,none⟩) (Kd.R_far (p:=⟨gb761,2,none⟩) (Kd.R_far (p:=⟨gb761,1,none⟩) (Kd.R_far (p:=⟨gb761,0,none⟩) (Kd.R_types HO_6.out BK761.out (by decide)) (fun _ hk=> hk.2) (.slice Ao29 x761000_1.length co29)) (fun _ hk=> hk.2) (.int .i64 x761001_1)) (fun _ hk=> hk.2) (.string x761002_1)) (fun _ hk=> hk.2) (.int .i64 x761003_1)) (fun _ hk=> ⟨hk.1.1,hk.1.2⟩),by repeat (first|(with_reducible first|exact HB.out|apply below_alloc|apply pw_below_drewN|apply below_drew1|refine below_set ?_ GE760.out|refine below_set ?_ GE761.out)|exact HB.out),by repeat (first|(with_reducible first|exact HK.out|apply Kept.alloc|apply Kept.drewN|apply Kept.drew|refine Kept.setCell ?_ (.inr GW760.out) _|refine Kept.setCell ?_ (.inr GW761.out) _)|exact HK.out)⟩
end Go.Proofs.Ytlogocmojnhpbaa.Print
