-- Packed by a program of this session (slim.py) out of printed texts; not trusted, Lean checks it.
import Derived.Test.YtlogocmojnhpbaaP0
import Derived.Test.YtlogocmojnhpbaaK4
import Derived.Test.YtlogocmojnhpbaaQFnExactAbsorbExts3
namespace Go.Proofs.Ytlogocmojnhpbaa.Print
open Go.RowKit Go.Proofs.YtlogocmojnhpbaaW.PrintWords Go.Proofs.YtlogocmojnhpbaaW.PrintLast Go.Proofs.YtlogocmojnhpbaaW.PrintMore
attribute [local go_sem] max2_int min2_int max_two min_two max_three min_three max_four min_four
set_option linter.unusedVariables false
set_option linter.unusedSimpArgs false
def spec_l02Bytes.l0:Nat → List (S79) → List Int → Int → Option (List Int)
  |0,_,_,_=> none
  |k + 1,x0,x3,x4=> if x4 < (x0.length:Int) then (if 0 ≤ x4 then ((spec_l02Number.f k ((rd_T79 x0 x4).f0) 4).bind fun t503=> (if x3.length + t503.length < 140737488355328 then ((some (x3 ++ t503:List Int)).bind fun y506=> ((spec_l02Number.f k ((rd_T79 x0 x4).f1) 4).bind fun t510=> (if y506.length + t510.length < 140737488355328 then (spec_l02Bytes.l0 k x0 (y506 ++ t510) (wrap64 (x4 + 1))) else (none)))) else (none))) else (none)) else (some x3)
def spec_l02Bytes.f (k:Nat) (l0:List (S79)):Option (List Int):=spec_l02Bytes.l0 k l0 (([]:List Int)) 0
theorem spec_l02Bytes.mono_l:∀ k,(∀ y0 y1 y2,LeO (spec_l02Bytes.l0 k y0 y1 y2) (spec_l02Bytes.l0 (k + 1) y0 y1 y2))
  |0=> fun _ _ _ r h=> by simp [spec_l02Bytes.l0] at h
  |k + 1=> by
    have ih0:=spec_l02Bytes.mono_l k
    · intro y0 y1 y2
      unfold spec_l02Bytes.l0
      repeat' first
      |(with_reducible exact ih0 _ _ _)
      |(with_reducible exact spec_l02Number.mono _ _ _)
      |(with_reducible exact LeO.refl _)
      |(with_reducible exact LeO.none _)
      |(with_reducible refine LeO.ite ?_ ?_)
      |(with_reducible refine LeO.bind ?_ (fun _=> ?_))
      |exact ih0 _ _ _
      |exact spec_l02Number.mono _ _ _
      |exact LeO.none _
      |refine LeO.ite ?_ ?_
      |refine LeO.bind ?_ (fun _=> ?_)
theorem spec_l02Bytes.mono:∀ a0 k,LeO (spec_l02Bytes.f k a0) (spec_l02Bytes.f (k + 1) a0):=by
  intro a0 k
  have ih0:=spec_l02Bytes.mono_l k
  unfold spec_l02Bytes.f
  repeat' first
      |(with_reducible exact ih0 _ _ _)
      |(with_reducible exact spec_l02Number.mono _ _ _)
      |(with_reducible exact LeO.refl _)
      |(with_reducible exact LeO.none _)
      |(with_reducible refine LeO.ite ?_ ?_)
      |(with_reducible refine LeO.bind ?_ (fun _=> ?_))
      |exact ih0 _ _ _
      |exact spec_l02Number.mono _ _ _
      |exact LeO.none _
      |refine LeO.ite ?_ ?_
      |refine LeO.bind ?_ (fun _=> ?_)
def spec_l02Bytes.T5:Bool × List (List Nat × List Nat):=(true, [([], []),([], []),([], []),([1,2], [1,2]),([3], [3]),([4], [4]),([5], [5]),([0,6,6], [0,6]),([], []),([], []),([8,9], [8,9]),([10], [10]),([11], [11]),([12,7], [12]),([7,13,13], [7,13]),([14,14,0,1,2,3,4,5,6,7,8,9,10,11,12,13,14], [0,14])])
def spec_l02Bytes.B5:List Nat:= [0,0,0,6,14,30,62,127,0,0,768,1792,3840,8191,16383,32767]
theorem spec_l02Bytes.tab5:rtab .any (opsOf Try.f155 5)=spec_l02Bytes.T5:=by kernel_rfl
theorem spec_l02Bytes.bits5:waitsOk spec_l02Bytes.T5.2 spec_l02Bytes.B5=true:=by kernel_rfl
set_option maxHeartbeats 8000000 in
set_option maxRecDepth 100000 in
theorem spec_l02Bytes.calls (k:Nat) (A0:Option Addr) (c0:Nat) (l0:List (S79)) (r:List Int) (w:World) (hr0:Kd.C k79 w A0 l0.length l0) (hc0:l0.length ≤ c0) (h:spec_l02Bytes.f k l0=some r):
    Calls Try.prog 155 #[.slice A0 l0.length c0] w fun e w'=> ∃ v0_:Value,e= .returned (v0_) ∧ Kd.R (Kd.int .u8) 5 w' w.heap.size (fun _=> True) v0_ r ∧ Below w.heap.size w w':=by
  have HR0:=Aside0.mk hr0
  have HC0:=Aside0.mk hc0
  clear hr0 hc0
  have HB:=Aside0.mk (Below.refl w.heap.size w)
  have H:(spec_l02Bytes.l0 k l0 (([]:List Int)) 0)=some r:=h
  clear h
  obtain ⟨y499,hy499⟩:∃ y_:List Int,y_=(([]:List Int)):=⟨_,rfl⟩
  replace H:(spec_l02Bytes.l0 k l0 y499 0)=some r:=by first|(rw [hy499];with_reducible exact H)|(have H2_:=(Option.bind_some _ _).symm.trans H;rw [hy499];with_reducible exact H2_)|(have H2_:=(Option.bind_some _ _).symm.trans H;with_reducible exact H2_)|with_reducible exact H|(rw [hy499];exact H)|exact H
  have Ny499:=Aside0.mk hy499
  clear hy499
  have H':=Aside0.mk H
  clear H
  go_enter Try.func155,Try.ntmps155
  go_wp2_with (first|((with_reducible refine gate_dst (N:=5) rfl ?_);refine Kd.R_lit (Kd.int .u8) _ 5 ?hg (N:=5) ?hd (xs:=([]:List Int)) (inner:= []) (ok:=fun _=> True) (okp:=fun _=> True) ?hr ?hp (fun _ hk=> hk) trivial (Below.refl _ _) (Nat.le_refl _) (by simp) ?_;(case hd=> rfl);(case hg=> rfl);(case hr=> first|(go_simp;done)|(go_simp;rfl));(case hp=> exact (Reps.none _ _));intro v500 w2 ho3 hb hg_ hnew_;clear hg_ hnew_;(first|rw [← Ny499.out] at ho3|(simp only [Int.reduceToNat] at ho3;rw [← Ny499.out] at ho3));have n0_:=Aside0.mk (Kd.R_lower ho3 (below_size (by repeat (first|(with_reducible first|exact HB.out|apply below_alloc|apply pw_below_drewN|apply below_drew1)|exact HB.out))));have n1_:=Aside0.mk (below_step (by repeat (first|(with_reducible first|exact HB.out|apply below_alloc|apply pw_below_drewN|apply below_drew1)|exact HB.out)) hb);clear HB;have HO501:=n0_;have HB:=n1_;clear n0_ n1_;clear hb ho3))
  go_loopg [3,4] k (fun kq v3 v4 w'=> ∃ (x3_1:List Int) (x4_1:Int),v4= .int .i64 x4_1 ∧ Aside0 (spec_l02Bytes.l0 kq l0 x3_1 x4_1=some r) ∧ Aside0 (kq ≤ k) ∧ Aside0 (Kd.R (Kd.int .u8) 5 w' w.heap.size (fun _=> True) v3 x3_1) ∧ Aside0 (Below w.heap.size w w'))
  case atStart=> exact ⟨(y499),(0),(by first|rfl|(simp;done)|(simp [*];done)),H',⟨Nat.le_refl _⟩,⟨by (with_reducible repeat (first|apply Kd.R_alloc|apply Kd.R_drewN|apply Kd.R_drew));exact HO501.out⟩,⟨by repeat (first|(with_reducible first|exact HB.out|apply below_alloc|apply pw_below_drewN|apply below_drew1)|exact HB.out)⟩⟩
  case round=>
    clear H'
    try clear c1
    try clear p2
    obtain ⟨x3_1,x4_1,rfl,HA,HK1,HO_3,HB⟩:=hrel
    cases gk with
    |zero=> exact absurd HA.out (by simp [spec_l02Bytes.l0])
    |succ k1=>
      have H:=HA.out
      clear HA
      simp only [spec_l02Bytes.l0] at H
      by_cases c4:x4_1 < (l0.length:Int)
      · rw [if_pos c4] at H
        have c4b0:decide (x4_1 < (l0.length:Int))=true:=decide_eq_true c4
        clear c4
        by_cases c5:0 ≤ x4_1
        · rw [if_pos c5] at H
          have c5b0:decide (0 ≤ x4_1)=true:=decide_eq_true c5
          clear c5
          replace H:=Option.bind_eq_some_iff.mp H
          obtain ⟨t503,A60,H⟩:=H
          replace H:(if x3_1.length + t503.length < 140737488355328 then ((some (x3_1 ++ t503:List Int)).bind fun y506=> ((spec_l02Number.f k1 ((rd_T79 l0 x4_1).f1) 4).bind fun t510=> (if y506.length + t510.length < 140737488355328 then (spec_l02Bytes.l0 k1 l0 (y506 ++ t510) (wrap64 (x4_1 + 1))) else (none)))) else (none))=some r:=H
          have A6:=Aside0.mk A60
          clear A60
          by_cases c7:x3_1.length + t503.length < 140737488355328
          · rw [if_pos c7] at H
            have LMc7:=Aside0.mk c7
            clear c7
            obtain ⟨y506,hy506⟩:∃ y_:List Int,y_=(x3_1 ++ t503):=⟨_,rfl⟩
            replace H:((spec_l02Number.f k1 ((rd_T79 l0 x4_1).f1) 4).bind fun t510=> (if y506.length + t510.length < 140737488355328 then (spec_l02Bytes.l0 k1 l0 (y506 ++ t510) (wrap64 (x4_1 + 1))) else (none)))=some r:=by first|(rw [hy506];with_reducible exact H)|(have H2_:=(Option.bind_some _ _).symm.trans H;rw [hy506];with_reducible exact H2_)|(have H2_:=(Option.bind_some _ _).symm.trans H;with_reducible exact H2_)|with_reducible exact H|(rw [hy506];exact H)|exact H
            have Ny506:=Aside0.mk hy506
            clear hy506
            replace H:=Option.bind_eq_some_iff.mp H
            obtain ⟨t510,A80,H⟩:=H
            replace H:(if y506.length + t510.length < 140737488355328 then (spec_l02Bytes.l0 k1 l0 (y506 ++ t510) (wrap64 (x4_1 + 1))) else (none))=some r:=H
            have A8:=Aside0.mk A80
            clear A80
            by_cases c9:y506.length + t510.length < 140737488355328
            · rw [if_pos c9] at H
              have LMc9:=Aside0.mk c9
              clear c9
              obtain ⟨y513,hy513⟩:∃ y_:List Int,y_=(y506 ++ t510):=⟨_,rfl⟩
              replace H:(spec_l02Bytes.l0 k1 l0 y513 (wrap64 (x4_1 + 1)))=some r:=by first|(rw [hy513];with_reducible exact H)|(have H2_:=(Option.bind_some _ _).symm.trans H;rw [hy513];with_reducible exact H2_)|(have H2_:=(Option.bind_some _ _).symm.trans H;with_reducible exact H2_)|with_reducible exact H|(rw [hy513];exact H)|exact H
              have Ny513:=Aside0.mk hy513
              clear hy513
              have H':=Aside0.mk H
              clear H
              try go_wp2
              have n0_:=Aside0.mk (Kd.R_drew HO_3.out)
              have n1_:=Aside0.mk (below_drew1 HB.out)
              clear HO_3
              clear HB
              have HO_3:=n0_
              have HB:=n1_
              clear n0_ n1_
              have p502:0 ≤ (x4_1:Int):=of_decide_eq_true (by first|(with_reducible assumption)|assumption)
              have q502:x4_1 < (l0.length:Int):=of_decide_eq_true (by first|(with_reducible assumption)|assumption)
              obtain ⟨ad502,e502,hx502_0,hx502_1⟩:=at_T79 HR0.out x4_1 p502 q502
              have hw502_1:=hx502_1
              have hw502_0:=hx502_0
              cases e502
              replace hx502_0:=(HB.out.cell (World.block_lt_of_cell? w _ hx502_0)).trans hx502_0
              replace hx502_1:=(HB.out.cell (World.block_lt_of_cell? w _ hx502_1)).trans hx502_1
              replace p502:=eq_true p502
              replace q502:=eq_true q502
              have p509:0 ≤ (x4_1:Int):=of_decide_eq_true (by first|(with_reducible assumption)|assumption)
              have q509:x4_1 < (l0.length:Int):=of_decide_eq_true (by first|(with_reducible assumption)|assumption)
              obtain ⟨ad509,e509,hx509_0,hx509_1⟩:=at_T79 HR0.out x4_1 p509 q509
              have hw509_1:=hx509_1
              have hw509_0:=hx509_0
              obtain rfl:ad502=ad509:=(by injection e509)
              replace hx509_0:=(HB.out.cell (World.block_lt_of_cell? w _ hx509_0)).trans hx509_0
              replace hx509_1:=(HB.out.cell (World.block_lt_of_cell? w _ hx509_1)).trans hx509_1
              replace p509:=eq_true p509
              replace q509:=eq_true q509
              refine start_ (n:=16) (S:=fun w'=> w'.cell? (ad502.add ((x4_1).toNat * 2))=some (.int .i64 ((rd_T79 l0 x4_1).f0)) ∧ w'.cell? ⟨(ad502.add ((x4_1).toNat * 2)).block,(ad502.add ((x4_1).toNat * 2)).off + 1,none⟩=some (.int .i64 ((rd_T79 l0 x4_1).f1)) ∧ w'.cell? (ad502.add ((x4_1).toNat * 2))=some (.int .i64 ((rd_T79 l0 x4_1).f0)) ∧ w'.cell? ⟨(ad502.add ((x4_1).toNat * 2)).block,(ad502.add ((x4_1).toNat * 2)).off + 1,none⟩=some (.int .i64 ((rd_T79 l0 x4_1).f1))) (ds:= []) #[false,false,false,false,false,false,false,false,false,false,false,false,false,false,false,false] (by kernel_rfl) rfl rfl ⟨((HB.out.cell (World.block_lt_of_cell? w _ hw502_0)).trans hw502_0),((HB.out.cell (World.block_lt_of_cell? w _ hw502_1)).trans hw502_1),((HB.out.cell (World.block_lt_of_cell? w _ hw509_0)).trans hw509_0),((HB.out.cell (World.block_lt_of_cell? w _ hw509_1)).trans hw509_1)⟩ (fun hHeld=> ?_);refine with_tabW spec_l02Bytes.tab5 spec_l02Bytes.bits5 (fun HT_ HW_=> ?_)
              generalize wr.drew=w10 at HO_3 HB hx502_0 hx502_1 hx509_0 hx509_1 hHeld ⊢
              refine pure_ (i:=0) (N:=some 12) (v:=?_) (a':=?_) #[true,false,false,false,false,false,false,false,false,false,false,false,false,false,false,false] rfl rfl (any_of HT_.out (by kernel_rfl)) (fun _ _ _ h=> h) (Or.inl ⟨by rfl,?_⟩) ?_ ?_
              rotate_left
              · intro w'
                go_simp
                with_reducible rfl
              rotate_left
              · simp only [Act.put,List.setIfInBounds_toArray,List.set_cons_zero,List.set_cons_succ,i64_w,i32_w]
                rfl
              refine pure_ (i:=1) (N:=some 13) (v:=?_) (a':=?_) #[true,true,false,false,false,false,false,false,false,false,false,false,false,false,false,false] rfl rfl (any_of HT_.out (by kernel_rfl)) (fun _ _ _ h=> h) (Or.inl ⟨by rfl,?_⟩) ?_ ?_
              rotate_left
              · intro w'
                go_simp
                with_reducible rfl
              rotate_left
              · simp only [Act.put,List.setIfInBounds_toArray,List.set_cons_zero,List.set_cons_succ,i64_w,i32_w]
                rfl
              refine pure_ (i:=2) (N:=some 14) (v:=?_) (a':=?_) #[true,true,true,false,false,false,false,false,false,false,false,false,false,false,false,false] rfl rfl (any_of HT_.out (by kernel_rfl)) (fun _ _ _ h=> h) (Or.inl ⟨by rfl,?_⟩) ?_ ?_
              rotate_left
              · intro w'
                go_simp
                with_reducible rfl
              rotate_left
              · simp only [Act.put,List.setIfInBounds_toArray,List.set_cons_zero,List.set_cons_succ,i64_w,i32_w]
                rfl
              refine pure_ (i:=3) (N:=some 15) (v:=?_) (a':=?_) #[true,true,true,true,false,false,false,false,false,false,false,false,false,false,false,false] rfl rfl (any_of HT_.out (by kernel_rfl)) (fun _ _ _ h=> h) (Or.inl ⟨by rfl,?_⟩) ?_ ?_
              rotate_left
              · intro w'
                go_simp
                with_reducible rfl
              rotate_left
              · simp only [Act.put,List.setIfInBounds_toArray,List.set_cons_zero,List.set_cons_succ,i64_w,i32_w]
                rfl
              refine pure_ (i:=4) (N:=some 16) (v:=?_) (a':=?_) #[true,true,true,true,true,false,false,false,false,false,false,false,false,false,false,false] rfl rfl (any_of HT_.out (by kernel_rfl)) (fun _ _ _ h=> h) (Or.inl ⟨by rfl,?_⟩) ?_ ?_
              rotate_left
              · intro w'
                go_simp
                with_reducible rfl
              rotate_left
              · simp only [Act.put,List.setIfInBounds_toArray,List.set_cons_zero,List.set_cons_succ,i64_w,i32_w]
                rfl
              refine pure_ (i:=8) (N:=some 20) (v:=?_) (a':=?_) #[true,true,true,true,true,false,false,false,true,false,false,false,false,false,false,false] rfl rfl (any_of HT_.out (by kernel_rfl)) (fun _ _ _ h=> h) (Or.inl ⟨by rfl,?_⟩) ?_ ?_
              rotate_left
              · intro w'
                go_simp
                with_reducible rfl
              rotate_left
              · simp only [Act.put,List.setIfInBounds_toArray,List.set_cons_zero,List.set_cons_succ,i64_w,i32_w]
                rfl
              refine pure_ (i:=9) (N:=some 21) (v:=?_) (a':=?_) #[true,true,true,true,true,false,false,false,true,true,false,false,false,false,false,false] rfl rfl (any_of HT_.out (by kernel_rfl)) (fun _ _ _ h=> h) (Or.inl ⟨by rfl,?_⟩) ?_ ?_
              rotate_left
              · intro w'
                go_simp
                with_reducible rfl
              rotate_left
              · simp only [Act.put,List.setIfInBounds_toArray,List.set_cons_zero,List.set_cons_succ,i64_w,i32_w]
                rfl
              refine pure_ (i:=10) (N:=some 22) (v:=?_) (a':=?_) #[true,true,true,true,true,false,false,false,true,true,true,false,false,false,false,false] rfl rfl (any_of HT_.out (by kernel_rfl)) (fun _ _ _ h=> h) (Or.inl ⟨by rfl,?_⟩) ?_ ?_
              rotate_left
              · intro w'
                go_simp
                with_reducible rfl
              rotate_left
              · simp only [Act.put,List.setIfInBounds_toArray,List.set_cons_zero,List.set_cons_succ,i64_w,i32_w]
                rfl
              refine pure_ (i:=11) (N:=some 23) (v:=?_) (a':=?_) #[true,true,true,true,true,false,false,false,true,true,true,true,false,false,false,false] rfl rfl (any_of HT_.out (by kernel_rfl)) (fun _ _ _ h=> h) (Or.inl ⟨by rfl,?_⟩) ?_ ?_
              rotate_left
              · intro w'
                go_simp
                with_reducible rfl
              rotate_left
              · simp only [Act.put,List.setIfInBounds_toArray,List.set_cons_zero,List.set_cons_succ,i64_w,i32_w]
                rfl
              refine take_ (i:=5) (N:=some 17) (v:=?_) (a':=?_) #[true,true,true,true,true,true,false,false,true,true,true,true,false,false,false,false] rfl rfl (take_ofW HT_.out HW_.out (by kernel_rfl)) (fun _ _ _ h=> h) (Or.inl ⟨by rfl,?_⟩) hHeld ?_ ?_
              rotate_left
              · rintro w' ⟨s0,s1,s2,s3⟩
                go_simp
                with_reducible rfl
              rotate_left
              · simp only [Act.put,List.setIfInBounds_toArray,List.set_cons_zero,List.set_cons_succ,i64_w,i32_w]
                rfl
              refine take_ (i:=12) (N:=some 24) (v:=?_) (a':=?_) #[true,true,true,true,true,true,false,false,true,true,true,true,true,false,false,false] rfl rfl (take_ofW HT_.out HW_.out (by kernel_rfl)) (fun _ _ _ h=> h) (Or.inl ⟨by rfl,?_⟩) hHeld ?_ ?_
              rotate_left
              · rintro w' ⟨s0,s1,s2,s3⟩
                go_simp
                with_reducible rfl
              rotate_left
              · simp only [Act.put,List.setIfInBounds_toArray,List.set_cons_zero,List.set_cons_succ,i64_w,i32_w]
                rfl
              refine one_ (i:=6) (N:=some 18) #[true,true,true,true,true,true,true,false,true,true,true,true,true,false,false,false] rfl rfl (one_of HT_.out (by kernel_rfl)) (by decide) (fun K hK=> ?_)
              refine goes_ Try.func148 (by kernel_rfl) rfl #[.int .i64 ((rd_T79 l0 x4_1).f0),.int .i64 4] (by rfl) rfl rfl (by (try simp only [List.map_toArray,List.map_cons,List.map_nil]);first|done|rfl|(simp only [List.length_drop,List.length_take];rfl)) ?_
              with_reducible refine (spec_l02Number.calls k1 ((rd_T79 l0 x4_1).f0) 4 t503 _ A6.out).mono ?_
              rintro e w11 ⟨v504,rfl,ho0,hb⟩
              refine ⟨_,rfl,?_⟩
              have n0_:=Aside0.mk (Kd.R_elder' (by (with_reducible repeat (first|apply Kd.R_alloc|apply Kd.R_drewN|apply Kd.R_drew));exact HO_3.out) (Kd.R_base ho0) hb)
              have n1_:=Aside0.mk (Kd.R_lower (Kd.R_new' ho0 (Kd.R_lt (by (with_reducible repeat (first|apply Kd.R_alloc|apply Kd.R_drewN|apply Kd.R_drew));exact HO_3.out))) (below_size (by repeat (first|(with_reducible first|exact HB.out|apply below_alloc|apply pw_below_drewN|apply below_drew1)|exact HB.out))))
              have n2_:=Aside0.mk (below_step (by repeat (first|(with_reducible first|exact HB.out|apply below_alloc|apply pw_below_drewN|apply below_drew1)|exact HB.out)) hb)
              clear HO_3
              clear HB
              have HO_3:=n0_
              have HO505:=n1_
              have HB:=n2_
              clear n0_ n1_ n2_
              (try clear hb)
              (try clear hb2)
              (try clear hk)
              (try clear hi)
              (try clear ho0)
              obtain ⟨Ao13,co13,eo13⟩:=Kd.R_slice HO505.out
              (first|subst eo13|(injection eo13 with f1_ f2_ f3_;have f4_:=f1_.symm;have f5_:=f3_.symm;clear f1_ f2_ f3_;subst f4_;subst f5_))
              refine hK.out _ _ ⟨((HB.out.cell (World.block_lt_of_cell? w _ hw502_0)).trans hw502_0),((HB.out.cell (World.block_lt_of_cell? w _ hw502_1)).trans hw502_1),((HB.out.cell (World.block_lt_of_cell? w _ hw509_0)).trans hw509_0),((HB.out.cell (World.block_lt_of_cell? w _ hw509_1)).trans hw509_1)⟩ (fun hHeld=> ?_)
              clear hK K
              refine norm_ (a':=?_) ?_ ?_
              rotate_left
              · show Act.put _ (some 18) _=_
                simp only [Act.put,List.setIfInBounds_toArray,List.set_cons_zero,List.set_cons_succ,i64_w,i32_w]
                rfl
              refine one_ (i:=7) (N:=some 19) #[true,true,true,true,true,true,true,true,true,true,true,true,true,false,false,false] rfl rfl (one_of HT_.out (by kernel_rfl)) (by decide) (fun K hK=> ?_)
              refine Kd.R_append_rows_step (Kd.int .u8) (w0:=w) w.heap.size (by rfl) (.tmp 12) (.tmp 18) 25 5 (.int .u8 0) 1 rfl Try.underlying25 info5 rfl (by decide) (by omega) u3 x3_1 t503 _ _ _ (fun k_=> some k_ ≠ (.slice Ao13 t503.length co13:Value).ownBlock) (fun _=> False) rfl rfl ?aO ?aR (fun _ _ h=> h) (fun _ h=> h.elim) ?aF ?aB ?aS ?aL ?_
              (case aR=> repeat (first|exact (Kd.R_reads' HO505.out).2.2|(with_reducible refine Kd.C_alloc ?_ _)|(with_reducible refine Kd.C_drewN ?_ _)|(with_reducible refine Kd.C_drew ?_)))
              (case aB=> exact (by repeat (first|(with_reducible first|exact HB.out|apply below_alloc|apply pw_below_drewN|apply below_drew1)|exact HB.out)))
              (case aF=> exact (fun k_ hk=> Kd.fresh' (Kd.R_lt (by (with_reducible repeat (first|apply Kd.R_alloc|apply Kd.R_drewN|apply Kd.R_drew));exact HO505.out)) k_ hk))
              (case aO=> exact (by (with_reducible repeat (first|apply Kd.R_alloc|apply Kd.R_drewN|apply Kd.R_drew));exact Kd.R_mono HO_3.out (fun _ hk=> hk.2)))
              (case aS=> exact (below_size (by repeat (first|(with_reducible first|exact HB.out|apply below_alloc|apply pw_below_drewN|apply below_drew1)|exact HB.out))))
              (case aL=> have:=LMc7.out;omega)
              intro v507 w12 ho hb hg hat
              rw [← Ny506.out] at ho
              have n0_:=Aside0.mk (Kd.R_after (ok:=(fun _=> True)) (by (with_reducible repeat (first|apply Kd.R_alloc|apply Kd.R_drewN|apply Kd.R_drew));exact HO505.out) hg hat)
              have n1_:=Aside0.mk (hb)
              have n2_:=Aside0.mk (ho)
              clear HO505
              clear HB
              clear HO_3
              have HO505:=n0_
              have HB:=n1_
              have HO508:=n2_
              clear n0_ n1_ n2_
              clear ho hb hg hat
              refine hK.out _ _ ⟨((HB.out.cell (World.block_lt_of_cell? w _ hw502_0)).trans hw502_0),((HB.out.cell (World.block_lt_of_cell? w _ hw502_1)).trans hw502_1),((HB.out.cell (World.block_lt_of_cell? w _ hw509_0)).trans hw509_0),((HB.out.cell (World.block_lt_of_cell? w _ hw509_1)).trans hw509_1)⟩ (fun hHeld=> ?_)
              clear hK K
              refine norm_ (a':=?_) ?_ ?_
              rotate_left
              · show Act.put _ (some 19) _=_
                simp only [Act.put,List.setIfInBounds_toArray,List.set_cons_zero,List.set_cons_succ,i64_w,i32_w]
                rfl
              refine one_ (i:=13) (N:=some 25) #[true,true,true,true,true,true,true,true,true,true,true,true,true,true,false,false] rfl rfl (one_of HT_.out (by kernel_rfl)) (by decide) (fun K hK=> ?_)
              refine goes_ Try.func148 (by kernel_rfl) rfl #[.int .i64 ((rd_T79 l0 x4_1).f1),.int .i64 4] (by rfl) rfl rfl (by (try simp only [List.map_toArray,List.map_cons,List.map_nil]);first|done|rfl|(simp only [List.length_drop,List.length_take];rfl)) ?_
              with_reducible refine (spec_l02Number.calls k1 ((rd_T79 l0 x4_1).f1) 4 t510 _ A8.out).mono ?_
              rintro e w14 ⟨v511,rfl,ho0,hb⟩
              refine ⟨_,rfl,?_⟩
              have n0_:=Aside0.mk (Kd.R_elder' (by (with_reducible repeat (first|apply Kd.R_alloc|apply Kd.R_drewN|apply Kd.R_drew));exact HO505.out) (Kd.R_base ho0) hb)
              have n1_:=Aside0.mk (Kd.R_elder' (by (with_reducible repeat (first|apply Kd.R_alloc|apply Kd.R_drewN|apply Kd.R_drew));exact HO508.out) (Kd.R_base ho0) hb)
              have n2_:=Aside0.mk (Kd.R_lower (Kd.R_new' (Kd.R_new' ho0 (Kd.R_lt (by (with_reducible repeat (first|apply Kd.R_alloc|apply Kd.R_drewN|apply Kd.R_drew));exact HO505.out))) (Kd.R_lt (by (with_reducible repeat (first|apply Kd.R_alloc|apply Kd.R_drewN|apply Kd.R_drew));exact HO508.out))) (below_size (by repeat (first|(with_reducible first|exact HB.out|apply below_alloc|apply pw_below_drewN|apply below_drew1)|exact HB.out))))
              have n3_:=Aside0.mk (below_step (by repeat (first|(with_reducible first|exact HB.out|apply below_alloc|apply pw_below_drewN|apply below_drew1)|exact HB.out)) hb)
              clear HO505
              clear HO508
              clear HB
              have HO505:=n0_
              have HO508:=n1_
              have HO512:=n2_
              have HB:=n3_
              clear n0_ n1_ n2_ n3_
              (try clear hb)
              (try clear hb2)
              (try clear hk)
              (try clear hi)
              (try clear ho0)
              obtain ⟨Ao16,co16,eo16⟩:=Kd.R_slice HO512.out
              (first|subst eo16|(injection eo16 with f1_ f2_ f3_;have f4_:=f1_.symm;have f5_:=f3_.symm;clear f1_ f2_ f3_;subst f4_;subst f5_))
              refine hK.out _ _ ⟨((HB.out.cell (World.block_lt_of_cell? w _ hw502_0)).trans hw502_0),((HB.out.cell (World.block_lt_of_cell? w _ hw502_1)).trans hw502_1),((HB.out.cell (World.block_lt_of_cell? w _ hw509_0)).trans hw509_0),((HB.out.cell (World.block_lt_of_cell? w _ hw509_1)).trans hw509_1)⟩ (fun hHeld=> ?_)
              clear hK K
              refine norm_ (a':=?_) ?_ ?_
              rotate_left
              · show Act.put _ (some 25) _=_
                simp only [Act.put,List.setIfInBounds_toArray,List.set_cons_zero,List.set_cons_succ,i64_w,i32_w]
                rfl
              refine one_ (i:=14) (N:=some 26) #[true,true,true,true,true,true,true,true,true,true,true,true,true,true,true,false] rfl rfl (one_of HT_.out (by kernel_rfl)) (by decide) (fun K hK=> ?_)
              refine Kd.R_append_rows_step (Kd.int .u8) (w0:=w) w.heap.size (by rfl) (.tmp 19) (.tmp 25) 25 5 (.int .u8 0) 1 rfl Try.underlying25 info5 rfl (by decide) (by omega) v507 y506 t510 _ _ _ (fun k_=> some k_ ≠ (.slice Ao13 t503.length co13:Value).ownBlock ∧ some k_ ≠ (.slice Ao16 t510.length co16:Value).ownBlock) (fun _=> False) rfl rfl ?aO ?aR (fun _ _ h=> h) (fun _ h=> h.elim) ?aF ?aB ?aS ?aL ?_
              (case aR=> repeat (first|exact (Kd.R_reads' HO512.out).2.2|(with_reducible refine Kd.C_alloc ?_ _)|(with_reducible refine Kd.C_drewN ?_ _)|(with_reducible refine Kd.C_drew ?_)))
              (case aB=> exact (by repeat (first|(with_reducible first|exact HB.out|apply below_alloc|apply pw_below_drewN|apply below_drew1)|exact HB.out)))
              (case aF=> exact (fun k_ hk=> ⟨Kd.fresh' (Kd.R_lt (by (with_reducible repeat (first|apply Kd.R_alloc|apply Kd.R_drewN|apply Kd.R_drew));exact HO505.out)) k_ hk,Kd.fresh' (Kd.R_lt (by (with_reducible repeat (first|apply Kd.R_alloc|apply Kd.R_drewN|apply Kd.R_drew));exact HO512.out)) k_ hk⟩))
              (case aO=> exact (by (with_reducible repeat (first|apply Kd.R_alloc|apply Kd.R_drewN|apply Kd.R_drew));exact HO508.out))
              (case aS=> exact (below_size (by repeat (first|(with_reducible first|exact HB.out|apply below_alloc|apply pw_below_drewN|apply below_drew1)|exact HB.out))))
              (case aL=> have:=LMc9.out;omega)
              intro v514 w15 ho hb hg hat
              rw [← Ny513.out] at ho
              have n0_:=Aside0.mk (Kd.R_after (ok:=(fun k_=> some k_ ≠ (.slice Ao16 t510.length co16:Value).ownBlock)) (by (with_reducible repeat (first|apply Kd.R_alloc|apply Kd.R_drewN|apply Kd.R_drew));exact Kd.R_mono HO505.out (fun _ hk=> ⟨hk.2,hk.1.2⟩)) hg hat)
              have n1_:=Aside0.mk (Kd.R_after (ok:=(fun k_=> some k_ ≠ (.slice Ao13 t503.length co13:Value).ownBlock)) (by (with_reducible repeat (first|apply Kd.R_alloc|apply Kd.R_drewN|apply Kd.R_drew));exact Kd.R_mono HO512.out (fun _ hk=> ⟨hk.1.2,hk.2⟩)) hg hat)
              have n2_:=Aside0.mk (hb)
              have n3_:=Aside0.mk (ho)
              clear HO505
              clear HO512
              clear HB
              clear HO508
              have HO505:=n0_
              have HO512:=n1_
              have HB:=n2_
              have HO515:=n3_
              clear n0_ n1_ n2_ n3_
              clear ho hb hg hat
              refine hK.out _ _ ⟨((HB.out.cell (World.block_lt_of_cell? w _ hw502_0)).trans hw502_0),((HB.out.cell (World.block_lt_of_cell? w _ hw502_1)).trans hw502_1),((HB.out.cell (World.block_lt_of_cell? w _ hw509_0)).trans hw509_0),((HB.out.cell (World.block_lt_of_cell? w _ hw509_1)).trans hw509_1)⟩ (fun hHeld=> ?_)
              clear hK K
              refine norm_ (a':=?_) ?_ ?_
              rotate_left
              · show Act.put _ (some 26) _=_
                simp only [Act.put,List.setIfInBounds_toArray,List.set_cons_zero,List.set_cons_succ,i64_w,i32_w]
                rfl
              refine pure_ (i:=15) (N:=some 3) (v:=?_) (a':=?_) #[true,true,true,true,true,true,true,true,true,true,true,true,true,true,true,true] rfl rfl (any_of HT_.out (by kernel_rfl)) (fun _ _ _ h=> h) (Or.inl ⟨by rfl,?_⟩) ?_ ?_
              rotate_left
              · intro w'
                go_simp
                with_reducible rfl
              rotate_left
              · simp only [Act.put,List.setIfInBounds_toArray,List.set_cons_zero,List.set_cons_succ,i64_w,i32_w]
                rfl
              refine done_ (done_of HT_.out (by kernel_rfl)) ?_
              try go_wp2
              go_roundg k1
              case measure=> have:=HK1.out;omega
              case rel=> exact ⟨(y513),(wrap64 (x4_1 + 1)),(by first|rfl|(simp;done)|(simp [*];done)),H',⟨by have:=HK1.out;omega⟩,⟨by (with_reducible repeat (first|apply Kd.R_alloc|apply Kd.R_drewN|apply Kd.R_drew));exact Kd.R_mono HO515.out (fun _ hk=> trivial)⟩,⟨by repeat (first|(with_reducible first|exact HB.out|apply below_alloc|apply pw_below_drewN|apply below_drew1)|exact HB.out)⟩⟩
            · rw [if_neg c9] at H
              exact absurd H (by simp)
          · rw [if_neg c7] at H
            exact absurd H (by simp)
        · rw [if_neg c5] at H
          exact absurd H (by simp)
      · rw [if_neg c4] at H
        have c4b0:decide (x4_1 < (l0.length:Int))=false:=decide_eq_false c4
        clear c4
        obtain rfl:=Option.some.inj H
        go_wp2
        go_ret
        exact ⟨_,by first|rfl|(simp [errW_none,errW_some] <;> rfl)|(simp [*,errW_none,errW_some] <;> rfl),by (with_reducible repeat (first|apply Kd.R_alloc|apply Kd.R_drewN|apply Kd.R_drew));exact HO_3.out,by repeat (first|(with_reducible first|exact HB.out|apply below_alloc|apply pw_below_drewN|apply below_drew1)|exact HB.out)⟩
def spec_l05Absorb.f (k:Nat) (l0_0:List (S79)) (a0_1:Int) (a0_2:ByteArray) (a0_3:Int) (a1:ByteArray):Option ((List (S79)) × Int × ByteArray × Int):=if a0_2.size + 6 ≤ 9223372036854775807 then ((spec_l02Number.f k (a1.size:Int) 4).bind fun t419=> (if (a0_2 ++ (⟨#[97,98,115,111,114,98]⟩:ByteArray)).size + (strOfNums t419).size ≤ 9223372036854775807 then (if ((a0_2 ++ (⟨#[97,98,115,111,114,98]⟩:ByteArray)) ++ (strOfNums t419)).size + a1.size ≤ 9223372036854775807 then ((spec_l03Hash.f (((a0_2 ++ (⟨#[97,98,115,111,114,98]⟩:ByteArray)) ++ (strOfNums t419)) ++ a1)).bind fun t422=> (some (l0_0,a0_1,t422,0))) else (none)) else (none))) else (none)
theorem spec_l05Absorb.mono:∀ a0 a1 a2 a3 a4 k,LeO (spec_l05Absorb.f k a0 a1 a2 a3 a4) (spec_l05Absorb.f (k + 1) a0 a1 a2 a3 a4):=by
  intro a0 a1 a2 a3 a4 k
  unfold spec_l05Absorb.f
  repeat' first
      |(with_reducible exact spec_l02Number.mono _ _ _)
      |(with_reducible exact LeO.refl _)
      |(with_reducible exact LeO.none _)
      |(with_reducible refine LeO.ite ?_ ?_)
      |(with_reducible refine LeO.bind ?_ (fun _=> ?_))
      |exact spec_l02Number.mono _ _ _
      |exact LeO.none _
      |refine LeO.ite ?_ ?_
      |refine LeO.bind ?_ (fun _=> ?_)
def spec_l05Absorb.T1:Bool × List (List Nat × List Nat):=(true, [([], []),([0], [0]),([1], [1]),([], []),([3], [3]),([4], [4]),([5], [5]),([2,6], [2,6]),([], []),([7,8], [7,8]),([9,5], [9]),([0,1,2,3,4,5,6,7,8,9,10], []),([11,10,10,0,1,2,3,4,5,6,7,8,9,10], [10,11])])
def spec_l05Absorb.B1:List Nat:= [0,1,3,0,8,24,56,127,0,511,1023,2047,4095]
theorem spec_l05Absorb.tab1:rtab .any (opsOf Try.f126 1)=spec_l05Absorb.T1:=by kernel_rfl
theorem spec_l05Absorb.bits1:waitsOk spec_l05Absorb.T1.2 spec_l05Absorb.B1=true:=by kernel_rfl
set_option maxHeartbeats 8000000 in
set_option maxRecDepth 100000 in
theorem spec_l05Absorb.calls (k:Nat) (P0_0_:Nat → Prop) (u9000_:Value) (l0_0:List (S79)) (a0_1:Int) (a0_2:ByteArray) (a0_3:Int) (a1:ByteArray) (r1:List (S79)) (r2:Int) (r3:ByteArray) (r4:Int) (w0 w:World) (hB:Below w0.heap.size w0 w) (ho0_0:Kd.R k79 79 w w0.heap.size P0_0_ u9000_ l0_0) (h:spec_l05Absorb.f k l0_0 a0_1 a0_2 a0_3 a1=some (r1,r2,r3,r4)):
    Calls Try.prog 126 #[.agg #[u9000_,.int .i64 a0_1,.string a0_2,.int .i64 a0_3],.string a1] w fun e w'=> ∃ v0_:Value,e= .returned (.agg #[v0_,.int .i64 r2,.string r3,.int .i64 r4]) ∧ Kd.R k79 79 w' w0.heap.size (fun k_=> (P0_0_ k_ ∨ w.heap.size ≤ k_)) v0_ r1 ∧ Below w0.heap.size w0 w' ∧ Kept w w' (fun k_=> P0_0_ k_):=by
  have hu36:=Try.underlying36
  have HO0_0:=Aside0.mk (show Kd.R k79 79 w w0.heap.size (fun k_=> (P0_0_ k_ ∨ w.heap.size ≤ k_)) u9000_ l0_0 from Kd.R_mono ho0_0 (fun k_ hk=> (.inl hk)))
  have HK:=Aside0.mk (Kept.refl w (fun k_=> P0_0_ k_))
  have HW0:=Aside0.mk hB.size
  have HB:=Aside0.mk hB
  clear hB
  have H:(if a0_2.size + 6 ≤ 9223372036854775807 then ((spec_l02Number.f k (a1.size:Int) 4).bind fun t419=> (if (a0_2 ++ (⟨#[97,98,115,111,114,98]⟩:ByteArray)).size + (strOfNums t419).size ≤ 9223372036854775807 then (if ((a0_2 ++ (⟨#[97,98,115,111,114,98]⟩:ByteArray)) ++ (strOfNums t419)).size + a1.size ≤ 9223372036854775807 then ((spec_l03Hash.f (((a0_2 ++ (⟨#[97,98,115,111,114,98]⟩:ByteArray)) ++ (strOfNums t419)) ++ a1)).bind fun t422=> (some (l0_0,a0_1,t422,0))) else (none)) else (none))) else (none))=some (r1,r2,r3,r4):=h
  clear h
  by_cases c3:a0_2.size + 6 ≤ 9223372036854775807
  · rw [if_pos c3] at H
    have c3b0:=eq_true c3
    have c3b1:decide (a0_2.size + 6 ≤ 9223372036854775807)=true:=decide_eq_true c3
    try have c3b2:(9223372036854775807 < a0_2.size + 6)=False:=eq_false (Nat.not_lt.2 c3)
    replace H:=Option.bind_eq_some_iff.mp H
    obtain ⟨t419,A40,H⟩:=H
    replace H:(if (a0_2 ++ (⟨#[97,98,115,111,114,98]⟩:ByteArray)).size + (strOfNums t419).size ≤ 9223372036854775807 then (if ((a0_2 ++ (⟨#[97,98,115,111,114,98]⟩:ByteArray)) ++ (strOfNums t419)).size + a1.size ≤ 9223372036854775807 then ((spec_l03Hash.f (((a0_2 ++ (⟨#[97,98,115,111,114,98]⟩:ByteArray)) ++ (strOfNums t419)) ++ a1)).bind fun t422=> (some (l0_0,a0_1,t422,0))) else (none)) else (none))=some (r1,r2,r3,r4):=H
    have A4:=Aside0.mk A40
    clear A40
    by_cases c5:(a0_2 ++ (⟨#[97,98,115,111,114,98]⟩:ByteArray)).size + (strOfNums t419).size ≤ 9223372036854775807
    · rw [if_pos c5] at H
      have c5b0:=eq_true c5
      have c5b1:decide ((a0_2 ++ (⟨#[97,98,115,111,114,98]⟩:ByteArray)).size + (strOfNums t419).size ≤ 9223372036854775807)=true:=decide_eq_true c5
      try have c5b2:(9223372036854775807 < (a0_2 ++ (⟨#[97,98,115,111,114,98]⟩:ByteArray)).size + (strOfNums t419).size)=False:=eq_false (Nat.not_lt.2 c5)
      try have c5b3:(9223372036854775807 < a0_2.size + 6 + (strOfNums t419).size)=False:=by have h_:=c5b2;simp only [ByteArray.size_append] at h_;exact h_
      by_cases c6:((a0_2 ++ (⟨#[97,98,115,111,114,98]⟩:ByteArray)) ++ (strOfNums t419)).size + a1.size ≤ 9223372036854775807
      · rw [if_pos c6] at H
        have c6b0:=eq_true c6
        have c6b1:decide (((a0_2 ++ (⟨#[97,98,115,111,114,98]⟩:ByteArray)) ++ (strOfNums t419)).size + a1.size ≤ 9223372036854775807)=true:=decide_eq_true c6
        try have c6b2:(9223372036854775807 < ((a0_2 ++ (⟨#[97,98,115,111,114,98]⟩:ByteArray)) ++ (strOfNums t419)).size + a1.size)=False:=eq_false (Nat.not_lt.2 c6)
        try have c6b3:(9223372036854775807 < a0_2.size + 6 + (strOfNums t419).size + a1.size)=False:=by have h_:=c6b2;simp only [ByteArray.size_append] at h_;exact h_
        replace H:=Option.bind_eq_some_iff.mp H
        obtain ⟨t422,A70,H⟩:=H
        replace H:(some (l0_0,a0_1,t422,0))=some (r1,r2,r3,r4):=H
        have A7:=Aside0.mk A70
        clear A70
        simp only [Option.some.injEq,Prod.mk.injEq] at H
        obtain ⟨rfl,rfl,rfl,rfl⟩:=H
        obtain ⟨Ao8,co8,eo8⟩:=Kd.R_slice HO0_0.out
        subst eo8
        go_enter Try.func126,Try.ntmps126
        try go_wp2_with (first|((with_reducible refine gate_dst (N:=2) rfl ?_);refine box_event ?hg (N:=2) ?hd (cs:= #[.slice Ao8 l0_0.length co8,.int .i64 a0_1,.string a0_2,.int .i64 a0_3]) (t:=36) ?hr ?_;(case hd=> rfl);(case hg=> rfl);(case hr=> first|(go_simp;done)|(go_simp;rfl));intro gb417 hg w9 hbox hb;have n0_:=Aside0.mk (Kd.R_below (by (with_reducible repeat (first|apply Kd.R_alloc|apply Kd.R_drewN|apply Kd.R_drew));exact HO0_0.out) hb);have n1_:=Aside0.mk (Kept.below (S:=(fun k_=> P0_0_ k_)) (by repeat (first|(with_reducible first|exact HK.out|apply Kept.alloc|apply Kept.drewN|apply Kept.drew)|exact HK.out)) hb);have n2_:=Aside0.mk (below_step (by repeat (first|(with_reducible first|exact HB.out|apply below_alloc|apply pw_below_drewN|apply below_drew1)|exact HB.out)) hb);have n3_:=Aside0.mk (hbox);have n4_:=Aside0.mk ((by rw [hg];exact (by first|exact HK.out.1|exact (show Kept w _ (fun k_=> P0_0_ k_) from by repeat (first|(with_reducible first|exact HK.out|apply Kept.alloc|apply Kept.drewN|apply Kept.drew)|exact HK.out)).1):w.heap.size ≤ gb417));have n5_:=Aside0.mk ((by rw [hg];exact (below_size (by repeat (first|(with_reducible first|exact HB.out|apply below_alloc|apply pw_below_drewN|apply below_drew1)|exact HB.out))):w0.heap.size ≤ gb417));clear HO0_0;clear HK;clear HB;have HO0_0:=n0_;have HK:=n1_;have HB:=n2_;have BK417:=n3_;have GW417:=n4_;have GE417:=n5_;clear n0_ n1_ n2_ n3_ n4_ n5_;clear hb hbox hg)|((with_reducible refine gate_dst (N:=4) rfl ?_);refine box_event ?hg (N:=4) ?hd (cs:= #[.slice none 0 0,.int .i64 0,.string (⟨#[]⟩:ByteArray),.int .i64 0]) (t:=36) ?hr ?_;(case hd=> rfl);(case hg=> rfl);(case hr=> first|(go_simp;done)|(go_simp;rfl));intro gb418 hg w10 hbox hb;have n0_:=Aside0.mk (Kd.R_below (by (with_reducible repeat (first|apply Kd.R_alloc|apply Kd.R_drewN|apply Kd.R_drew));exact HO0_0.out) hb);have n1_:=Aside0.mk (blk_below (g:=gb417) (o:= .cells #[.slice Ao8 l0_0.length co8,.int .i64 a0_1,.string a0_2,.int .i64 a0_3] 36 (0,0)) (by (with_reducible repeat (first|apply bN|apply bd|apply bA));exact BK417.out) hb);have n2_:=Aside0.mk (Kept.below (S:=(fun k_=> P0_0_ k_)) (by repeat (first|(with_reducible first|exact HK.out|apply Kept.alloc|apply Kept.drewN|apply Kept.drew|refine Kept.setCell ?_ (.inr GW417.out) _)|exact HK.out)) hb);have n3_:=Aside0.mk (below_step (by repeat (first|(with_reducible first|exact HB.out|apply below_alloc|apply pw_below_drewN|apply below_drew1|refine below_set ?_ GE417.out)|exact HB.out)) hb);have n4_:=Aside0.mk (hbox);have n5_:=Aside0.mk ((by rw [hg];exact (by first|exact HK.out.1|exact (show Kept w _ (fun k_=> P0_0_ k_) from by repeat (first|(with_reducible first|exact HK.out|apply Kept.alloc|apply Kept.drewN|apply Kept.drew|refine Kept.setCell ?_ (.inr GW417.out) _)|exact HK.out)).1):w.heap.size ≤ gb418));have n6_:=Aside0.mk ((by rw [hg];exact (below_size (by repeat (first|(with_reducible first|exact HB.out|apply below_alloc|apply pw_below_drewN|apply below_drew1|refine below_set ?_ GE417.out)|exact HB.out))):w0.heap.size ≤ gb418));have n7_:=Aside0.mk ((by rw [hg];exact Nat.ne_of_lt (blk_lt (g:=gb417) (o:= .cells #[.slice Ao8 l0_0.length co8,.int .i64 a0_1,.string a0_2,.int .i64 a0_3] 36 (0,0)) (by (with_reducible repeat (first|apply bN|apply bd|apply bA));exact BK417.out)):gb417 ≠ gb418));have n8_:=Aside0.mk ((by rw [hg];exact Nat.ne_of_gt (blk_lt (g:=gb417) (o:= .cells #[.slice Ao8 l0_0.length co8,.int .i64 a0_1,.string a0_2,.int .i64 a0_3] 36 (0,0)) (by (with_reducible repeat (first|apply bN|apply bd|apply bA));exact BK417.out)):gb418 ≠ gb417));clear HO0_0;clear BK417;clear HK;clear HB;have HO0_0:=n0_;have BK417:=n1_;have HK:=n2_;have HB:=n3_;have BK418:=n4_;have GW418:=n5_;have GE418:=n6_;have NB417_418:=n7_;have NB418_417:=n8_;clear n0_ n1_ n2_ n3_ n4_ n5_ n6_ n7_ n8_;clear hb hbox hg))
        have n0_:=Aside0.mk (Kd.R_drew HO0_0.out)
        have n1_:=Aside0.mk (blk_drew BK417.out)
        have n2_:=Aside0.mk (blk_drew BK418.out)
        have n3_:=Aside0.mk (Kept.drew HK.out)
        have n4_:=Aside0.mk (below_drew1 HB.out)
        clear HO0_0
        clear BK417
        clear BK418
        clear HK
        clear HB
        have HO0_0:=n0_
        have BK417:=n1_
        have BK418:=n2_
        have HK:=n3_
        have HB:=n4_
        clear n0_ n1_ n2_ n3_ n4_
        refine start_ (n:=13) (S:=fun w'=> w'.cell? ⟨gb417,0,none⟩=some (.slice Ao8 l0_0.length co8) ∧ w'.cell? ⟨gb417,1,none⟩=some (.int .i64 a0_1) ∧ w'.cell? ⟨gb417,2,none⟩=some (.string a0_2) ∧ w'.cell? ⟨gb417,3,none⟩=some (.int .i64 a0_3)) (ds:= [12]) #[false,false,false,false,false,false,false,false,false,false,false,false,false] (by kernel_rfl) rfl rfl ⟨(blk_cell BK417.out 0).trans rfl,(blk_cell BK417.out 1).trans rfl,(blk_cell BK417.out 2).trans rfl,(blk_cell BK417.out 3).trans rfl⟩ (fun hHeld=> ?_);refine with_tabW spec_l05Absorb.tab1 spec_l05Absorb.bits1 (fun HT_ HW_=> ?_)
        generalize w10.drew=w11 at HO0_0 BK417 BK418 HK HB hHeld ⊢
        refine pure_ (i:=0) (N:=some 5) (v:=?_) (a':=?_) #[true,false,false,false,false,false,false,false,false,false,false,false,false] rfl rfl (any_of HT_.out (by kernel_rfl)) (fun _ _ _ h=> h) (Or.inl ⟨by rfl,?_⟩) ?_ ?_
        rotate_left
        · intro w'
          go_simp
          with_reducible rfl
        rotate_left
        · simp only [Act.put,List.setIfInBounds_toArray,List.set_cons_zero,List.set_cons_succ,i64_w,i32_w]
          rfl
        refine pure_ (i:=3) (N:=some 8) (v:=?_) (a':=?_) #[true,false,false,true,false,false,false,false,false,false,false,false,false] rfl rfl (any_of HT_.out (by kernel_rfl)) (fun _ _ _ h=> h) (Or.inl ⟨by rfl,?_⟩) ?_ ?_
        rotate_left
        · intro w'
          go_simp
          with_reducible rfl
        rotate_left
        · simp only [Act.put,List.setIfInBounds_toArray,List.set_cons_zero,List.set_cons_succ,i64_w,i32_w]
          rfl
        refine pure_ (i:=4) (N:=some 9) (v:=?_) (a':=?_) #[true,false,false,true,true,false,false,false,false,false,false,false,false] rfl rfl (any_of HT_.out (by kernel_rfl)) (fun _ _ _ h=> h) (Or.inl ⟨by rfl,?_⟩) ?_ ?_
        rotate_left
        · intro w'
          go_simp
          with_reducible rfl
        rotate_left
        · simp only [Act.put,List.setIfInBounds_toArray,List.set_cons_zero,List.set_cons_succ,i64_w,i32_w]
          rfl
        refine pure_ (i:=8) (N:=some 13) (v:=?_) (a':=?_) #[true,false,false,true,true,false,false,false,true,false,false,false,false] rfl rfl (any_of HT_.out (by kernel_rfl)) (fun _ _ _ h=> h) (Or.inl ⟨by rfl,?_⟩) ?_ ?_
        rotate_left
        · intro w'
          go_simp
          with_reducible rfl
        rotate_left
        · simp only [Act.put,List.setIfInBounds_toArray,List.set_cons_zero,List.set_cons_succ,i64_w,i32_w]
          rfl
        refine take_ (i:=1) (N:=some 6) (v:=?_) (a':=?_) #[true,true,false,true,true,false,false,false,true,false,false,false,false] rfl rfl (take_ofW HT_.out HW_.out (by kernel_rfl)) (fun _ _ _ h=> h) (Or.inl ⟨by rfl,?_⟩) hHeld ?_ ?_
        rotate_left
        · rintro w' ⟨s0,s1,s2,s3⟩
          go_simp
          with_reducible rfl
        rotate_left
        · simp only [Act.put,List.setIfInBounds_toArray,List.set_cons_zero,List.set_cons_succ,i64_w,i32_w]
          rfl
        refine pure_ (i:=2) (N:=some 7) (v:=?_) (a':=?_) #[true,true,true,true,true,false,false,false,true,false,false,false,false] rfl rfl (any_of HT_.out (by kernel_rfl)) (fun _ _ _ h=> h) (Or.inl ⟨by rfl,?_⟩) ?_ ?_
        rotate_left
        · intro w'
          go_simp
          with_reducible rfl
        rotate_left
        · simp only [Act.put,List.setIfInBounds_toArray,List.set_cons_zero,List.set_cons_succ,i64_w,i32_w]
          rfl
        refine one_ (i:=5) (N:=some 10) #[true,true,true,true,true,true,false,false,true,false,false,false,false] rfl rfl (one_of HT_.out (by kernel_rfl)) (by decide) (fun K hK=> ?_)
        refine goes_ Try.func148 (by kernel_rfl) rfl #[.int .i64 (a1.size:Int),.int .i64 4] (by rfl) rfl rfl (by (try simp only [List.map_toArray,List.map_cons,List.map_nil]);first|done|rfl|(simp only [List.length_drop,List.length_take];rfl)) ?_
        with_reducible refine (spec_l02Number.calls k (a1.size:Int) 4 t419 _ A4.out).mono ?_
        rintro e w12 ⟨v420,rfl,ho0,hb⟩
        refine ⟨_,rfl,?_⟩
        have n0_:=Aside0.mk (Kd.R_below (by (with_reducible repeat (first|apply Kd.R_alloc|apply Kd.R_drewN|apply Kd.R_drew));exact HO0_0.out) hb)
        have n1_:=Aside0.mk (Kd.R_lower (Kd.R_newM (M:=fun k_=> (P0_0_ k_ ∨ w.heap.size ≤ k_)) ho0 (by first|exact HK.out.1|exact (show Kept w _ (fun k_=> P0_0_ k_) from by repeat (first|(with_reducible first|exact HK.out|apply Kept.alloc|apply Kept.drewN|apply Kept.drew|refine Kept.setCell ?_ (.inr GW417.out) _|refine Kept.setCell ?_ (.inr GW418.out) _)|exact HK.out)).1) (fun k_ h_=> .inr h_)) (below_size (by repeat (first|(with_reducible first|exact HB.out|apply below_alloc|apply pw_below_drewN|apply below_drew1|refine below_set ?_ GE417.out|refine below_set ?_ GE418.out)|exact HB.out))))
        have n2_:=Aside0.mk (blk_below (g:=gb417) (o:= .cells #[.slice Ao8 l0_0.length co8,.int .i64 a0_1,.string a0_2,.int .i64 a0_3] 36 (0,0)) (by (with_reducible repeat (first|apply bN|apply bd|apply bA));exact BK417.out) hb)
        have n3_:=Aside0.mk (blk_below (g:=gb418) (o:= .cells #[.slice none 0 0,.int .i64 0,.string (⟨#[]⟩:ByteArray),.int .i64 0] 36 (0,0)) (by (with_reducible repeat (first|apply bN|apply bd|apply bA));exact BK418.out) hb)
        have n4_:=Aside0.mk (Kept.below (S:=(fun k_=> P0_0_ k_)) (by repeat (first|(with_reducible first|exact HK.out|apply Kept.alloc|apply Kept.drewN|apply Kept.drew|refine Kept.setCell ?_ (.inr GW417.out) _|refine Kept.setCell ?_ (.inr GW418.out) _)|exact HK.out)) hb)
        have n5_:=Aside0.mk (below_step (by repeat (first|(with_reducible first|exact HB.out|apply below_alloc|apply pw_below_drewN|apply below_drew1|refine below_set ?_ GE417.out|refine below_set ?_ GE418.out)|exact HB.out)) hb)
        clear HO0_0
        clear BK417
        clear BK418
        clear HK
        clear HB
        have HO0_0:=n0_
        have HO421:=n1_
        have BK417:=n2_
        have BK418:=n3_
        have HK:=n4_
        have HB:=n5_
        clear n0_ n1_ n2_ n3_ n4_ n5_
        (try clear hb)
        (try clear hb2)
        (try clear hk)
        (try clear hi)
        (try clear ho0)
        refine hK.out _ _ ⟨(blk_cell BK417.out 0).trans rfl,(blk_cell BK417.out 1).trans rfl,(blk_cell BK417.out 2).trans rfl,(blk_cell BK417.out 3).trans rfl⟩ (fun hHeld=> ?_)
        clear hK K
        refine norm_ (a':=?_) ?_ ?_
        rotate_left
        · show Act.put _ (some 10) _=_
          simp only [Act.put,List.setIfInBounds_toArray,List.set_cons_zero,List.set_cons_succ,i64_w,i32_w]
          rfl
        refine one_ (i:=6) (N:=some 11) #[true,true,true,true,true,true,true,false,true,false,false,false,false] rfl rfl (one_of HT_.out (by kernel_rfl)) (by decide) (fun K hK=> ?_)
        have hcv13:=own_string (P:=Try.prog) Try.underlying25 Try.underlying5 Try.underlying9 (Kd.own_of_R HO421.out)
        refine value_ (w1:=?_) (v:=?_) (by rfl) rfl ?_ ?_
        rotate_left 2
        · go_simp
          constructor
          · rfl
          · rfl
        clear hcv13
        refine hK.out _ _ ⟨(blk_cell BK417.out 0).trans rfl,(blk_cell BK417.out 1).trans rfl,(blk_cell BK417.out 2).trans rfl,(blk_cell BK417.out 3).trans rfl⟩ (fun hHeld=> ?_)
        clear hK K
        refine norm_ (a':=?_) ?_ ?_
        rotate_left
        · show Act.put _ (some 11) _=_
          simp only [Act.put,List.setIfInBounds_toArray,List.set_cons_zero,List.set_cons_succ,i64_w,i32_w]
          rfl
        refine pure_ (i:=7) (N:=some 12) (v:=?_) (a':=?_) #[true,true,true,true,true,true,true,true,true,false,false,false,false] rfl rfl (any_of HT_.out (by kernel_rfl)) (fun _ _ _ h=> h) (Or.inl ⟨by rfl,?_⟩) ?_ ?_
        rotate_left
        · intro w'
          go_simp
          with_reducible rfl
        rotate_left
        · simp only [Act.put,List.setIfInBounds_toArray,List.set_cons_zero,List.set_cons_succ,i64_w,i32_w]
          rfl
        refine pure_ (i:=9) (N:=some 14) (v:=?_) (a':=?_) #[true,true,true,true,true,true,true,true,true,true,false,false,false] rfl rfl (any_of HT_.out (by kernel_rfl)) (fun _ _ _ h=> h) (Or.inl ⟨by rfl,?_⟩) ?_ ?_
        rotate_left
        · intro w'
          go_simp
          with_reducible rfl
        rotate_left
        · simp only [Act.put,List.setIfInBounds_toArray,List.set_cons_zero,List.set_cons_succ,i64_w,i32_w]
          rfl
        refine one_ (i:=10) (N:=some 15) #[true,true,true,true,true,true,true,true,true,true,true,false,false] rfl rfl (one_of HT_.out (by kernel_rfl)) (by decide) (fun K hK=> ?_)
        refine goes_ Try.func87 (by kernel_rfl) rfl #[.string (((a0_2 ++ (⟨#[97,98,115,111,114,98]⟩:ByteArray)) ++ (strOfNums t419)) ++ a1)] (by rfl) rfl rfl (by (try simp only [List.map_toArray,List.map_cons,List.map_nil]);first|done|rfl|(simp only [List.length_drop,List.length_take];rfl)) ?_
        with_reducible refine (spec_l03Hash.calls (((a0_2 ++ (⟨#[97,98,115,111,114,98]⟩:ByteArray)) ++ (strOfNums t419)) ++ a1) t422 _ A7.out).mono ?_
        rintro e w14 ⟨rfl,hb⟩
        refine ⟨_,rfl,?_⟩
        have n0_:=Aside0.mk (Kd.R_below (by (with_reducible repeat (first|apply Kd.R_alloc|apply Kd.R_drewN|apply Kd.R_drew));exact HO0_0.out) hb)
        have n1_:=Aside0.mk (Kd.R_below (by (with_reducible repeat (first|apply Kd.R_alloc|apply Kd.R_drewN|apply Kd.R_drew));exact HO421.out) hb)
        have n2_:=Aside0.mk (blk_below (g:=gb417) (o:= .cells #[.slice Ao8 l0_0.length co8,.int .i64 a0_1,.string a0_2,.int .i64 a0_3] 36 (0,0)) (by (with_reducible repeat (first|apply bN|apply bd|apply bA));exact BK417.out) hb)
        have n3_:=Aside0.mk (blk_below (g:=gb418) (o:= .cells #[.slice none 0 0,.int .i64 0,.string (⟨#[]⟩:ByteArray),.int .i64 0] 36 (0,0)) (by (with_reducible repeat (first|apply bN|apply bd|apply bA));exact BK418.out) hb)
        have n4_:=Aside0.mk (Kept.below (S:=(fun k_=> P0_0_ k_)) (by repeat (first|(with_reducible first|exact HK.out|apply Kept.alloc|apply Kept.drewN|apply Kept.drew|refine Kept.setCell ?_ (.inr GW417.out) _|refine Kept.setCell ?_ (.inr GW418.out) _)|exact HK.out)) hb)
        have n5_:=Aside0.mk (below_step (by repeat (first|(with_reducible first|exact HB.out|apply below_alloc|apply pw_below_drewN|apply below_drew1|refine below_set ?_ GE417.out|refine below_set ?_ GE418.out)|exact HB.out)) hb)
        clear HO0_0
        clear HO421
        clear BK417
        clear BK418
        clear HK
        clear HB
        have HO0_0:=n0_
        have HO421:=n1_
        have BK417:=n2_
        have BK418:=n3_
        have HK:=n4_
        have HB:=n5_
        clear n0_ n1_ n2_ n3_ n4_ n5_
        (try clear hb)
        (try clear hb2)
        (try clear hk)
        (try clear hi)
        refine hK.out _ _ ⟨(blk_cell BK417.out 0).trans rfl,(blk_cell BK417.out 1).trans rfl,(blk_cell BK417.out 2).trans rfl,(blk_cell BK417.out 3).trans rfl⟩ (fun hHeld=> ?_)
        clear hK K
        refine norm_ (a':=?_) ?_ ?_
        rotate_left
        · show Act.put _ (some 15) _=_
          simp only [Act.put,List.setIfInBounds_toArray,List.set_cons_zero,List.set_cons_succ,i64_w,i32_w]
          rfl
        refine pure_ (i:=11) (N:=some 16) (v:=?_) (a':=?_) #[true,true,true,true,true,true,true,true,true,true,true,true,false] rfl rfl (any_of HT_.out (by kernel_rfl)) (fun _ _ _ h=> h) (Or.inl ⟨by rfl,?_⟩) ?_ ?_
        rotate_left
        · intro w'
          go_simp
          with_reducible rfl
        rotate_left
        · simp only [Act.put,List.setIfInBounds_toArray,List.set_cons_zero,List.set_cons_succ,i64_w,i32_w]
          rfl
        refine last_ (i:=12) (N:=none) #[true,true,true,true,true,true,true,true,true,true,true,true,true] rfl rfl (one_of HT_.out (by kernel_rfl)) (by decide) (fun K hK=> ?_)
        have hs15:w14.cell? ⟨gb417,2,none⟩=some (.string a0_2):=(blk_cell BK417.out 2).trans rfl
        have hfs15:=blk_frozen BK417.out 2
        have hns15_1:=NB418_417.out
        have hms15_1:=NB417_418.out
        refine skip_ (w1:=?_) (by rfl) rfl ?_ ?_
        rotate_left
        · go_simp
          rfl
        refine hK.out _ _ ?_
        clear hK K
        refine done_ (done_of HT_.out (by kernel_rfl)) ?_
        have hnb16:=NB417_418.out
        have hnc16:=NB418_417.out
        have hcz17_0:w14.cell? ⟨gb417,0,none⟩=some (.slice Ao8 l0_0.length co8):=(blk_cell BK417.out 0).trans rfl
        have hcz17_1:w14.cell? ⟨gb417,1,none⟩=some (.int .i64 a0_1):=(blk_cell BK417.out 1).trans rfl
        have hcz17_2:w14.cell? ⟨gb417,2,none⟩=some (.string a0_2):=(blk_cell BK417.out 2).trans rfl
        have hcz17_3:w14.cell? ⟨gb417,3,none⟩=some (.int .i64 a0_3):=(blk_cell BK417.out 3).trans rfl
        have hfz17_0:=blk_frozen BK417.out 0
        have hfz17_1:=blk_frozen BK417.out 1
        have hfz17_2:=blk_frozen BK417.out 2
        have hfz17_3:=blk_frozen BK417.out 3
        have hcz18_0:w14.cell? ⟨gb418,0,none⟩=some (.slice none 0 0):=(blk_cell BK418.out 0).trans rfl
        have hcz18_1:w14.cell? ⟨gb418,1,none⟩=some (.int .i64 0):=(blk_cell BK418.out 1).trans rfl
        have hcz18_2:w14.cell? ⟨gb418,2,none⟩=some (.string (⟨#[]⟩:ByteArray)):=(blk_cell BK418.out 2).trans rfl
        have hcz18_3:w14.cell? ⟨gb418,3,none⟩=some (.int .i64 0):=(blk_cell BK418.out 3).trans rfl
        have hfz18_0:=blk_frozen BK418.out 0
        have hfz18_1:=blk_frozen BK418.out 1
        have hfz18_2:=blk_frozen BK418.out 2
        have hfz18_3:=blk_frozen BK418.out 3
        try go_wp2
        refine bodyPost_ret (results_cell_row rfl _ _ gb418 36 #[.slice Ao8 l0_0.length co8,.int .i64 a0_1,.string t422,.int .i64 0] (0,0) _ rfl (by (with_reducible repeat (first|apply bN|apply bd|apply bA));refine blk_put (cs:= #[.slice Ao8 l0_0.length co8,.int .i64 a0_1,.string t422,.int .i64 0]) ?_ 3 _ rfl;(with_reducible repeat (first|apply bN|apply bd|apply bA));refine blk_put (cs:= #[.slice Ao8 l0_0.length co8,.int .i64 a0_1,.string (⟨#[]⟩:ByteArray),.int .i64 0]) ?_ 2 _ rfl;(with_reducible repeat (first|apply bN|apply bd|apply bA));refine blk_put (cs:= #[.slice Ao8 l0_0.length co8,.int .i64 0,.string (⟨#[]⟩:ByteArray),.int .i64 0]) ?_ 1 _ rfl;(with_reducible repeat (first|apply bN|apply bd|apply bA));refine blk_put (cs:= #[.slice none 0 0,.int .i64 0,.string (⟨#[]⟩:ByteArray),.int .i64 0]) ?_ 0 _ rfl;(with_reducible repeat (first|apply bN|apply bd|apply bA));refine blk_far ?_ NB418_417.out _;(with_reducible repeat (first|apply bN|apply bd|apply bA));refine blk_far ?_ NB418_417.out _;(with_reducible repeat (first|apply bN|apply bd|apply bA));exact BK418.out) Try.underlying36 rfl (by kernel_rfl)) rfl ?_
        exact ⟨_,by first|rfl|(simp [errW_none,errW_some] <;> rfl)|(simp [*,errW_none,errW_some] <;> rfl),by (with_reducible repeat (first|apply Kd.R_alloc|apply Kd.R_drewN|apply Kd.R_drew));exact Kd.R_mono (Kd.R_far (p:=⟨gb418,3,none⟩) (Kd.R_far (p:=⟨gb418,2,none⟩) (Kd.R_far (p:=⟨gb418,1,none⟩) (Kd.R_far (p:=⟨gb418,0,none⟩) (Kd.R_far (p:=⟨gb417,3,none⟩) (Kd.R_far (p:=⟨gb417,2,none⟩) (Kd.R_types (Kd.R_types HO0_0.out BK417.out (by decide)) BK418.out (by decide)) (fun _ hk=> hk.1.2) (.string t422)) (fun _ hk=> hk.1.2) (.int .i64 0)) (fun _ hk=> hk.2) (.slice Ao8 l0_0.length co8)) (fun _ hk=> hk.2) (.int .i64 a0_1)) (fun _ hk=> hk.2) (.string t422)) (fun _ hk=> hk.2) (.int .i64 0)) (fun _ hk=> hk.1.1),by repeat (first|(with_reducible first|exact HB.out|apply below_alloc|apply pw_below_drewN|apply below_drew1|refine below_set ?_ GE417.out|refine below_set ?_ GE418.out)|exact HB.out),by repeat (first|(with_reducible first|exact HK.out|apply Kept.alloc|apply Kept.drewN|apply Kept.drew|refine Kept.setCell ?_ (.inr GW417.out) _|refine Kept.setCell ?_ (.inr GW418.out) _)|exact HK.out)⟩
      · rw [if_neg c6] at H
        exact absurd H (by simp)
    · rw [if_neg c5] at H
      exact absurd H (by simp)
  · rw [if_neg c3] at H
    exact absurd H (by simp)
def spec_l05Exts.f (k:Nat) (l0_0:List (S79)) (a0_1:Int) (a0_2:ByteArray) (a0_3:Int) (l1:List (S79)):Option ((List (S79)) × Int × ByteArray × Int):=(spec_l02Bytes.f k l1).bind fun t518=> ((spec_l05Absorb.f k l0_0 a0_1 a0_2 a0_3 (strOfNums t518)).bind fun bt521=> (some (bt521.1,bt521.2.1,bt521.2.2.1,bt521.2.2.2)))
theorem spec_l05Exts.mono:∀ a0 a1 a2 a3 a4 k,LeO (spec_l05Exts.f k a0 a1 a2 a3 a4) (spec_l05Exts.f (k + 1) a0 a1 a2 a3 a4):=by
  intro a0 a1 a2 a3 a4 k
  unfold spec_l05Exts.f
  repeat' first
      |(with_reducible exact spec_l02Bytes.mono _ _)
      |(with_reducible exact spec_l05Absorb.mono _ _ _ _ _ _)
      |(with_reducible exact LeO.refl _)
      |(with_reducible exact LeO.none _)
      |(with_reducible refine LeO.ite ?_ ?_)
      |(with_reducible refine LeO.bind ?_ (fun _=> ?_))
      |exact spec_l02Bytes.mono _ _
      |exact spec_l05Absorb.mono _ _ _ _ _ _
      |exact LeO.none _
      |refine LeO.ite ?_ ?_
      |refine LeO.bind ?_ (fun _=> ?_)
set_option maxHeartbeats 8000000 in
set_option maxRecDepth 100000 in
theorem spec_l05Exts.calls (k:Nat) (P0_0_:Nat → Prop) (u9000_:Value) (l0_0:List (S79)) (a0_1:Int) (a0_2:ByteArray) (a0_3:Int) (A1:Option Addr) (c1:Nat) (l1:List (S79)) (r1:List (S79)) (r2:Int) (r3:ByteArray) (r4:Int) (w0 w:World) (hB:Below w0.heap.size w0 w) (ho0_0:Kd.R k79 79 w w0.heap.size P0_0_ u9000_ l0_0) (hr1:∀ W_,Kept w W_ (fun k_=> P0_0_ k_) → Kd.C k79 W_ A1 l1.length l1) (hc1:l1.length ≤ c1) (h:spec_l05Exts.f k l0_0 a0_1 a0_2 a0_3 l1=some (r1,r2,r3,r4)):
    Calls Try.prog 129 #[.agg #[u9000_,.int .i64 a0_1,.string a0_2,.int .i64 a0_3],.slice A1 l1.length c1] w fun e w'=> ∃ v0_:Value,e= .returned (.agg #[v0_,.int .i64 r2,.string r3,.int .i64 r4]) ∧ Kd.R k79 79 w' w0.heap.size (fun k_=> (P0_0_ k_ ∨ w.heap.size ≤ k_)) v0_ r1 ∧ Below w0.heap.size w0 w' ∧ Kept w w' (fun k_=> P0_0_ k_):=by
  have hu36:=Try.underlying36
  have HO0_0:=Aside0.mk (show Kd.R k79 79 w w0.heap.size (fun k_=> (P0_0_ k_ ∨ w.heap.size ≤ k_)) u9000_ l0_0 from Kd.R_mono ho0_0 (fun k_ hk=> (.inl hk)))
  have HR1:=Aside0.mk hr1
  have HC1:=Aside0.mk hc1
  clear hr1 hc1
  have HK:=Aside0.mk (Kept.refl w (fun k_=> P0_0_ k_))
  have HW0:=Aside0.mk hB.size
  have HB:=Aside0.mk hB
  clear hB
  have H:((spec_l02Bytes.f k l1).bind fun t518=> ((spec_l05Absorb.f k l0_0 a0_1 a0_2 a0_3 (strOfNums t518)).bind fun bt521=> (some (bt521.1,bt521.2.1,bt521.2.2.1,bt521.2.2.2))))=some (r1,r2,r3,r4):=h
  clear h
  replace H:=Option.bind_eq_some_iff.mp H
  obtain ⟨t518,A30,H⟩:=H
  replace H:((spec_l05Absorb.f k l0_0 a0_1 a0_2 a0_3 (strOfNums t518)).bind fun bt521=> (some (bt521.1,bt521.2.1,bt521.2.2.1,bt521.2.2.2)))=some (r1,r2,r3,r4):=H
  have A3:=Aside0.mk A30
  clear A30
  replace H:=Option.bind_eq_some_iff.mp H
  obtain ⟨⟨t521,t524,t525,t526⟩,A40,H⟩:=H
  replace H:(some (t521,t524,t525,t526))=some (r1,r2,r3,r4):=H
  have A4:=Aside0.mk A40
  clear A40
  simp only [Option.some.injEq,Prod.mk.injEq] at H
  obtain ⟨rfl,rfl,rfl,rfl⟩:=H
  obtain ⟨Ao5,co5,eo5⟩:=Kd.R_slice HO0_0.out
  subst eo5
  go_enter Try.func129,Try.ntmps129
  try go_wp2_with (first|((with_reducible refine gate_dst (N:=2) rfl ?_);refine box_event ?hg (N:=2) ?hd (cs:= #[.slice Ao5 l0_0.length co5,.int .i64 a0_1,.string a0_2,.int .i64 a0_3]) (t:=36) ?hr ?_;(case hd=> rfl);(case hg=> rfl);(case hr=> first|(go_simp;done)|(go_simp;rfl));intro gb516 hg w6 hbox hb;have n0_:=Aside0.mk (Kd.R_below (by (with_reducible repeat (first|apply Kd.R_alloc|apply Kd.R_drewN|apply Kd.R_drew));exact HO0_0.out) hb);have n1_:=Aside0.mk (Kept.below (S:=(fun k_=> P0_0_ k_)) (by repeat (first|(with_reducible first|exact HK.out|apply Kept.alloc|apply Kept.drewN|apply Kept.drew)|exact HK.out)) hb);have n2_:=Aside0.mk (below_step (by repeat (first|(with_reducible first|exact HB.out|apply below_alloc|apply pw_below_drewN|apply below_drew1)|exact HB.out)) hb);have n3_:=Aside0.mk (hbox);have n4_:=Aside0.mk ((by rw [hg];exact (by first|exact HK.out.1|exact (show Kept w _ (fun k_=> P0_0_ k_) from by repeat (first|(with_reducible first|exact HK.out|apply Kept.alloc|apply Kept.drewN|apply Kept.drew)|exact HK.out)).1):w.heap.size ≤ gb516));have n5_:=Aside0.mk ((by rw [hg];exact (below_size (by repeat (first|(with_reducible first|exact HB.out|apply below_alloc|apply pw_below_drewN|apply below_drew1)|exact HB.out))):w0.heap.size ≤ gb516));clear HO0_0;clear HK;clear HB;have HO0_0:=n0_;have HK:=n1_;have HB:=n2_;have BK516:=n3_;have GW516:=n4_;have GE516:=n5_;clear n0_ n1_ n2_ n3_ n4_ n5_;clear hb hbox hg)|((with_reducible refine gate_dst (N:=4) rfl ?_);refine box_event ?hg (N:=4) ?hd (cs:= #[.slice none 0 0,.int .i64 0,.string (⟨#[]⟩:ByteArray),.int .i64 0]) (t:=36) ?hr ?_;(case hd=> rfl);(case hg=> rfl);(case hr=> first|(go_simp;done)|(go_simp;rfl));intro gb517 hg w7 hbox hb;have n0_:=Aside0.mk (Kd.R_below (by (with_reducible repeat (first|apply Kd.R_alloc|apply Kd.R_drewN|apply Kd.R_drew));exact HO0_0.out) hb);have n1_:=Aside0.mk (blk_below (g:=gb516) (o:= .cells #[.slice Ao5 l0_0.length co5,.int .i64 a0_1,.string a0_2,.int .i64 a0_3] 36 (0,0)) (by (with_reducible repeat (first|apply bN|apply bd|apply bA));exact BK516.out) hb);have n2_:=Aside0.mk (Kept.below (S:=(fun k_=> P0_0_ k_)) (by repeat (first|(with_reducible first|exact HK.out|apply Kept.alloc|apply Kept.drewN|apply Kept.drew|refine Kept.setCell ?_ (.inr GW516.out) _)|exact HK.out)) hb);have n3_:=Aside0.mk (below_step (by repeat (first|(with_reducible first|exact HB.out|apply below_alloc|apply pw_below_drewN|apply below_drew1|refine below_set ?_ GE516.out)|exact HB.out)) hb);have n4_:=Aside0.mk (hbox);have n5_:=Aside0.mk ((by rw [hg];exact (by first|exact HK.out.1|exact (show Kept w _ (fun k_=> P0_0_ k_) from by repeat (first|(with_reducible first|exact HK.out|apply Kept.alloc|apply Kept.drewN|apply Kept.drew|refine Kept.setCell ?_ (.inr GW516.out) _)|exact HK.out)).1):w.heap.size ≤ gb517));have n6_:=Aside0.mk ((by rw [hg];exact (below_size (by repeat (first|(with_reducible first|exact HB.out|apply below_alloc|apply pw_below_drewN|apply below_drew1|refine below_set ?_ GE516.out)|exact HB.out))):w0.heap.size ≤ gb517));have n7_:=Aside0.mk ((by rw [hg];exact Nat.ne_of_lt (blk_lt (g:=gb516) (o:= .cells #[.slice Ao5 l0_0.length co5,.int .i64 a0_1,.string a0_2,.int .i64 a0_3] 36 (0,0)) (by (with_reducible repeat (first|apply bN|apply bd|apply bA));exact BK516.out)):gb516 ≠ gb517));have n8_:=Aside0.mk ((by rw [hg];exact Nat.ne_of_gt (blk_lt (g:=gb516) (o:= .cells #[.slice Ao5 l0_0.length co5,.int .i64 a0_1,.string a0_2,.int .i64 a0_3] 36 (0,0)) (by (with_reducible repeat (first|apply bN|apply bd|apply bA));exact BK516.out)):gb517 ≠ gb516));clear HO0_0;clear BK516;clear HK;clear HB;have HO0_0:=n0_;have BK516:=n1_;have HK:=n2_;have HB:=n3_;have BK517:=n4_;have GW517:=n5_;have GE517:=n6_;have NB516_517:=n7_;have NB517_516:=n8_;clear n0_ n1_ n2_ n3_ n4_ n5_ n6_ n7_ n8_;clear hb hbox hg))
  have n0_:=Aside0.mk (Kd.R_drew HO0_0.out)
  have n1_:=Aside0.mk (blk_drew BK516.out)
  have n2_:=Aside0.mk (blk_drew BK517.out)
  have n3_:=Aside0.mk (Kept.drew HK.out)
  have n4_:=Aside0.mk (below_drew1 HB.out)
  clear HO0_0
  clear BK516
  clear BK517
  clear HK
  clear HB
  have HO0_0:=n0_
  have BK516:=n1_
  have BK517:=n2_
  have HK:=n3_
  have HB:=n4_
  clear n0_ n1_ n2_ n3_ n4_
  refine start_ (n:=6) (S:=fun w'=> w'.cell? ⟨gb516,0,none⟩=some (.slice Ao5 l0_0.length co5) ∧ w'.cell? ⟨gb516,1,none⟩=some (.int .i64 a0_1) ∧ w'.cell? ⟨gb516,2,none⟩=some (.string a0_2) ∧ w'.cell? ⟨gb516,3,none⟩=some (.int .i64 a0_3)) (ds:= []) #[false,false,false,false,false,false] (by kernel_rfl) rfl rfl ⟨(blk_cell BK516.out 0).trans rfl,(blk_cell BK516.out 1).trans rfl,(blk_cell BK516.out 2).trans rfl,(blk_cell BK516.out 3).trans rfl⟩ (fun hHeld=> ?_)
  generalize w7.drew=w8 at HO0_0 BK516 BK517 HK HB hHeld ⊢
  refine pure_ (i:=1) (N:=some 6) (v:=?_) (a':=?_) #[false,true,false,false,false,false] rfl rfl (by kernel_rfl) (fun _ _ _ h=> h) (Or.inl ⟨by rfl,?_⟩) ?_ ?_
  rotate_left
  · intro w'
    go_simp
    with_reducible rfl
  rotate_left
  · simp only [Act.put,List.setIfInBounds_toArray,List.set_cons_zero,List.set_cons_succ,i64_w,i32_w]
    rfl
  refine take_ (i:=0) (N:=some 5) (v:=?_) (a':=?_) #[true,true,false,false,false,false] rfl rfl (by kernel_rfl) (fun _ _ _ h=> h) (Or.inl ⟨by rfl,?_⟩) hHeld ?_ ?_
  rotate_left
  · rintro w' ⟨s0,s1,s2,s3⟩
    go_simp
    with_reducible rfl
  rotate_left
  · simp only [Act.put,List.setIfInBounds_toArray,List.set_cons_zero,List.set_cons_succ,i64_w,i32_w]
    rfl
  refine one_ (i:=2) (N:=some 7) #[true,true,true,false,false,false] rfl rfl (by kernel_rfl) (by decide) (fun K hK=> ?_)
  refine goes_ Try.func155 (by kernel_rfl) rfl #[.slice A1 l1.length c1] (by rfl) rfl rfl (by (try simp only [List.map_toArray,List.map_cons,List.map_nil]);first|done|rfl|(simp only [List.length_drop,List.length_take];rfl)) ?_
  with_reducible refine (spec_l02Bytes.calls k _ _ l1 t518 _ ?side1 ?side2 A3.out).mono ?_
  (case side1=> exact Kd.C_kept_now HR1.out (by repeat (first|(with_reducible first|exact HK.out|apply Kept.alloc|apply Kept.drewN|apply Kept.drew|refine Kept.setCell ?_ (.inr GW516.out) _|refine Kept.setCell ?_ (.inr GW517.out) _)|exact HK.out)))
  (case side2=> exact HC1.out)
  rintro e w9 ⟨v519,rfl,ho0,hb⟩
  refine ⟨_,rfl,?_⟩
  have n0_:=Aside0.mk (Kd.R_below (by (with_reducible repeat (first|apply Kd.R_alloc|apply Kd.R_drewN|apply Kd.R_drew));exact HO0_0.out) hb)
  have n1_:=Aside0.mk (Kd.R_lower (Kd.R_newM (M:=fun k_=> (P0_0_ k_ ∨ w.heap.size ≤ k_)) ho0 (by first|exact HK.out.1|exact (show Kept w _ (fun k_=> P0_0_ k_) from by repeat (first|(with_reducible first|exact HK.out|apply Kept.alloc|apply Kept.drewN|apply Kept.drew|refine Kept.setCell ?_ (.inr GW516.out) _|refine Kept.setCell ?_ (.inr GW517.out) _)|exact HK.out)).1) (fun k_ h_=> .inr h_)) (below_size (by repeat (first|(with_reducible first|exact HB.out|apply below_alloc|apply pw_below_drewN|apply below_drew1|refine below_set ?_ GE516.out|refine below_set ?_ GE517.out)|exact HB.out))))
  have n2_:=Aside0.mk (blk_below (g:=gb516) (o:= .cells #[.slice Ao5 l0_0.length co5,.int .i64 a0_1,.string a0_2,.int .i64 a0_3] 36 (0,0)) (by (with_reducible repeat (first|apply bN|apply bd|apply bA));exact BK516.out) hb)
  have n3_:=Aside0.mk (blk_below (g:=gb517) (o:= .cells #[.slice none 0 0,.int .i64 0,.string (⟨#[]⟩:ByteArray),.int .i64 0] 36 (0,0)) (by (with_reducible repeat (first|apply bN|apply bd|apply bA));exact BK517.out) hb)
  have n4_:=Aside0.mk (Kept.below (S:=(fun k_=> P0_0_ k_)) (by repeat (first|(with_reducible first|exact HK.out|apply Kept.alloc|apply Kept.drewN|apply Kept.drew|refine Kept.setCell ?_ (.inr GW516.out) _|refine Kept.setCell ?_ (.inr GW517.out) _)|exact HK.out)) hb)
  have n5_:=Aside0.mk (below_step (by repeat (first|(with_reducible first|exact HB.out|apply below_alloc|apply pw_below_drewN|apply below_drew1|refine below_set ?_ GE516.out|refine below_set ?_ GE517.out)|exact HB.out)) hb)
  clear HO0_0
  clear BK516
  clear BK517
  clear HK
  clear HB
  have HO0_0:=n0_
  have HO520:=n1_
  have BK516:=n2_
  have BK517:=n3_
  have HK:=n4_
  have HB:=n5_
  clear n0_ n1_ n2_ n3_ n4_ n5_
  (try clear hb)
  (try clear hb2)
  (try clear hk)
  (try clear hi)
  (try clear ho0)
  refine hK.out _ _ ⟨(blk_cell BK516.out 0).trans rfl,(blk_cell BK516.out 1).trans rfl,(blk_cell BK516.out 2).trans rfl,(blk_cell BK516.out 3).trans rfl⟩ (fun hHeld=> ?_)
  clear hK K
  refine norm_ (a':=?_) ?_ ?_
  rotate_left
  · show Act.put _ (some 7) _=_
    simp only [Act.put,List.setIfInBounds_toArray,List.set_cons_zero,List.set_cons_succ,i64_w,i32_w]
    rfl
  refine one_ (i:=3) (N:=some 8) #[true,true,true,true,false,false] rfl rfl (by kernel_rfl) (by decide) (fun K hK=> ?_)
  have hcv10:=own_string (P:=Try.prog) Try.underlying25 Try.underlying5 Try.underlying9 (Kd.own_of_R HO520.out)
  refine value_ (w1:=?_) (v:=?_) (by rfl) rfl ?_ ?_
  rotate_left 2
  · go_simp
    constructor
    · rfl
    · rfl
  clear hcv10
  refine hK.out _ _ ⟨(blk_cell BK516.out 0).trans rfl,(blk_cell BK516.out 1).trans rfl,(blk_cell BK516.out 2).trans rfl,(blk_cell BK516.out 3).trans rfl⟩ (fun hHeld=> ?_)
  clear hK K
  refine norm_ (a':=?_) ?_ ?_
  rotate_left
  · show Act.put _ (some 8) _=_
    simp only [Act.put,List.setIfInBounds_toArray,List.set_cons_zero,List.set_cons_succ,i64_w,i32_w]
    rfl
  refine one_ (i:=4) (N:=some 9) #[true,true,true,true,true,false] rfl rfl (by kernel_rfl) (by decide) (fun K hK=> ?_)
  refine goes_ Try.func126 (by kernel_rfl) rfl #[.agg #[.slice Ao5 l0_0.length co5,.int .i64 a0_1,.string a0_2,.int .i64 a0_3],.string (strOfNums t518)] (by rfl) rfl rfl (by (try simp only [List.map_toArray,List.map_cons,List.map_nil]);first|done|rfl|(simp only [List.length_drop,List.length_take];rfl)) ?_
  with_reducible refine (spec_l05Absorb.calls k (fun k_=> some k_=(.slice Ao5 l0_0.length co5:Value).ownBlock) (.slice Ao5 l0_0.length co5) l0_0 a0_1 a0_2 a0_3 (strOfNums t518) t521 t524 t525 t526 w0 _ ?side1 ?side2 A4.out).mono ?_
  (case side1=> repeat (first|(with_reducible first|exact HB.out|apply below_alloc|apply pw_below_drewN|apply below_drew1|refine below_set ?_ GE516.out|refine below_set ?_ GE517.out)|exact HB.out))
  (case side2=> exact Kd.R_tight rfl HO0_0.out)
  rintro e w11 ⟨v522,rfl,ho0,hb,hkp⟩
  refine ⟨_,rfl,?_⟩
  have n0_:=Aside0.mk (blk_kept (by (with_reducible repeat (first|apply bN|apply bd|apply bA));exact BK516.out) hkp (fun hs_=> (fun e_=> (Kd.R_ne HO0_0.out BK516.out (by decide)) e_) hs_))
  have n1_:=Aside0.mk (blk_kept (by (with_reducible repeat (first|apply bN|apply bd|apply bA));exact BK517.out) hkp (fun hs_=> (fun e_=> (Kd.R_ne HO0_0.out BK517.out (by decide)) e_) hs_))
  have n2_:=Aside0.mk (Kd.R_mono (ok':=fun k_=> (P0_0_ k_ ∨ w.heap.size ≤ k_)) (Kd.R_keptB ((Kd.R_apart' HO520.out (Kd.R_typed HO0_0.out) (by decide))) hkp (fun k_ hk_ hs_=> (hk_.2) hs_)) (fun k_ hk_=> hk_.1.1.1))
  have n3_:=Aside0.mk (Kd.R_mono (ok':=fun k_=> (P0_0_ k_ ∨ w.heap.size ≤ k_)) ho0 (fun k_ hk_=> Or.elim hk_ (fun hs_=> (HO0_0.out.1 k_ (hs_).symm)) (fun hn_=> (.inr (Nat.le_trans (by first|exact HK.out.1|exact (show Kept w _ (fun k_=> P0_0_ k_) from by repeat (first|(with_reducible first|exact HK.out|apply Kept.alloc|apply Kept.drewN|apply Kept.drew|refine Kept.setCell ?_ (.inr GW516.out) _|refine Kept.setCell ?_ (.inr GW517.out) _)|exact HK.out)).1) hn_)))))
  have n4_:=Aside0.mk (Kept.then_ (S:=(fun k_=> P0_0_ k_)) (by repeat (first|(with_reducible first|exact HK.out|apply Kept.alloc|apply Kept.drewN|apply Kept.drew|refine Kept.setCell ?_ (.inr GW516.out) _|refine Kept.setCell ?_ (.inr GW517.out) _)|exact HK.out)) hkp (fun k_ hs_=> (fun e_=> (HO0_0.out.1 k_ e_.symm)) hs_))
  have n5_:=Aside0.mk (hb)
  clear BK516
  clear BK517
  clear HO520
  clear HK
  clear HB
  clear HO0_0
  have BK516:=n0_
  have BK517:=n1_
  have HO520:=n2_
  have HO523:=n3_
  have HK:=n4_
  have HB:=n5_
  clear n0_ n1_ n2_ n3_ n4_ n5_
  (try clear hb)
  (try clear hkp)
  (try clear ho0)
  obtain ⟨Ao12,co12,eo12⟩:=Kd.R_slice HO523.out
  (first|subst eo12|(injection eo12 with f1_ f2_ f3_;have f4_:=f1_.symm;have f5_:=f3_.symm;clear f1_ f2_ f3_;subst f4_;subst f5_))
  refine hK.out _ _ ⟨(blk_cell BK516.out 0).trans rfl,(blk_cell BK516.out 1).trans rfl,(blk_cell BK516.out 2).trans rfl,(blk_cell BK516.out 3).trans rfl⟩ (fun hHeld=> ?_)
  clear hK K
  refine norm_ (a':=?_) ?_ ?_
  rotate_left
  · show Act.put _ (some 9) _=_
    simp only [Act.put,List.setIfInBounds_toArray,List.set_cons_zero,List.set_cons_succ,i64_w,i32_w]
    rfl
  refine one_ (i:=5) (N:=none) #[true,true,true,true,true,true] rfl rfl (by kernel_rfl) (by decide) (fun K hK=> ?_)
  have hs13:w11.cell? ⟨gb517,0,none⟩=some (.slice none 0 0):=(blk_cell BK517.out 0).trans rfl
  have hfs13:=blk_frozen BK517.out 0
  have hns13_0:=NB516_517.out
  have hms13_0:=NB517_516.out
  have hs14:w11.cell? ⟨gb517,1,none⟩=some (.int .i64 0):=(blk_cell BK517.out 1).trans rfl
  have hfs14:=blk_frozen BK517.out 1
  have hns14_0:=NB516_517.out
  have hms14_0:=NB517_516.out
  have hs15:w11.cell? ⟨gb517,2,none⟩=some (.string (⟨#[]⟩:ByteArray)):=(blk_cell BK517.out 2).trans rfl
  have hfs15:=blk_frozen BK517.out 2
  have hns15_0:=NB516_517.out
  have hms15_0:=NB517_516.out
  have hs16:w11.cell? ⟨gb517,3,none⟩=some (.int .i64 0):=(blk_cell BK517.out 3).trans rfl
  have hfs16:=blk_frozen BK517.out 3
  have hns16_0:=NB516_517.out
  have hms16_0:=NB517_516.out
  refine skip_ (w1:=?_) (by rfl) rfl ?_ ?_
  rotate_left
  · go_simp
    rfl
  refine hK.out _ _ ⟨((cell_far (p:=⟨gb517,_,none⟩) NB516_517.out _).trans (((cell_far (p:=⟨gb517,_,none⟩) NB516_517.out _).trans (((cell_far (p:=⟨gb517,_,none⟩) NB516_517.out _).trans (((cell_far (p:=⟨gb517,_,none⟩) NB516_517.out _).trans (hHeld.1)))))))),((cell_far (p:=⟨gb517,_,none⟩) NB516_517.out _).trans (((cell_far (p:=⟨gb517,_,none⟩) NB516_517.out _).trans (((cell_far (p:=⟨gb517,_,none⟩) NB516_517.out _).trans (((cell_far (p:=⟨gb517,_,none⟩) NB516_517.out _).trans (hHeld.2.1)))))))),((cell_far (p:=⟨gb517,_,none⟩) NB516_517.out _).trans (((cell_far (p:=⟨gb517,_,none⟩) NB516_517.out _).trans (((cell_far (p:=⟨gb517,_,none⟩) NB516_517.out _).trans (((cell_far (p:=⟨gb517,_,none⟩) NB516_517.out _).trans (hHeld.2.2.1)))))))),((cell_far (p:=⟨gb517,_,none⟩) NB516_517.out _).trans (((cell_far (p:=⟨gb517,_,none⟩) NB516_517.out _).trans (((cell_far (p:=⟨gb517,_,none⟩) NB516_517.out _).trans (((cell_far (p:=⟨gb517,_,none⟩) NB516_517.out _).trans (hHeld.2.2.2))))))))⟩ (fun hHeld=> ?_)
  clear hK K
  refine done_ (by kernel_rfl) ?_
  try go_wp2
  refine bodyPost_ret (results_cell_row rfl _ _ gb517 36 #[.slice Ao12 t521.length co12,.int .i64 t524,.string t525,.int .i64 t526] (0,0) _ rfl (by (with_reducible repeat (first|apply bN|apply bd|apply bA));refine blk_put (cs:= #[.slice Ao12 t521.length co12,.int .i64 t524,.string t525,.int .i64 0]) ?_ 3 _ rfl;(with_reducible repeat (first|apply bN|apply bd|apply bA));refine blk_put (cs:= #[.slice Ao12 t521.length co12,.int .i64 t524,.string (⟨#[]⟩:ByteArray),.int .i64 0]) ?_ 2 _ rfl;(with_reducible repeat (first|apply bN|apply bd|apply bA));refine blk_put (cs:= #[.slice Ao12 t521.length co12,.int .i64 0,.string (⟨#[]⟩:ByteArray),.int .i64 0]) ?_ 1 _ rfl;(with_reducible repeat (first|apply bN|apply bd|apply bA));refine blk_put (cs:= #[.slice none 0 0,.int .i64 0,.string (⟨#[]⟩:ByteArray),.int .i64 0]) ?_ 0 _ rfl;(with_reducible repeat (first|apply bN|apply bd|apply bA));exact BK517.out) Try.underlying36 rfl (by kernel_rfl)) rfl ?_
  exact ⟨_,by first|rfl|(simp [errW_none,errW_some] <;> rfl)|(simp [*,errW_none,errW_some] <;> rfl),by (with_reducible repeat (first|apply Kd.R_alloc|apply Kd.R_drewN|apply Kd.R_drew));exact Kd.R_mono (Kd.R_far (p:=⟨gb517,3,none⟩) (Kd.R_far (p:=⟨gb517,2,none⟩) (Kd.R_far (p:=⟨gb517,1,none⟩) (Kd.R_far (p:=⟨gb517,0,none⟩) (Kd.R_types HO523.out BK517.out (by decide)) (fun _ hk=> hk.2) (.slice Ao12 t521.length co12)) (fun _ hk=> hk.2) (.int .i64 t524)) (fun _ hk=> hk.2) (.string t525)) (fun _ hk=> hk.2) (.int .i64 t526)) (fun _ hk=> hk.1),by repeat (first|(with_reducible first|exact HB.out|apply below_alloc|apply pw_below_drewN|apply below_drew1|refine below_set ?_ GE516.out|refine below_set ?_ GE517.out)|exact HB.out),by repeat (first|(with_reducible first|exact HK.out|apply Kept.alloc|apply Kept.drewN|apply Kept.drew|refine Kept.setCell ?_ (.inr GW516.out) _|refine Kept.setCell ?_ (.inr GW517.out) _)|exact HK.out)⟩
def spec_l05Own.f (l0_0:List (S79)) (a0_1:Int) (a0_2:ByteArray) (a0_3:Int):Option ((List (S79)) × Int × ByteArray × Int):=(some (([]:List (S79)):List (S79))).bind fun y411=> (if y411.length + l0_0.length < 8796093022208 then (some ((y411 ++ l0_0),a0_1,a0_2,a0_3)) else (none))
set_option maxHeartbeats 8000000 in
set_option maxRecDepth 100000 in
theorem spec_l05Own.calls (A0_0:Option Addr) (c0_0:Nat) (l0_0:List (S79)) (a0_1:Int) (a0_2:ByteArray) (a0_3:Int) (r1:List (S79)) (r2:Int) (r3:ByteArray) (r4:Int) (w:World) (hr0_0:Kd.C k79 w A0_0 l0_0.length l0_0) (hc0_0:l0_0.length ≤ c0_0) (h:spec_l05Own.f l0_0 a0_1 a0_2 a0_3=some (r1,r2,r3,r4)):
    Calls Try.prog 125 #[.agg #[.slice A0_0 l0_0.length c0_0,.int .i64 a0_1,.string a0_2,.int .i64 a0_3]] w fun e w'=> ∃ v0_:Value,e= .returned (.agg #[v0_,.int .i64 r2,.string r3,.int .i64 r4]) ∧ Kd.R k79 79 w' w.heap.size (fun _=> True) v0_ r1 ∧ Below w.heap.size w w':=by
  have hu36:=Try.underlying36
  have HR0_0:=Aside0.mk hr0_0
  have HC0_0:=Aside0.mk hc0_0
  clear hr0_0 hc0_0
  have HB:=Aside0.mk (Below.refl w.heap.size w)
  have H:((some (([]:List (S79)):List (S79))).bind fun y411=> (if y411.length + l0_0.length < 8796093022208 then (some ((y411 ++ l0_0),a0_1,a0_2,a0_3)) else (none)))=some (r1,r2,r3,r4):=h
  clear h
  obtain ⟨y411,hy411⟩:∃ y_:List (S79),y_=(([]:List (S79))):=⟨_,rfl⟩
  replace H:(if y411.length + l0_0.length < 8796093022208 then (some ((y411 ++ l0_0),a0_1,a0_2,a0_3)) else (none))=some (r1,r2,r3,r4):=by first|(rw [hy411];with_reducible exact H)|(have H2_:=(Option.bind_some _ _).symm.trans H;rw [hy411];with_reducible exact H2_)|(have H2_:=(Option.bind_some _ _).symm.trans H;with_reducible exact H2_)|with_reducible exact H|(rw [hy411];exact H)|exact H
  have Ny411:=Aside0.mk hy411
  clear hy411
  by_cases c2:y411.length + l0_0.length < 8796093022208
  · rw [if_pos c2] at H
    have LMc2:=Aside0.mk c2
    clear c2
    obtain ⟨y414,hy414⟩:∃ y_:List (S79),y_=(y411 ++ l0_0):=⟨_,rfl⟩
    replace H:(some (y414,a0_1,a0_2,a0_3))=some (r1,r2,r3,r4):=by first|(rw [hy414];with_reducible exact H)|(have H2_:=(Option.bind_some _ _).symm.trans H;rw [hy414];with_reducible exact H2_)|(have H2_:=(Option.bind_some _ _).symm.trans H;with_reducible exact H2_)|with_reducible exact H|(rw [hy414];exact H)|exact H
    have Ny414:=Aside0.mk hy414
    clear hy414
    simp only [Option.some.injEq,Prod.mk.injEq] at H
    obtain ⟨rfl,rfl,rfl,rfl⟩:=H
    go_enter Try.func125,Try.ntmps125
    go_wp2_with (first|((with_reducible refine gate_dst (N:=1) rfl ?_);refine box_event ?hg (N:=1) ?hd (cs:= #[.slice A0_0 l0_0.length c0_0,.int .i64 a0_1,.string a0_2,.int .i64 a0_3]) (t:=36) ?hr ?_;(case hd=> rfl);(case hg=> rfl);(case hr=> first|(go_simp;done)|(go_simp;rfl));intro gb409 hg w3 hbox hb;have n0_:=Aside0.mk (below_step (by repeat (first|(with_reducible first|exact HB.out|apply below_alloc|apply pw_below_drewN|apply below_drew1)|exact HB.out)) hb);have n1_:=Aside0.mk (hbox);have n2_:=Aside0.mk ((by rw [hg];exact (below_size (by repeat (first|(with_reducible first|exact HB.out|apply below_alloc|apply pw_below_drewN|apply below_drew1)|exact HB.out))):w.heap.size ≤ gb409));have n3_:=Aside0.mk ((by rw [hg];exact (below_size (by repeat (first|(with_reducible first|exact HB.out|apply below_alloc|apply pw_below_drewN|apply below_drew1)|exact HB.out))):w.heap.size ≤ gb409));clear HB;have HB:=n0_;have BK409:=n1_;have GW409:=n2_;have GE409:=n3_;clear n0_ n1_ n2_ n3_;clear hb hbox hg)|((with_reducible refine gate_dst (N:=2) rfl ?_);refine box_event ?hg (N:=2) ?hd (cs:= #[.slice none 0 0,.int .i64 0,.string (⟨#[]⟩:ByteArray),.int .i64 0]) (t:=36) ?hr ?_;(case hd=> rfl);(case hg=> rfl);(case hr=> first|(go_simp;done)|(go_simp;rfl));intro gb410 hg w4 hbox hb;have n0_:=Aside0.mk (blk_below (g:=gb409) (o:= .cells #[.slice A0_0 l0_0.length c0_0,.int .i64 a0_1,.string a0_2,.int .i64 a0_3] 36 (0,0)) (by (with_reducible repeat (first|apply bN|apply bd|apply bA));exact BK409.out) hb);have n1_:=Aside0.mk (below_step (by repeat (first|(with_reducible first|exact HB.out|apply below_alloc|apply pw_below_drewN|apply below_drew1|refine below_set ?_ GE409.out)|exact HB.out)) hb);have n2_:=Aside0.mk (hbox);have n3_:=Aside0.mk ((by rw [hg];exact (below_size (by repeat (first|(with_reducible first|exact HB.out|apply below_alloc|apply pw_below_drewN|apply below_drew1|refine below_set ?_ GE409.out)|exact HB.out))):w.heap.size ≤ gb410));have n4_:=Aside0.mk ((by rw [hg];exact (below_size (by repeat (first|(with_reducible first|exact HB.out|apply below_alloc|apply pw_below_drewN|apply below_drew1|refine below_set ?_ GE409.out)|exact HB.out))):w.heap.size ≤ gb410));have n5_:=Aside0.mk ((by rw [hg];exact Nat.ne_of_lt (blk_lt (g:=gb409) (o:= .cells #[.slice A0_0 l0_0.length c0_0,.int .i64 a0_1,.string a0_2,.int .i64 a0_3] 36 (0,0)) (by (with_reducible repeat (first|apply bN|apply bd|apply bA));exact BK409.out)):gb409 ≠ gb410));have n6_:=Aside0.mk ((by rw [hg];exact Nat.ne_of_gt (blk_lt (g:=gb409) (o:= .cells #[.slice A0_0 l0_0.length c0_0,.int .i64 a0_1,.string a0_2,.int .i64 a0_3] 36 (0,0)) (by (with_reducible repeat (first|apply bN|apply bd|apply bA));exact BK409.out)):gb410 ≠ gb409));clear BK409;clear HB;have BK409:=n0_;have HB:=n1_;have BK410:=n2_;have GW410:=n3_;have GE410:=n4_;have NB409_410:=n5_;have NB410_409:=n6_;clear n0_ n1_ n2_ n3_ n4_ n5_ n6_;clear hb hbox hg)|((with_reducible refine gate_dst (N:=3) rfl ?_);refine Kd.R_lit k79 _ 79 ?hg (N:=3) ?hd (xs:=([]:List (S79))) (inner:= []) (ok:=fun _=> True) (okp:=fun _=> True) ?hr ?hp (fun _ hk=> hk) trivial (Below.refl _ _) (Nat.le_refl _) (by simp) ?_;(case hd=> rfl);(case hg=> rfl);(case hr=> first|(go_simp;done)|(go_simp;rfl));(case hp=> exact (Reps.none _ _));intro v412 w5 ho6 hb hg_ hnew_;clear hg_ hnew_;(first|rw [← Ny411.out] at ho6|(simp only [Int.reduceToNat] at ho6;rw [← Ny411.out] at ho6));have n0_:=Aside0.mk (Kd.R_lower ho6 (below_size (by repeat (first|(with_reducible first|exact HB.out|apply below_alloc|apply pw_below_drewN|apply below_drew1|refine below_set ?_ GE409.out|refine below_set ?_ GE410.out)|exact HB.out))));have n1_:=Aside0.mk (blk_below (g:=gb409) (o:= .cells #[.slice A0_0 l0_0.length c0_0,.int .i64 a0_1,.string a0_2,.int .i64 a0_3] 36 (0,0)) (by (with_reducible repeat (first|apply bN|apply bd|apply bA));exact BK409.out) hb);have n2_:=Aside0.mk (blk_below (g:=gb410) (o:= .cells #[.slice none 0 0,.int .i64 0,.string (⟨#[]⟩:ByteArray),.int .i64 0] 36 (0,0)) (by (with_reducible repeat (first|apply bN|apply bd|apply bA));exact BK410.out) hb);have n3_:=Aside0.mk (below_step (by repeat (first|(with_reducible first|exact HB.out|apply below_alloc|apply pw_below_drewN|apply below_drew1|refine below_set ?_ GE409.out|refine below_set ?_ GE410.out)|exact HB.out)) hb);clear BK409;clear BK410;clear HB;have HO413:=n0_;have BK409:=n1_;have BK410:=n2_;have HB:=n3_;clear n0_ n1_ n2_ n3_;clear hb ho6;have hnb7:=NB409_410.out;have hnc7:=NB410_409.out;have hcz8_0:w5.cell? ⟨gb409,0,none⟩=some (.slice A0_0 l0_0.length c0_0):=(blk_cell BK409.out 0).trans rfl;have hcz8_1:w5.cell? ⟨gb409,1,none⟩=some (.int .i64 a0_1):=(blk_cell BK409.out 1).trans rfl;have hcz8_2:w5.cell? ⟨gb409,2,none⟩=some (.string a0_2):=(blk_cell BK409.out 2).trans rfl;have hcz8_3:w5.cell? ⟨gb409,3,none⟩=some (.int .i64 a0_3):=(blk_cell BK409.out 3).trans rfl;have hfz8_0:=blk_frozen BK409.out 0;have hfz8_1:=blk_frozen BK409.out 1;have hfz8_2:=blk_frozen BK409.out 2;have hfz8_3:=blk_frozen BK409.out 3)|((with_reducible refine gate_builtin (b:= .append) (xs:= #[.tmp 3,.tmp 5]) rfl ?_);at_builtin;refine Kd.R_append_rows k79 (w0:=w) w.heap.size rfl (.tmp 3) (.tmp 5) 34 79 (.agg #[(.int .i64 0),(.int .i64 0)]) 16 rfl Try.underlying34 info79 rfl (by decide) (by omega) v412 y411 l0_0 _ _ _ (fun _=> True) (fun _=> False) rfl rfl ?aO ?aR (fun _ _ h=> h) (fun _ h=> h.elim) ?aF ?aB ?aS ?aL ?_;(case aR=> repeat (first|exact (Kd.C_below HR0_0.out HB.out)|(with_reducible refine Kd.C_alloc ?_ _)|(with_reducible refine Kd.C_drewN ?_ _)|(with_reducible refine Kd.C_drew ?_)));(case aB=> exact (by repeat (first|(with_reducible first|exact HB.out|apply below_alloc|apply pw_below_drewN|apply below_drew1|refine below_set ?_ GE409.out|refine below_set ?_ GE410.out)|exact HB.out)));(case aF=> exact (fun _ _=> trivial));(case aO=> exact (by (with_reducible repeat (first|apply Kd.R_alloc|apply Kd.R_drewN|apply Kd.R_drew));exact HO413.out));(case aS=> exact (below_size (by repeat (first|(with_reducible first|exact HB.out|apply below_alloc|apply pw_below_drewN|apply below_drew1|refine below_set ?_ GE409.out|refine below_set ?_ GE410.out)|exact HB.out))));(case aL=> have:=LMc2.out;omega);intro v415 w9 ho hb hg hat;rw [← Ny414.out] at ho;have n0_:=Aside0.mk (blk_grown (g:=gb409) (o:= .cells #[.slice A0_0 l0_0.length c0_0,.int .i64 a0_1,.string a0_2,.int .i64 a0_3] 36 (0,0)) (by (with_reducible repeat (first|apply bN|apply bd|apply bA));exact BK409.out) hg (Kd.R_ne HO413.out BK409.out (by decide)));have n1_:=Aside0.mk (blk_grown (g:=gb410) (o:= .cells #[.slice none 0 0,.int .i64 0,.string (⟨#[]⟩:ByteArray),.int .i64 0] 36 (0,0)) (by (with_reducible repeat (first|apply bN|apply bd|apply bA));exact BK410.out) hg (Kd.R_ne HO413.out BK410.out (by decide)));have n2_:=Aside0.mk (hb);have n3_:=Aside0.mk (ho);clear BK409;clear BK410;clear HB;clear HO413;have BK409:=n0_;have BK410:=n1_;have HB:=n2_;have HO416:=n3_;clear n0_ n1_ n2_ n3_;clear ho hb hg hat;obtain ⟨Ao10,co10,eo10⟩:=Kd.R_slice HO416.out;subst eo10;have hcz11_0:w9.cell? ⟨gb409,0,none⟩=some (.slice A0_0 l0_0.length c0_0):=(blk_cell BK409.out 0).trans rfl;have hcz11_1:w9.cell? ⟨gb409,1,none⟩=some (.int .i64 a0_1):=(blk_cell BK409.out 1).trans rfl;have hcz11_2:w9.cell? ⟨gb409,2,none⟩=some (.string a0_2):=(blk_cell BK409.out 2).trans rfl;have hcz11_3:w9.cell? ⟨gb409,3,none⟩=some (.int .i64 a0_3):=(blk_cell BK409.out 3).trans rfl;have hfz11_0:=blk_frozen BK409.out 0;have hfz11_1:=blk_frozen BK409.out 1;have hfz11_2:=blk_frozen BK409.out 2;have hfz11_3:=blk_frozen BK409.out 3;have hcz12_0:w9.cell? ⟨gb410,0,none⟩=some (.slice none 0 0):=(blk_cell BK410.out 0).trans rfl;have hcz12_1:w9.cell? ⟨gb410,1,none⟩=some (.int .i64 0):=(blk_cell BK410.out 1).trans rfl;have hcz12_2:w9.cell? ⟨gb410,2,none⟩=some (.string (⟨#[]⟩:ByteArray)):=(blk_cell BK410.out 2).trans rfl;have hcz12_3:w9.cell? ⟨gb410,3,none⟩=some (.int .i64 0):=(blk_cell BK410.out 3).trans rfl;have hfz12_0:=blk_frozen BK410.out 0;have hfz12_1:=blk_frozen BK410.out 1;have hfz12_2:=blk_frozen BK410.out 2;have hfz12_3:=blk_frozen BK410.out 3))
    refine bodyPost_ret (results_cell_row rfl _ _ gb410 36 #[.slice Ao10 y414.length co10,.int .i64 a0_1,.string a0_2,.int .i64 a0_3] (0,0) _ rfl (by (with_reducible repeat (first|apply bN|apply bd|apply bA));refine blk_put (cs:= #[.slice Ao10 y414.length co10,.int .i64 a0_1,.string a0_2,.int .i64 0]) ?_ 3 _ rfl;(with_reducible repeat (first|apply bN|apply bd|apply bA));refine blk_put (cs:= #[.slice Ao10 y414.length co10,.int .i64 a0_1,.string (⟨#[]⟩:ByteArray),.int .i64 0]) ?_ 2 _ rfl;(with_reducible repeat (first|apply bN|apply bd|apply bA));refine blk_put (cs:= #[.slice Ao10 y414.length co10,.int .i64 0,.string (⟨#[]⟩:ByteArray),.int .i64 0]) ?_ 1 _ rfl;(with_reducible repeat (first|apply bN|apply bd|apply bA));refine blk_put (cs:= #[.slice none 0 0,.int .i64 0,.string (⟨#[]⟩:ByteArray),.int .i64 0]) ?_ 0 _ rfl;(with_reducible repeat (first|apply bN|apply bd|apply bA));refine blk_far ?_ NB410_409.out _;(with_reducible repeat (first|apply bN|apply bd|apply bA));exact BK410.out) Try.underlying36 rfl (by kernel_rfl)) rfl ?_
    exact ⟨_,by first|rfl|(simp [errW_none,errW_some] <;> rfl)|(simp [*,errW_none,errW_some] <;> rfl),by (with_reducible repeat (first|apply Kd.R_alloc|apply Kd.R_drewN|apply Kd.R_drew));exact Kd.R_mono (Kd.R_far (p:=⟨gb410,3,none⟩) (Kd.R_far (p:=⟨gb410,2,none⟩) (Kd.R_far (p:=⟨gb410,1,none⟩) (Kd.R_far (p:=⟨gb410,0,none⟩) (Kd.R_far (p:=⟨gb409,0,none⟩) (Kd.R_types (Kd.R_types HO416.out BK409.out (by decide)) BK410.out (by decide)) (fun _ hk=> hk.1.2) (.slice Ao10 y414.length co10)) (fun _ hk=> hk.2) (.slice Ao10 y414.length co10)) (fun _ hk=> hk.2) (.int .i64 a0_1)) (fun _ hk=> hk.2) (.string a0_2)) (fun _ hk=> hk.2) (.int .i64 a0_3)) (fun _ hk=> trivial),by repeat (first|(with_reducible first|exact HB.out|apply below_alloc|apply pw_below_drewN|apply below_drew1|refine below_set ?_ GE409.out|refine below_set ?_ GE410.out)|exact HB.out)⟩
  · rw [if_neg c2] at H
    exact absurd H (by simp)
end Go.Proofs.Ytlogocmojnhpbaa.Print
