-- Packed by a program of this session (slim.py) out of printed texts; not trusted, Lean checks it.
import Derived.Test.YtlogocmojnhpbaaP0
import Derived.Test.YtlogocmojnhpbaaQFnExactAbsorbExts3
import Derived.Test.YtlogocmojnhpbaaQFnExactAbsorbExts4
namespace Go.Proofs.Ytlogocmojnhpbaa.Print
open Go.RowKit Go.Proofs.YtlogocmojnhpbaaW.PrintWords Go.Proofs.YtlogocmojnhpbaaW.PrintLast Go.Proofs.YtlogocmojnhpbaaW.PrintMore
attribute [local go_sem] max2_int min2_int max_two min_two max_three min_three max_four min_four
set_option linter.unusedVariables false
set_option linter.unusedSimpArgs false
def spec_AbsorbExts.j0:Nat → List (S79) → Bool → List (S79) → Int → ByteArray → Int → Option ((List (S79)) × Int × ByteArray × Int × Int)
  |0,_,_,_,_,_,_=> none
  |k + 1,x1,x17,x528000,x528001,x528002,x528003=> if x17=true then (some (([]:List (S79)),0,(⟨#[]⟩:ByteArray),0,1)) else ((spec_l05Exts.f k x528000 x528001 x528002 x528003 x1).bind fun bt531=> ((spec_l05Own.f bt531.1 bt531.2.1 bt531.2.2.1 bt531.2.2.2).bind fun bt537=> (some (bt537.1,bt537.2.1,bt537.2.2.1,bt537.2.2.2,0))))
def spec_AbsorbExts.f (k:Nat) (l0_0:List (S79)) (a0_1:Int) (a0_2:ByteArray) (a0_3:Int) (l1:List (S79)):Option ((List (S79)) × Int × ByteArray × Int × Int):=if (l1.length:Int) > 4096 then (some (([]:List (S79)),0,(⟨#[]⟩:ByteArray),0,2)) else ((spec_SourceOK.f k l0_0 a0_1 a0_2 a0_3).bind fun t529=> (if t529=true then ((spec_l02List.f k l1).bind fun t530=> (spec_AbsorbExts.j0 k l1 (!t530) l0_0 a0_1 a0_2 a0_3)) else (spec_AbsorbExts.j0 k l1 true l0_0 a0_1 a0_2 a0_3)))
theorem spec_AbsorbExts.mono_l:∀ k,(∀ y0 y1 y2 y3 y4 y5,LeO (spec_AbsorbExts.j0 k y0 y1 y2 y3 y4 y5) (spec_AbsorbExts.j0 (k + 1) y0 y1 y2 y3 y4 y5))
  |0=> fun _ _ _ _ _ _ r h=> by simp [spec_AbsorbExts.j0] at h
  |k + 1=> by
    have ih0:=spec_AbsorbExts.mono_l k
    · intro y0 y1 y2 y3 y4 y5
      unfold spec_AbsorbExts.j0
      repeat' first
      |(with_reducible exact ih0 _ _ _ _ _ _)
      |(with_reducible exact spec_SourceOK.mono _ _ _ _ _)
      |(with_reducible exact spec_l02List.mono _ _)
      |(with_reducible exact spec_l05Exts.mono _ _ _ _ _ _)
      |(with_reducible exact LeO.refl _)
      |(with_reducible exact LeO.none _)
      |(with_reducible refine LeO.ite ?_ ?_)
      |(with_reducible refine LeO.bind ?_ (fun _=> ?_))
      |exact ih0 _ _ _ _ _ _
      |exact spec_SourceOK.mono _ _ _ _ _
      |exact spec_l02List.mono _ _
      |exact spec_l05Exts.mono _ _ _ _ _ _
      |exact LeO.none _
      |refine LeO.ite ?_ ?_
      |refine LeO.bind ?_ (fun _=> ?_)
theorem spec_AbsorbExts.mono:∀ a0 a1 a2 a3 a4 k,LeO (spec_AbsorbExts.f k a0 a1 a2 a3 a4) (spec_AbsorbExts.f (k + 1) a0 a1 a2 a3 a4):=by
  intro a0 a1 a2 a3 a4 k
  have ih0:=spec_AbsorbExts.mono_l k
  unfold spec_AbsorbExts.f
  repeat' first
      |(with_reducible exact ih0 _ _ _ _ _ _)
      |(with_reducible exact spec_SourceOK.mono _ _ _ _ _)
      |(with_reducible exact spec_l02List.mono _ _)
      |(with_reducible exact spec_l05Exts.mono _ _ _ _ _ _)
      |(with_reducible exact LeO.refl _)
      |(with_reducible exact LeO.none _)
      |(with_reducible refine LeO.ite ?_ ?_)
      |(with_reducible refine LeO.bind ?_ (fun _=> ?_))
      |exact ih0 _ _ _ _ _ _
      |exact spec_SourceOK.mono _ _ _ _ _
      |exact spec_l02List.mono _ _
      |exact spec_l05Exts.mono _ _ _ _ _ _
      |exact LeO.none _
      |refine LeO.ite ?_ ?_
      |refine LeO.bind ?_ (fun _=> ?_)
set_option maxHeartbeats 8000000 in
set_option maxRecDepth 100000 in
theorem spec_AbsorbExts.calls (k:Nat) (P0_0_:Nat → Prop) (u9000_:Value) (l0_0:List (S79)) (a0_1:Int) (a0_2:ByteArray) (a0_3:Int) (A1:Option Addr) (c1:Nat) (l1:List (S79)) (r1:List (S79)) (r2:Int) (r3:ByteArray) (r4:Int) (r5:Int) (w0 w:World) (hB:Below w0.heap.size w0 w) (ho0_0:Kd.R k79 79 w w0.heap.size P0_0_ u9000_ l0_0) (hr1:∀ W_,Kept w W_ (fun k_=> P0_0_ k_) → Kd.C k79 W_ A1 l1.length l1) (hc1:l1.length ≤ c1) (h:spec_AbsorbExts.f k l0_0 a0_1 a0_2 a0_3 l1=some (r1,r2,r3,r4,r5)):
    Calls Try.prog 67 #[.agg #[u9000_,.int .i64 a0_1,.string a0_2,.int .i64 a0_3],.slice A1 l1.length c1] w fun e w'=> ∃ v0_:Value,e= .returned (.tuple #[.agg #[v0_,.int .i64 r2,.string r3,.int .i64 r4],.int .i64 r5]) ∧ Kd.R k79 79 w' w0.heap.size (fun k_=> (P0_0_ k_ ∨ w.heap.size ≤ k_)) v0_ r1 ∧ Below w0.heap.size w0 w' ∧ Kept w w' (fun k_=> P0_0_ k_):=by
  have hu36:=Try.underlying36
  have HO0_0:=Aside0.mk (show Kd.R k79 79 w w0.heap.size (fun k_=> (P0_0_ k_ ∨ w.heap.size ≤ k_)) u9000_ l0_0 from Kd.R_mono ho0_0 (fun k_ hk=> (.inl hk)))
  have HR1:=Aside0.mk hr1
  have HC1:=Aside0.mk hc1
  clear hr1 hc1
  have HK:=Aside0.mk (Kept.refl w (fun k_=> P0_0_ k_))
  have HW0:=Aside0.mk hB.size
  have HB:=Aside0.mk hB
  clear hB
  have H:(if (l1.length:Int) > 4096 then (some (([]:List (S79)),0,(⟨#[]⟩:ByteArray),0,2)) else ((spec_SourceOK.f k l0_0 a0_1 a0_2 a0_3).bind fun t529=> (if t529=true then ((spec_l02List.f k l1).bind fun t530=> (spec_AbsorbExts.j0 k l1 (!t530) l0_0 a0_1 a0_2 a0_3)) else (spec_AbsorbExts.j0 k l1 true l0_0 a0_1 a0_2 a0_3))))=some (r1,r2,r3,r4,r5):=h
  clear h
  by_cases c3:(l1.length:Int) > 4096
  · rw [if_pos c3] at H
    have c3b0:decide (4096 < (l1.length:Int))=true:=decide_eq_true c3
    have c3b1:decide (4096 < l1.length)=true:=decide_eq_true (by omega)
    clear c3
    simp only [Option.some.injEq,Prod.mk.injEq] at H
    obtain ⟨rfl,rfl,rfl,rfl,rfl⟩:=H
    obtain ⟨Ao4,co4,eo4⟩:=Kd.R_slice HO0_0.out
    subst eo4
    go_enter Try.func67,Try.ntmps67
    go_wp2_with (first|((with_reducible refine gate_dst (N:=2) rfl ?_);refine box_event ?hg (N:=2) ?hd (cs:= #[.slice Ao4 l0_0.length co4,.int .i64 a0_1,.string a0_2,.int .i64 a0_3]) (t:=36) ?hr ?_;(case hd=> rfl);(case hg=> rfl);(case hr=> first|(go_simp;done)|(go_simp;rfl));intro gb527 hg w5 hbox hb;have n0_:=Aside0.mk (Kd.R_below (by (with_reducible repeat (first|apply Kd.R_alloc|apply Kd.R_drewN|apply Kd.R_drew));exact HO0_0.out) hb);have n1_:=Aside0.mk (Kept.below (S:=(fun k_=> P0_0_ k_)) (by repeat (first|(with_reducible first|exact HK.out|apply Kept.alloc|apply Kept.drewN|apply Kept.drew)|exact HK.out)) hb);have n2_:=Aside0.mk (below_step (by repeat (first|(with_reducible first|exact HB.out|apply below_alloc|apply pw_below_drewN|apply below_drew1)|exact HB.out)) hb);have n3_:=Aside0.mk (hbox);have n4_:=Aside0.mk ((by rw [hg];exact (by first|exact HK.out.1|exact (show Kept w _ (fun k_=> P0_0_ k_) from by repeat (first|(with_reducible first|exact HK.out|apply Kept.alloc|apply Kept.drewN|apply Kept.drew)|exact HK.out)).1):w.heap.size ≤ gb527));have n5_:=Aside0.mk ((by rw [hg];exact (below_size (by repeat (first|(with_reducible first|exact HB.out|apply below_alloc|apply pw_below_drewN|apply below_drew1)|exact HB.out))):w0.heap.size ≤ gb527));clear HO0_0;clear HK;clear HB;have HO0_0:=n0_;have HK:=n1_;have HB:=n2_;have BK527:=n3_;have GW527:=n4_;have GE527:=n5_;clear n0_ n1_ n2_ n3_ n4_ n5_;clear hb hbox hg)|((with_reducible refine gate_dst (N:=4) rfl ?_);refine box_event ?hg (N:=4) ?hd (cs:= #[.slice none 0 0,.int .i64 0,.string (⟨#[]⟩:ByteArray),.int .i64 0]) (t:=36) ?hr ?_;(case hd=> rfl);(case hg=> rfl);(case hr=> first|(go_simp;done)|(go_simp;rfl));intro gb528 hg w6 hbox hb;have n0_:=Aside0.mk (Kd.R_below (by (with_reducible repeat (first|apply Kd.R_alloc|apply Kd.R_drewN|apply Kd.R_drew));exact HO0_0.out) hb);have n1_:=Aside0.mk (blk_below (g:=gb527) (o:= .cells #[.slice Ao4 l0_0.length co4,.int .i64 a0_1,.string a0_2,.int .i64 a0_3] 36 (0,0)) (by (with_reducible repeat (first|apply bN|apply bd|apply bA));exact BK527.out) hb);have n2_:=Aside0.mk (Kept.below (S:=(fun k_=> P0_0_ k_)) (by repeat (first|(with_reducible first|exact HK.out|apply Kept.alloc|apply Kept.drewN|apply Kept.drew|refine Kept.setCell ?_ (.inr GW527.out) _)|exact HK.out)) hb);have n3_:=Aside0.mk (below_step (by repeat (first|(with_reducible first|exact HB.out|apply below_alloc|apply pw_below_drewN|apply below_drew1|refine below_set ?_ GE527.out)|exact HB.out)) hb);have n4_:=Aside0.mk (hbox);have n5_:=Aside0.mk ((by rw [hg];exact (by first|exact HK.out.1|exact (show Kept w _ (fun k_=> P0_0_ k_) from by repeat (first|(with_reducible first|exact HK.out|apply Kept.alloc|apply Kept.drewN|apply Kept.drew|refine Kept.setCell ?_ (.inr GW527.out) _)|exact HK.out)).1):w.heap.size ≤ gb528));have n6_:=Aside0.mk ((by rw [hg];exact (below_size (by repeat (first|(with_reducible first|exact HB.out|apply below_alloc|apply pw_below_drewN|apply below_drew1|refine below_set ?_ GE527.out)|exact HB.out))):w0.heap.size ≤ gb528));have n7_:=Aside0.mk ((by rw [hg];exact Nat.ne_of_lt (blk_lt (g:=gb527) (o:= .cells #[.slice Ao4 l0_0.length co4,.int .i64 a0_1,.string a0_2,.int .i64 a0_3] 36 (0,0)) (by (with_reducible repeat (first|apply bN|apply bd|apply bA));exact BK527.out)):gb527 ≠ gb528));have n8_:=Aside0.mk ((by rw [hg];exact Nat.ne_of_gt (blk_lt (g:=gb527) (o:= .cells #[.slice Ao4 l0_0.length co4,.int .i64 a0_1,.string a0_2,.int .i64 a0_3] 36 (0,0)) (by (with_reducible repeat (first|apply bN|apply bd|apply bA));exact BK527.out)):gb528 ≠ gb527));clear HO0_0;clear BK527;clear HK;clear HB;have HO0_0:=n0_;have BK527:=n1_;have HK:=n2_;have HB:=n3_;have BK528:=n4_;have GW528:=n5_;have GE528:=n6_;have NB527_528:=n7_;have NB528_527:=n8_;clear n0_ n1_ n2_ n3_ n4_ n5_ n6_ n7_ n8_;clear hb hbox hg;have hnb7:=NB528_527.out;have hnc7:=NB527_528.out;have hcz8_0:w6.cell? ⟨gb528,0,none⟩=some (.slice none 0 0):=(blk_cell BK528.out 0).trans rfl;have hcz8_1:w6.cell? ⟨gb528,1,none⟩=some (.int .i64 0):=(blk_cell BK528.out 1).trans rfl;have hcz8_2:w6.cell? ⟨gb528,2,none⟩=some (.string (⟨#[]⟩:ByteArray)):=(blk_cell BK528.out 2).trans rfl;have hcz8_3:w6.cell? ⟨gb528,3,none⟩=some (.int .i64 0):=(blk_cell BK528.out 3).trans rfl;have hfz8_0:=blk_frozen BK528.out 0;have hfz8_1:=blk_frozen BK528.out 1;have hfz8_2:=blk_frozen BK528.out 2;have hfz8_3:=blk_frozen BK528.out 3))
    refine bodyPost_ret (results_ct rfl _ _ gb528 36 #[.slice none 0 0,.int .i64 0,.string (⟨#[]⟩:ByteArray),.int .i64 0] (0,0) _ rfl (by (with_reducible repeat (first|apply bN|apply bd|apply bA));refine blk_put (cs:= #[.slice none 0 0,.int .i64 0,.string (⟨#[]⟩:ByteArray),.int .i64 0]) ?_ 3 _ rfl;(with_reducible repeat (first|apply bN|apply bd|apply bA));refine blk_put (cs:= #[.slice none 0 0,.int .i64 0,.string (⟨#[]⟩:ByteArray),.int .i64 0]) ?_ 2 _ rfl;(with_reducible repeat (first|apply bN|apply bd|apply bA));refine blk_put (cs:= #[.slice none 0 0,.int .i64 0,.string (⟨#[]⟩:ByteArray),.int .i64 0]) ?_ 1 _ rfl;(with_reducible repeat (first|apply bN|apply bd|apply bA));refine blk_put (cs:= #[.slice none 0 0,.int .i64 0,.string (⟨#[]⟩:ByteArray),.int .i64 0]) ?_ 0 _ rfl;(with_reducible repeat (first|apply bN|apply bd|apply bA));exact BK528.out) Try.underlying36 rfl (by kernel_rfl)) rfl ?_
    exact ⟨_,by first|rfl|(simp [errW_none,errW_some] <;> rfl)|(simp [*,errW_none,errW_some] <;> rfl),by first|exact Kd.R_nil _ _ _ _ _|exact Kd.N_nil _ _ _ _ _|exact Kd.V_nil _ _ _ _ _|exact Kd.Q_nil _ _ _ _ _|exact Kd.S_nil _ _ _ _ _,by repeat (first|(with_reducible first|exact HB.out|apply below_alloc|apply pw_below_drewN|apply below_drew1|refine below_set ?_ GE527.out|refine below_set ?_ GE528.out)|exact HB.out),by repeat (first|(with_reducible first|exact HK.out|apply Kept.alloc|apply Kept.drewN|apply Kept.drew|refine Kept.setCell ?_ (.inr GW527.out) _|refine Kept.setCell ?_ (.inr GW528.out) _)|exact HK.out)⟩
  · rw [if_neg c3] at H
    have c3b0:decide (4096 < (l1.length:Int))=false:=decide_eq_false c3
    have c3b1:decide (4096 < l1.length)=false:=decide_eq_false (by omega)
    clear c3
    have HC9:=Aside0.mk H
    clear H
    obtain ⟨Ao10,co10,eo10⟩:=Kd.R_slice HO0_0.out
    subst eo10
    go_enter Try.func67,Try.ntmps67
    go_upto_region 3 with (first|((with_reducible refine gate_dst (N:=2) rfl ?_);refine box_event ?hg (N:=2) ?hd (cs:= #[.slice Ao10 l0_0.length co10,.int .i64 a0_1,.string a0_2,.int .i64 a0_3]) (t:=36) ?hr ?_;(case hd=> rfl);(case hg=> rfl);(case hr=> first|(go_simp;done)|(go_simp;rfl));intro gb527 hg w11 hbox hb;have n0_:=Aside0.mk (Kd.R_below (by (with_reducible repeat (first|apply Kd.R_alloc|apply Kd.R_drewN|apply Kd.R_drew));exact HO0_0.out) hb);have n1_:=Aside0.mk (Kept.below (S:=(fun k_=> P0_0_ k_)) (by repeat (first|(with_reducible first|exact HK.out|apply Kept.alloc|apply Kept.drewN|apply Kept.drew)|exact HK.out)) hb);have n2_:=Aside0.mk (below_step (by repeat (first|(with_reducible first|exact HB.out|apply below_alloc|apply pw_below_drewN|apply below_drew1)|exact HB.out)) hb);have n3_:=Aside0.mk (hbox);have n4_:=Aside0.mk ((by rw [hg];exact (by first|exact HK.out.1|exact (show Kept w _ (fun k_=> P0_0_ k_) from by repeat (first|(with_reducible first|exact HK.out|apply Kept.alloc|apply Kept.drewN|apply Kept.drew)|exact HK.out)).1):w.heap.size ≤ gb527));have n5_:=Aside0.mk ((by rw [hg];exact (below_size (by repeat (first|(with_reducible first|exact HB.out|apply below_alloc|apply pw_below_drewN|apply below_drew1)|exact HB.out))):w0.heap.size ≤ gb527));clear HO0_0;clear HK;clear HB;have HO0_0:=n0_;have HK:=n1_;have HB:=n2_;have BK527:=n3_;have GW527:=n4_;have GE527:=n5_;clear n0_ n1_ n2_ n3_ n4_ n5_;clear hb hbox hg)|((with_reducible refine gate_dst (N:=4) rfl ?_);refine box_event ?hg (N:=4) ?hd (cs:= #[.slice none 0 0,.int .i64 0,.string (⟨#[]⟩:ByteArray),.int .i64 0]) (t:=36) ?hr ?_;(case hd=> rfl);(case hg=> rfl);(case hr=> first|(go_simp;done)|(go_simp;rfl));intro gb528 hg w12 hbox hb;have n0_:=Aside0.mk (Kd.R_below (by (with_reducible repeat (first|apply Kd.R_alloc|apply Kd.R_drewN|apply Kd.R_drew));exact HO0_0.out) hb);have n1_:=Aside0.mk (blk_below (g:=gb527) (o:= .cells #[.slice Ao10 l0_0.length co10,.int .i64 a0_1,.string a0_2,.int .i64 a0_3] 36 (0,0)) (by (with_reducible repeat (first|apply bN|apply bd|apply bA));exact BK527.out) hb);have n2_:=Aside0.mk (Kept.below (S:=(fun k_=> P0_0_ k_)) (by repeat (first|(with_reducible first|exact HK.out|apply Kept.alloc|apply Kept.drewN|apply Kept.drew|refine Kept.setCell ?_ (.inr GW527.out) _)|exact HK.out)) hb);have n3_:=Aside0.mk (below_step (by repeat (first|(with_reducible first|exact HB.out|apply below_alloc|apply pw_below_drewN|apply below_drew1|refine below_set ?_ GE527.out)|exact HB.out)) hb);have n4_:=Aside0.mk (hbox);have n5_:=Aside0.mk ((by rw [hg];exact (by first|exact HK.out.1|exact (show Kept w _ (fun k_=> P0_0_ k_) from by repeat (first|(with_reducible first|exact HK.out|apply Kept.alloc|apply Kept.drewN|apply Kept.drew|refine Kept.setCell ?_ (.inr GW527.out) _)|exact HK.out)).1):w.heap.size ≤ gb528));have n6_:=Aside0.mk ((by rw [hg];exact (below_size (by repeat (first|(with_reducible first|exact HB.out|apply below_alloc|apply pw_below_drewN|apply below_drew1|refine below_set ?_ GE527.out)|exact HB.out))):w0.heap.size ≤ gb528));have n7_:=Aside0.mk ((by rw [hg];exact Nat.ne_of_lt (blk_lt (g:=gb527) (o:= .cells #[.slice Ao10 l0_0.length co10,.int .i64 a0_1,.string a0_2,.int .i64 a0_3] 36 (0,0)) (by (with_reducible repeat (first|apply bN|apply bd|apply bA));exact BK527.out)):gb527 ≠ gb528));have n8_:=Aside0.mk ((by rw [hg];exact Nat.ne_of_gt (blk_lt (g:=gb527) (o:= .cells #[.slice Ao10 l0_0.length co10,.int .i64 a0_1,.string a0_2,.int .i64 a0_3] 36 (0,0)) (by (with_reducible repeat (first|apply bN|apply bd|apply bA));exact BK527.out)):gb528 ≠ gb527));clear HO0_0;clear BK527;clear HK;clear HB;have HO0_0:=n0_;have BK527:=n1_;have HK:=n2_;have HB:=n3_;have BK528:=n4_;have GW528:=n5_;have GE528:=n6_;have NB527_528:=n7_;have NB528_527:=n8_;clear n0_ n1_ n2_ n3_ n4_ n5_ n6_ n7_ n8_;clear hb hbox hg))
    (try simp only [Act.put,List.setIfInBounds_toArray,List.set_cons_zero,List.set_cons_succ])
    go_cut [17] (fun v17 wc=> ∃ (kq:Nat) (x17_8:Bool),v17= .bool x17_8 ∧ Aside0 (spec_AbsorbExts.j0 kq l1 x17_8 l0_0 a0_1 a0_2 a0_3=some (r1,r2,r3,r4,r5)) ∧ Aside0 (kq ≤ k) ∧ Aside0 (Kd.R k79 79 wc w0.heap.size (fun k_=> (P0_0_ k_ ∨ w.heap.size ≤ k_)) (.slice Ao10 l0_0.length co10) l0_0) ∧ Aside0 (wc.heap[gb527]?=some (.cells #[(.slice Ao10 l0_0.length co10),.int .i64 a0_1,.string a0_2,.int .i64 a0_3] 36 (0,0))) ∧ Aside0 (wc.heap[gb528]?=some (.cells #[(.slice none 0 0),.int .i64 0,.string (⟨#[]⟩:ByteArray),.int .i64 0] 36 (0,0))) ∧ Aside0 (Kept w wc (fun k_=> P0_0_ k_)) ∧ Aside0 (Below w0.heap.size w0 wc))
    case first=>
      have H:=HC9.out
      clear HC9
      replace H:=Option.bind_eq_some_iff.mp H
      obtain ⟨t529,A130,H⟩:=H
      replace H:(if t529=true then ((spec_l02List.f k l1).bind fun t530=> (spec_AbsorbExts.j0 k l1 (!t530) l0_0 a0_1 a0_2 a0_3)) else (spec_AbsorbExts.j0 k l1 true l0_0 a0_1 a0_2 a0_3))=some (r1,r2,r3,r4,r5):=H
      have A13:=Aside0.mk A130
      clear A130
      by_cases c14:t529=true
      · subst c14
        have H1:((spec_l02List.f k l1).bind fun t530=> (spec_AbsorbExts.j0 k l1 (!t530) l0_0 a0_1 a0_2 a0_3))=some (r1,r2,r3,r4,r5):=by rw [if_pos rfl] at H;exact H
        clear H
        have H:=H1
        clear H1
        replace H:=Option.bind_eq_some_iff.mp H
        obtain ⟨t530,A150,H⟩:=H
        replace H:(spec_AbsorbExts.j0 k l1 (!t530) l0_0 a0_1 a0_2 a0_3)=some (r1,r2,r3,r4,r5):=H
        have A15:=Aside0.mk A150
        clear A150
        have H':=Aside0.mk H
        clear H
        have hnb16:=NB527_528.out
        have hnc16:=NB528_527.out
        have hcz17_0:w12.cell? ⟨gb527,0,none⟩=some (.slice Ao10 l0_0.length co10):=(blk_cell BK527.out 0).trans rfl
        have hcz17_1:w12.cell? ⟨gb527,1,none⟩=some (.int .i64 a0_1):=(blk_cell BK527.out 1).trans rfl
        have hcz17_2:w12.cell? ⟨gb527,2,none⟩=some (.string a0_2):=(blk_cell BK527.out 2).trans rfl
        have hcz17_3:w12.cell? ⟨gb527,3,none⟩=some (.int .i64 a0_3):=(blk_cell BK527.out 3).trans rfl
        have hfz17_0:=blk_frozen BK527.out 0
        have hfz17_1:=blk_frozen BK527.out 1
        have hfz17_2:=blk_frozen BK527.out 2
        have hfz17_3:=blk_frozen BK527.out 3
        go_wp2_with (first|((with_reducible refine gate_callee (f:=114) rfl ?_);refine goesL_ (some 11) rfl rfl Try.func114 (by kernel_rfl) rfl #[.agg #[.slice Ao10 l0_0.length co10,.int .i64 a0_1,.string a0_2,.int .i64 a0_3]] rfl (by (try simp only [List.map_toArray,List.map_cons,List.map_nil]);first|done|rfl|(simp only [List.length_drop,List.length_take];rfl)) ?_;(with_reducible refine (spec_SourceOK.calls k _ _ l0_0 a0_1 a0_2 a0_3 true _ ?side1 ?side2 A13.out).mono ?_);(case side1=> repeat (first|exact (Kd.R_reads' HO0_0.out).2.2|(with_reducible refine Kd.C_alloc ?_ _)|(with_reducible refine Kd.C_drewN ?_ _)|(with_reducible refine Kd.C_drew ?_)));(case side2=> exact (Kd.R_reads' HO0_0.out).2.1);rintro e w18 ⟨rfl,hb⟩;refine ⟨_,rfl,?_⟩;have n0_:=Aside0.mk (Kd.R_below (by (with_reducible repeat (first|apply Kd.R_alloc|apply Kd.R_drewN|apply Kd.R_drew));exact HO0_0.out) hb);have n1_:=Aside0.mk (blk_below (g:=gb527) (o:= .cells #[.slice Ao10 l0_0.length co10,.int .i64 a0_1,.string a0_2,.int .i64 a0_3] 36 (0,0)) (by (with_reducible repeat (first|apply bN|apply bd|apply bA));exact BK527.out) hb);have n2_:=Aside0.mk (blk_below (g:=gb528) (o:= .cells #[.slice none 0 0,.int .i64 0,.string (⟨#[]⟩:ByteArray),.int .i64 0] 36 (0,0)) (by (with_reducible repeat (first|apply bN|apply bd|apply bA));exact BK528.out) hb);have n3_:=Aside0.mk (Kept.below (S:=(fun k_=> P0_0_ k_)) (by repeat (first|(with_reducible first|exact HK.out|apply Kept.alloc|apply Kept.drewN|apply Kept.drew|refine Kept.setCell ?_ (.inr GW527.out) _|refine Kept.setCell ?_ (.inr GW528.out) _)|exact HK.out)) hb);have n4_:=Aside0.mk (below_step (by repeat (first|(with_reducible first|exact HB.out|apply below_alloc|apply pw_below_drewN|apply below_drew1|refine below_set ?_ GE527.out|refine below_set ?_ GE528.out)|exact HB.out)) hb);clear HO0_0;clear BK527;clear BK528;clear HK;clear HB;have HO0_0:=n0_;have BK527:=n1_;have BK528:=n2_;have HK:=n3_;have HB:=n4_;clear n0_ n1_ n2_ n3_ n4_;(try clear hb);(try clear hb2);(try clear hk);(try clear hi))|(go_at_call 120;(with_reducible refine (spec_l02List.calls k _ _ l1 t530 _ ?side1 ?side2 A15.out).mono ?_);(case side1=> exact Kd.C_kept_now HR1.out (by repeat (first|(with_reducible first|exact HK.out|apply Kept.alloc|apply Kept.drewN|apply Kept.drew|refine Kept.setCell ?_ (.inr GW527.out) _|refine Kept.setCell ?_ (.inr GW528.out) _)|exact HK.out)));(case side2=> exact HC1.out);rintro e w19 ⟨rfl,hb⟩;have n0_:=Aside0.mk (Kd.R_below (by (with_reducible repeat (first|apply Kd.R_alloc|apply Kd.R_drewN|apply Kd.R_drew));exact HO0_0.out) hb);have n1_:=Aside0.mk (blk_below (g:=gb527) (o:= .cells #[.slice Ao10 l0_0.length co10,.int .i64 a0_1,.string a0_2,.int .i64 a0_3] 36 (0,0)) (by (with_reducible repeat (first|apply bN|apply bd|apply bA));exact BK527.out) hb);have n2_:=Aside0.mk (blk_below (g:=gb528) (o:= .cells #[.slice none 0 0,.int .i64 0,.string (⟨#[]⟩:ByteArray),.int .i64 0] 36 (0,0)) (by (with_reducible repeat (first|apply bN|apply bd|apply bA));exact BK528.out) hb);have n3_:=Aside0.mk (Kept.below (S:=(fun k_=> P0_0_ k_)) (by repeat (first|(with_reducible first|exact HK.out|apply Kept.alloc|apply Kept.drewN|apply Kept.drew|refine Kept.setCell ?_ (.inr GW527.out) _|refine Kept.setCell ?_ (.inr GW528.out) _)|exact HK.out)) hb);have n4_:=Aside0.mk (below_step (by repeat (first|(with_reducible first|exact HB.out|apply below_alloc|apply pw_below_drewN|apply below_drew1|refine below_set ?_ GE527.out|refine below_set ?_ GE528.out)|exact HB.out)) hb);clear HO0_0;clear BK527;clear BK528;clear HK;clear HB;have HO0_0:=n0_;have BK527:=n1_;have BK528:=n2_;have HK:=n3_;have HB:=n4_;clear n0_ n1_ n2_ n3_ n4_;(try clear hb);(try clear hb2);(try clear hk);(try clear hi)))
        go_meet
        case rel=> exact ⟨_,(!t530),(by first|rfl|(simp;done)|(simp [*];done)),H',⟨by first|omega|exact Nat.le_refl _⟩,⟨by (with_reducible repeat (first|apply Kd.R_alloc|apply Kd.R_drewN|apply Kd.R_drew));exact HO0_0.out⟩,⟨by (with_reducible repeat (first|apply bN|apply bd|apply bA));exact BK527.out⟩,⟨by (with_reducible repeat (first|apply bN|apply bd|apply bA));exact BK528.out⟩,⟨by repeat (first|(with_reducible first|exact HK.out|apply Kept.alloc|apply Kept.drewN|apply Kept.drew|refine Kept.setCell ?_ (.inr GW527.out) _|refine Kept.setCell ?_ (.inr GW528.out) _)|exact HK.out)⟩,⟨by repeat (first|(with_reducible first|exact HB.out|apply below_alloc|apply pw_below_drewN|apply below_drew1|refine below_set ?_ GE527.out|refine below_set ?_ GE528.out)|exact HB.out)⟩⟩
      · replace c14:=Bool.eq_false_iff.mpr c14
        subst c14
        have H1:(spec_AbsorbExts.j0 k l1 true l0_0 a0_1 a0_2 a0_3)=some (r1,r2,r3,r4,r5):=by rw [if_neg (show ¬ (false=true) by decide)] at H;exact H
        clear H
        have H:=H1
        clear H1
        have H':=Aside0.mk H
        clear H
        have hnb20:=NB527_528.out
        have hnc20:=NB528_527.out
        have hcz21_0:w12.cell? ⟨gb527,0,none⟩=some (.slice Ao10 l0_0.length co10):=(blk_cell BK527.out 0).trans rfl
        have hcz21_1:w12.cell? ⟨gb527,1,none⟩=some (.int .i64 a0_1):=(blk_cell BK527.out 1).trans rfl
        have hcz21_2:w12.cell? ⟨gb527,2,none⟩=some (.string a0_2):=(blk_cell BK527.out 2).trans rfl
        have hcz21_3:w12.cell? ⟨gb527,3,none⟩=some (.int .i64 a0_3):=(blk_cell BK527.out 3).trans rfl
        have hfz21_0:=blk_frozen BK527.out 0
        have hfz21_1:=blk_frozen BK527.out 1
        have hfz21_2:=blk_frozen BK527.out 2
        have hfz21_3:=blk_frozen BK527.out 3
        go_wp2_with (first|((with_reducible refine gate_callee (f:=114) rfl ?_);refine goesL_ (some 11) rfl rfl Try.func114 (by kernel_rfl) rfl #[.agg #[.slice Ao10 l0_0.length co10,.int .i64 a0_1,.string a0_2,.int .i64 a0_3]] rfl (by (try simp only [List.map_toArray,List.map_cons,List.map_nil]);first|done|rfl|(simp only [List.length_drop,List.length_take];rfl)) ?_;(with_reducible refine (spec_SourceOK.calls k _ _ l0_0 a0_1 a0_2 a0_3 false _ ?side1 ?side2 A13.out).mono ?_);(case side1=> repeat (first|exact (Kd.R_reads' HO0_0.out).2.2|(with_reducible refine Kd.C_alloc ?_ _)|(with_reducible refine Kd.C_drewN ?_ _)|(with_reducible refine Kd.C_drew ?_)));(case side2=> exact (Kd.R_reads' HO0_0.out).2.1);rintro e w22 ⟨rfl,hb⟩;refine ⟨_,rfl,?_⟩;have n0_:=Aside0.mk (Kd.R_below (by (with_reducible repeat (first|apply Kd.R_alloc|apply Kd.R_drewN|apply Kd.R_drew));exact HO0_0.out) hb);have n1_:=Aside0.mk (blk_below (g:=gb527) (o:= .cells #[.slice Ao10 l0_0.length co10,.int .i64 a0_1,.string a0_2,.int .i64 a0_3] 36 (0,0)) (by (with_reducible repeat (first|apply bN|apply bd|apply bA));exact BK527.out) hb);have n2_:=Aside0.mk (blk_below (g:=gb528) (o:= .cells #[.slice none 0 0,.int .i64 0,.string (⟨#[]⟩:ByteArray),.int .i64 0] 36 (0,0)) (by (with_reducible repeat (first|apply bN|apply bd|apply bA));exact BK528.out) hb);have n3_:=Aside0.mk (Kept.below (S:=(fun k_=> P0_0_ k_)) (by repeat (first|(with_reducible first|exact HK.out|apply Kept.alloc|apply Kept.drewN|apply Kept.drew|refine Kept.setCell ?_ (.inr GW527.out) _|refine Kept.setCell ?_ (.inr GW528.out) _)|exact HK.out)) hb);have n4_:=Aside0.mk (below_step (by repeat (first|(with_reducible first|exact HB.out|apply below_alloc|apply pw_below_drewN|apply below_drew1|refine below_set ?_ GE527.out|refine below_set ?_ GE528.out)|exact HB.out)) hb);clear HO0_0;clear BK527;clear BK528;clear HK;clear HB;have HO0_0:=n0_;have BK527:=n1_;have BK528:=n2_;have HK:=n3_;have HB:=n4_;clear n0_ n1_ n2_ n3_ n4_;(try clear hb);(try clear hb2);(try clear hk);(try clear hi)))
        go_meet
        case rel=> exact ⟨_,(true),(by first|rfl|(simp;done)|(simp [*];done)),H',⟨by first|omega|exact Nat.le_refl _⟩,⟨by (with_reducible repeat (first|apply Kd.R_alloc|apply Kd.R_drewN|apply Kd.R_drew));exact HO0_0.out⟩,⟨by (with_reducible repeat (first|apply bN|apply bd|apply bA));exact BK527.out⟩,⟨by (with_reducible repeat (first|apply bN|apply bd|apply bA));exact BK528.out⟩,⟨by repeat (first|(with_reducible first|exact HK.out|apply Kept.alloc|apply Kept.drewN|apply Kept.drew|refine Kept.setCell ?_ (.inr GW527.out) _|refine Kept.setCell ?_ (.inr GW528.out) _)|exact HK.out)⟩,⟨by repeat (first|(with_reducible first|exact HB.out|apply below_alloc|apply pw_below_drewN|apply below_drew1|refine below_set ?_ GE527.out|refine below_set ?_ GE528.out)|exact HB.out)⟩⟩
    case rest=>
      clear HC9
      try clear c1
      try clear c2
      try clear p2
      try clear c3
      try clear c3b0
      try clear c3b1
      try clear c6
      try clear c7
      try clear c11
      try clear c14
      try clear c16
      try clear c20
      try clear hcz17_0
      try clear hcz17_1
      try clear hcz17_2
      try clear hcz17_3
      try clear hcz21_0
      try clear hcz21_1
      try clear hcz21_2
      try clear hcz21_3
      try clear hcz8_0
      try clear hcz8_1
      try clear hcz8_2
      try clear hcz8_3
      try clear hfz17_0
      try clear hfz17_1
      try clear hfz17_2
      try clear hfz17_3
      try clear hfz21_0
      try clear hfz21_1
      try clear hfz21_2
      try clear hfz21_3
      try clear hfz8_0
      try clear hfz8_1
      try clear hfz8_2
      try clear hfz8_3
      obtain ⟨kq,x17_8,rfl,HA,HJ8,HO_528000,BK527,BK528,HK,HB⟩:=hcut
      cases kq with
      |zero=> exact absurd HA.out (by simp [spec_AbsorbExts.j0])
      |succ kj8=>
        have H:=HA.out
        clear HA
        simp only [spec_AbsorbExts.j0] at H
        by_cases c23:x17_8=true
        · subst c23
          have H1:(some (([]:List (S79)),0,(⟨#[]⟩:ByteArray),0,1))=some (r1,r2,r3,r4,r5):=by rw [if_pos rfl] at H;exact H
          clear H
          have H:=H1
          clear H1
          simp only [Option.some.injEq,Prod.mk.injEq] at H
          obtain ⟨rfl,rfl,rfl,rfl,rfl⟩:=H
          have hnb24:=NB528_527.out
          have hnc24:=NB527_528.out
          have hcz25_0:wc.cell? ⟨gb528,0,none⟩=some (.slice none 0 0):=(blk_cell BK528.out 0).trans rfl
          have hcz25_1:wc.cell? ⟨gb528,1,none⟩=some (.int .i64 0):=(blk_cell BK528.out 1).trans rfl
          have hcz25_2:wc.cell? ⟨gb528,2,none⟩=some (.string (⟨#[]⟩:ByteArray)):=(blk_cell BK528.out 2).trans rfl
          have hcz25_3:wc.cell? ⟨gb528,3,none⟩=some (.int .i64 0):=(blk_cell BK528.out 3).trans rfl
          have hfz25_0:=blk_frozen BK528.out 0
          have hfz25_1:=blk_frozen BK528.out 1
          have hfz25_2:=blk_frozen BK528.out 2
          have hfz25_3:=blk_frozen BK528.out 3
          go_wp2
          refine bodyPost_ret (results_ct rfl _ _ gb528 36 #[.slice none 0 0,.int .i64 0,.string (⟨#[]⟩:ByteArray),.int .i64 0] (0,0) _ rfl (by (with_reducible repeat (first|apply bN|apply bd|apply bA));refine blk_put (cs:= #[.slice none 0 0,.int .i64 0,.string (⟨#[]⟩:ByteArray),.int .i64 0]) ?_ 3 _ rfl;(with_reducible repeat (first|apply bN|apply bd|apply bA));refine blk_put (cs:= #[.slice none 0 0,.int .i64 0,.string (⟨#[]⟩:ByteArray),.int .i64 0]) ?_ 2 _ rfl;(with_reducible repeat (first|apply bN|apply bd|apply bA));refine blk_put (cs:= #[.slice none 0 0,.int .i64 0,.string (⟨#[]⟩:ByteArray),.int .i64 0]) ?_ 1 _ rfl;(with_reducible repeat (first|apply bN|apply bd|apply bA));refine blk_put (cs:= #[.slice none 0 0,.int .i64 0,.string (⟨#[]⟩:ByteArray),.int .i64 0]) ?_ 0 _ rfl;(with_reducible repeat (first|apply bN|apply bd|apply bA));exact BK528.out) Try.underlying36 rfl (by kernel_rfl)) rfl ?_
          exact ⟨_,by first|rfl|(simp [errW_none,errW_some] <;> rfl)|(simp [*,errW_none,errW_some] <;> rfl),by first|exact Kd.R_nil _ _ _ _ _|exact Kd.N_nil _ _ _ _ _|exact Kd.V_nil _ _ _ _ _|exact Kd.Q_nil _ _ _ _ _|exact Kd.S_nil _ _ _ _ _,by repeat (first|(with_reducible first|exact HB.out|apply below_alloc|apply pw_below_drewN|apply below_drew1|refine below_set ?_ GE527.out|refine below_set ?_ GE528.out)|exact HB.out),by repeat (first|(with_reducible first|exact HK.out|apply Kept.alloc|apply Kept.drewN|apply Kept.drew|refine Kept.setCell ?_ (.inr GW527.out) _|refine Kept.setCell ?_ (.inr GW528.out) _)|exact HK.out)⟩
        · replace c23:=Bool.eq_false_iff.mpr c23
          subst c23
          have H1:((spec_l05Exts.f kj8 l0_0 a0_1 a0_2 a0_3 l1).bind fun bt531=> ((spec_l05Own.f bt531.1 bt531.2.1 bt531.2.2.1 bt531.2.2.2).bind fun bt537=> (some (bt537.1,bt537.2.1,bt537.2.2.1,bt537.2.2.2,0))))=some (r1,r2,r3,r4,r5):=by rw [if_neg (show ¬ (false=true) by decide)] at H;exact H
          clear H
          have H:=H1
          clear H1
          replace H:=Option.bind_eq_some_iff.mp H
          obtain ⟨⟨t531,t534,t535,t536⟩,A260,H⟩:=H
          replace H:((spec_l05Own.f t531 t534 t535 t536).bind fun bt537=> (some (bt537.1,bt537.2.1,bt537.2.2.1,bt537.2.2.2,0)))=some (r1,r2,r3,r4,r5):=H
          have A26:=Aside0.mk A260
          clear A260
          replace H:=Option.bind_eq_some_iff.mp H
          obtain ⟨⟨t537,t540,t541,t542⟩,A270,H⟩:=H
          replace H:(some (t537,t540,t541,t542,0))=some (r1,r2,r3,r4,r5):=H
          have A27:=Aside0.mk A270
          clear A270
          simp only [Option.some.injEq,Prod.mk.injEq] at H
          obtain ⟨rfl,rfl,rfl,rfl,rfl⟩:=H
          have hnb28:=NB527_528.out
          have hnc28:=NB528_527.out
          have hcz29_0:wc.cell? ⟨gb527,0,none⟩=some (.slice Ao10 l0_0.length co10):=(blk_cell BK527.out 0).trans rfl
          have hcz29_1:wc.cell? ⟨gb527,1,none⟩=some (.int .i64 a0_1):=(blk_cell BK527.out 1).trans rfl
          have hcz29_2:wc.cell? ⟨gb527,2,none⟩=some (.string a0_2):=(blk_cell BK527.out 2).trans rfl
          have hcz29_3:wc.cell? ⟨gb527,3,none⟩=some (.int .i64 a0_3):=(blk_cell BK527.out 3).trans rfl
          have hfz29_0:=blk_frozen BK527.out 0
          have hfz29_1:=blk_frozen BK527.out 1
          have hfz29_2:=blk_frozen BK527.out 2
          have hfz29_3:=blk_frozen BK527.out 3
          go_wp2_with (first|((with_reducible refine gate_callee (f:=129) rfl ?_);refine goesL_ (some 21) rfl rfl Try.func129 (by kernel_rfl) rfl #[.agg #[.slice Ao10 l0_0.length co10,.int .i64 a0_1,.string a0_2,.int .i64 a0_3],.slice A1 l1.length c1] rfl (by (try simp only [List.map_toArray,List.map_cons,List.map_nil]);first|done|rfl|(simp only [List.length_drop,List.length_take];rfl)) ?_;(with_reducible refine (spec_l05Exts.calls kj8 (fun k_=> some k_=(.slice Ao10 l0_0.length co10:Value).ownBlock) (.slice Ao10 l0_0.length co10) l0_0 a0_1 a0_2 a0_3 _ _ l1 t531 t534 t535 t536 w0 _ ?side1 ?side2 ?side3 ?side4 A26.out).mono ?_);(case side1=> repeat (first|(with_reducible first|exact HB.out|apply below_alloc|apply pw_below_drewN|apply below_drew1|refine below_set ?_ GE527.out|refine below_set ?_ GE528.out)|exact HB.out));(case side2=> exact Kd.R_tight rfl HO_528000.out);(case side3=> exact Kd.C_kept_call HR1.out (by repeat (first|(with_reducible first|exact HK.out|apply Kept.alloc|apply Kept.drewN|apply Kept.drew|refine Kept.setCell ?_ (.inr GW527.out) _|refine Kept.setCell ?_ (.inr GW528.out) _)|exact HK.out)) (fun k_ hs_=> (fun e_=> (HO_528000.out.1 k_ e_.symm)) hs_));(case side4=> exact HC1.out);rintro e w30 ⟨v532,rfl,ho0,hb,hkp⟩;refine ⟨_,rfl,?_⟩;have n0_:=Aside0.mk (blk_kept (by (with_reducible repeat (first|apply bN|apply bd|apply bA));exact BK527.out) hkp (fun hs_=> (fun e_=> (Kd.R_ne HO_528000.out BK527.out (by decide)) e_) hs_));have n1_:=Aside0.mk (blk_kept (by (with_reducible repeat (first|apply bN|apply bd|apply bA));exact BK528.out) hkp (fun hs_=> (fun e_=> (Kd.R_ne HO_528000.out BK528.out (by decide)) e_) hs_));have n2_:=Aside0.mk (Kd.R_mono (ok':=fun k_=> (P0_0_ k_ ∨ w.heap.size ≤ k_)) ho0 (fun k_ hk_=> Or.elim hk_ (fun hs_=> (HO_528000.out.1 k_ (hs_).symm)) (fun hn_=> (.inr (Nat.le_trans (by first|exact HK.out.1|exact (show Kept w _ (fun k_=> P0_0_ k_) from by repeat (first|(with_reducible first|exact HK.out|apply Kept.alloc|apply Kept.drewN|apply Kept.drew|refine Kept.setCell ?_ (.inr GW527.out) _|refine Kept.setCell ?_ (.inr GW528.out) _)|exact HK.out)).1) hn_)))));have n3_:=Aside0.mk (Kept.then_ (S:=(fun k_=> P0_0_ k_)) (by repeat (first|(with_reducible first|exact HK.out|apply Kept.alloc|apply Kept.drewN|apply Kept.drew|refine Kept.setCell ?_ (.inr GW527.out) _|refine Kept.setCell ?_ (.inr GW528.out) _)|exact HK.out)) hkp (fun k_ hs_=> (fun e_=> (HO_528000.out.1 k_ e_.symm)) hs_));have n4_:=Aside0.mk (hb);clear BK527;clear BK528;clear HK;clear HB;clear HO_528000;have BK527:=n0_;have BK528:=n1_;have HO533:=n2_;have HK:=n3_;have HB:=n4_;clear n0_ n1_ n2_ n3_ n4_;(try clear hb);(try clear hkp);(try clear ho0);obtain ⟨Ao31,co31,eo31⟩:=Kd.R_slice HO533.out;subst eo31)|((with_reducible refine gate_callee (f:=125) rfl ?_);refine goesL_ (some 22) rfl rfl Try.func125 (by kernel_rfl) rfl #[.agg #[.slice Ao31 t531.length co31,.int .i64 t534,.string t535,.int .i64 t536]] rfl (by (try simp only [List.map_toArray,List.map_cons,List.map_nil]);first|done|rfl|(simp only [List.length_drop,List.length_take];rfl)) ?_;(with_reducible refine (spec_l05Own.calls _ _ t531 t534 t535 t536 t537 t540 t541 t542 _ ?side1 ?side2 A27.out).mono ?_);(case side1=> repeat (first|exact (Kd.R_reads' HO533.out).2.2|(with_reducible refine Kd.C_alloc ?_ _)|(with_reducible refine Kd.C_drewN ?_ _)|(with_reducible refine Kd.C_drew ?_)));(case side2=> exact (Kd.R_reads' HO533.out).2.1);rintro e w32 ⟨v538,rfl,ho0,hb⟩;refine ⟨_,rfl,?_⟩;have n0_:=Aside0.mk (Kd.R_elder' (by (with_reducible repeat (first|apply Kd.R_alloc|apply Kd.R_drewN|apply Kd.R_drew));exact HO533.out) (Kd.R_base ho0) hb);have n1_:=Aside0.mk (Kd.R_lower (Kd.R_new' (Kd.R_newM (M:=fun k_=> (P0_0_ k_ ∨ w.heap.size ≤ k_)) ho0 (by first|exact HK.out.1|exact (show Kept w _ (fun k_=> P0_0_ k_) from by repeat (first|(with_reducible first|exact HK.out|apply Kept.alloc|apply Kept.drewN|apply Kept.drew|refine Kept.setCell ?_ (.inr GW527.out) _|refine Kept.setCell ?_ (.inr GW528.out) _)|exact HK.out)).1) (fun k_ h_=> .inr h_)) (Kd.R_lt (by (with_reducible repeat (first|apply Kd.R_alloc|apply Kd.R_drewN|apply Kd.R_drew));exact HO533.out))) (below_size (by repeat (first|(with_reducible first|exact HB.out|apply below_alloc|apply pw_below_drewN|apply below_drew1|refine below_set ?_ GE527.out|refine below_set ?_ GE528.out)|exact HB.out))));have n2_:=Aside0.mk (blk_below (g:=gb527) (o:= .cells #[.slice Ao10 l0_0.length co10,.int .i64 a0_1,.string a0_2,.int .i64 a0_3] 36 (0,0)) (by (with_reducible repeat (first|apply bN|apply bd|apply bA));exact BK527.out) hb);have n3_:=Aside0.mk (blk_below (g:=gb528) (o:= .cells #[.slice none 0 0,.int .i64 0,.string (⟨#[]⟩:ByteArray),.int .i64 0] 36 (0,0)) (by (with_reducible repeat (first|apply bN|apply bd|apply bA));exact BK528.out) hb);have n4_:=Aside0.mk (Kept.below (S:=(fun k_=> P0_0_ k_)) (by repeat (first|(with_reducible first|exact HK.out|apply Kept.alloc|apply Kept.drewN|apply Kept.drew|refine Kept.setCell ?_ (.inr GW527.out) _|refine Kept.setCell ?_ (.inr GW528.out) _)|exact HK.out)) hb);have n5_:=Aside0.mk (below_step (by repeat (first|(with_reducible first|exact HB.out|apply below_alloc|apply pw_below_drewN|apply below_drew1|refine below_set ?_ GE527.out|refine below_set ?_ GE528.out)|exact HB.out)) hb);clear HO533;clear BK527;clear BK528;clear HK;clear HB;have HO533:=n0_;have HO539:=n1_;have BK527:=n2_;have BK528:=n3_;have HK:=n4_;have HB:=n5_;clear n0_ n1_ n2_ n3_ n4_ n5_;(try clear hb);(try clear hb2);(try clear hk);(try clear hi);(try clear ho0);obtain ⟨Ao33,co33,eo33⟩:=Kd.R_slice HO539.out;subst eo33;have hcz34_0:w32.cell? ⟨gb528,0,none⟩=some (.slice none 0 0):=(blk_cell BK528.out 0).trans rfl;have hcz34_1:w32.cell? ⟨gb528,1,none⟩=some (.int .i64 0):=(blk_cell BK528.out 1).trans rfl;have hcz34_2:w32.cell? ⟨gb528,2,none⟩=some (.string (⟨#[]⟩:ByteArray)):=(blk_cell BK528.out 2).trans rfl;have hcz34_3:w32.cell? ⟨gb528,3,none⟩=some (.int .i64 0):=(blk_cell BK528.out 3).trans rfl;have hfz34_0:=blk_frozen BK528.out 0;have hfz34_1:=blk_frozen BK528.out 1;have hfz34_2:=blk_frozen BK528.out 2;have hfz34_3:=blk_frozen BK528.out 3))
          refine bodyPost_ret (results_ct rfl _ _ gb528 36 #[.slice Ao33 t537.length co33,.int .i64 t540,.string t541,.int .i64 t542] (0,0) _ rfl (by (with_reducible repeat (first|apply bN|apply bd|apply bA));refine blk_put (cs:= #[.slice Ao33 t537.length co33,.int .i64 t540,.string t541,.int .i64 0]) ?_ 3 _ rfl;(with_reducible repeat (first|apply bN|apply bd|apply bA));refine blk_put (cs:= #[.slice Ao33 t537.length co33,.int .i64 t540,.string (⟨#[]⟩:ByteArray),.int .i64 0]) ?_ 2 _ rfl;(with_reducible repeat (first|apply bN|apply bd|apply bA));refine blk_put (cs:= #[.slice Ao33 t537.length co33,.int .i64 0,.string (⟨#[]⟩:ByteArray),.int .i64 0]) ?_ 1 _ rfl;(with_reducible repeat (first|apply bN|apply bd|apply bA));refine blk_put (cs:= #[.slice none 0 0,.int .i64 0,.string (⟨#[]⟩:ByteArray),.int .i64 0]) ?_ 0 _ rfl;(with_reducible repeat (first|apply bN|apply bd|apply bA));exact BK528.out) Try.underlying36 rfl (by kernel_rfl)) rfl ?_
          exact ⟨_,by first|rfl|(simp [errW_none,errW_some] <;> rfl)|(simp [*,errW_none,errW_some] <;> rfl),by (with_reducible repeat (first|apply Kd.R_alloc|apply Kd.R_drewN|apply Kd.R_drew));exact Kd.R_mono (Kd.R_far (p:=⟨gb528,3,none⟩) (Kd.R_far (p:=⟨gb528,2,none⟩) (Kd.R_far (p:=⟨gb528,1,none⟩) (Kd.R_far (p:=⟨gb528,0,none⟩) (Kd.R_types HO539.out BK528.out (by decide)) (fun _ hk=> hk.2) (.slice Ao33 t537.length co33)) (fun _ hk=> hk.2) (.int .i64 t540)) (fun _ hk=> hk.2) (.string t541)) (fun _ hk=> hk.2) (.int .i64 t542)) (fun _ hk=> hk.1.1.1),by repeat (first|(with_reducible first|exact HB.out|apply below_alloc|apply pw_below_drewN|apply below_drew1|refine below_set ?_ GE527.out|refine below_set ?_ GE528.out)|exact HB.out),by repeat (first|(with_reducible first|exact HK.out|apply Kept.alloc|apply Kept.drewN|apply Kept.drew|refine Kept.setCell ?_ (.inr GW527.out) _|refine Kept.setCell ?_ (.inr GW528.out) _)|exact HK.out)⟩
end Go.Proofs.Ytlogocmojnhpbaa.Print
