-- Packed by a program of this session (slim.py) out of printed texts; not trusted, Lean checks it.
import Derived.Test.YtlogocmojnhpbaaP0
namespace Go.Proofs.Ytlogocmojnhpbaa.Print
open Go.RowKit Go.Proofs.YtlogocmojnhpbaaW.PrintWords Go.Proofs.YtlogocmojnhpbaaW.PrintLast Go.Proofs.YtlogocmojnhpbaaW.PrintMore
attribute [local go_sem] max2_int min2_int max_two min_two max_three min_three max_four min_four
set_option linter.unusedVariables false
set_option linter.unusedSimpArgs false
def laws_eqExt.f (a0_0:Int) (a0_1:Int) (a1_0:Int) (a1_1:Int):Option (Bool):=if a0_0=a1_0 then (if a0_1=a1_1 then (some true) else (some false)) else (some false)
set_option maxHeartbeats 8000000 in
set_option maxRecDepth 100000 in
theorem laws_eqExt.calls (a0_0:Int) (a0_1:Int) (a1_0:Int) (a1_1:Int) (r:Bool) (w:World) (h:laws_eqExt.f a0_0 a0_1 a1_0 a1_1=some r):
    Calls Try.prog 71 #[.agg #[.int .i64 a0_0,.int .i64 a0_1],.agg #[.int .i64 a1_0,.int .i64 a1_1]] w fun e w'=> e= .returned (.bool r) ∧ Below w.heap.size w w':=by
  have hu79:=Try.underlying79
  have HB:=Aside0.mk (Below.refl w.heap.size w)
  have H:(if a0_0=a1_0 then (if a0_1=a1_1 then (some true) else (some false)) else (some false))=some r:=h
  clear h
  by_cases c3:a0_0=a1_0
  · rw [if_pos c3] at H
    have c3b0:(a0_0==a1_0)=true:=beq_iff_eq.mpr c3
    have c3b1:(a0_0 !=a1_0)=false:=bne_eq_false_iff_eq.mpr c3
    clear c3
    by_cases c4:a0_1=a1_1
    · rw [if_pos c4] at H
      have c4b0:(a0_1==a1_1)=true:=beq_iff_eq.mpr c4
      have c4b1:(a0_1 !=a1_1)=false:=bne_eq_false_iff_eq.mpr c4
      clear c4
      obtain rfl:=Option.some.inj H
      go_enter Try.func71,Try.ntmps71
      go_wp2_with (first|((with_reducible refine gate_dst (N:=2) rfl ?_);refine box_event ?hg (N:=2) ?hd (cs:= #[.int .i64 a0_0,.int .i64 a0_1]) (t:=79) ?hr ?_;(case hd=> rfl);(case hg=> rfl);(case hr=> first|(go_simp;done)|(go_simp;rfl));intro gb162 hg w5 hbox hb;have n0_:=Aside0.mk (below_step (by repeat (first|(with_reducible first|exact HB.out|apply bwA|apply bwN|apply bwD)|exact HB.out)) hb);have n1_:=Aside0.mk (hbox);have n2_:=Aside0.mk ((by rw [hg];exact (below_size (by repeat (first|(with_reducible first|exact HB.out|apply bwA|apply bwN|apply bwD)|exact HB.out))):w.heap.size ≤ gb162));have n3_:=Aside0.mk ((by rw [hg];exact (below_size (by repeat (first|(with_reducible first|exact HB.out|apply bwA|apply bwN|apply bwD)|exact HB.out))):w.heap.size ≤ gb162));clear HB;have HB:=n0_;have BK162:=n1_;have GW162:=n2_;have GE162:=n3_;clear n0_ n1_ n2_ n3_;clear hb hbox hg)|((with_reducible refine gate_dst (N:=3) rfl ?_);refine box_event ?hg (N:=3) ?hd (cs:= #[.int .i64 a1_0,.int .i64 a1_1]) (t:=79) ?hr ?_;(case hd=> rfl);(case hg=> rfl);(case hr=> first|(go_simp;done)|(go_simp;rfl));intro gb163 hg w6 hbox hb;have n0_:=Aside0.mk (blk_below (g:=gb162) (o:= .cells #[.int .i64 a0_0,.int .i64 a0_1] 79 (0,0)) (by (with_reducible repeat (first|apply bN|apply bd|apply bA));exact BK162.out) hb);have n1_:=Aside0.mk (below_step (by repeat (first|(with_reducible first|exact HB.out|apply bwA|apply bwN|apply bwD|refine bwS ?_ GE162.out)|exact HB.out)) hb);have n2_:=Aside0.mk (hbox);have n3_:=Aside0.mk ((by rw [hg];exact (below_size (by repeat (first|(with_reducible first|exact HB.out|apply bwA|apply bwN|apply bwD|refine bwS ?_ GE162.out)|exact HB.out))):w.heap.size ≤ gb163));have n4_:=Aside0.mk ((by rw [hg];exact (below_size (by repeat (first|(with_reducible first|exact HB.out|apply bwA|apply bwN|apply bwD|refine bwS ?_ GE162.out)|exact HB.out))):w.heap.size ≤ gb163));have n5_:=Aside0.mk ((by rw [hg];exact Nat.ne_of_lt (blk_lt (g:=gb162) (o:= .cells #[.int .i64 a0_0,.int .i64 a0_1] 79 (0,0)) (by (with_reducible repeat (first|apply bN|apply bd|apply bA));exact BK162.out)):gb162 ≠ gb163));have n6_:=Aside0.mk ((by rw [hg];exact Nat.ne_of_gt (blk_lt (g:=gb162) (o:= .cells #[.int .i64 a0_0,.int .i64 a0_1] 79 (0,0)) (by (with_reducible repeat (first|apply bN|apply bd|apply bA));exact BK162.out)):gb163 ≠ gb162));clear BK162;clear HB;have BK162:=n0_;have HB:=n1_;have BK163:=n2_;have GW163:=n3_;have GE163:=n4_;have NB162_163:=n5_;have NB163_162:=n6_;clear n0_ n1_ n2_ n3_ n4_ n5_ n6_;clear hb hbox hg;have hnb7:=NB162_163.out;have hnc7:=NB163_162.out;have hcz8_0:w6.cell? ⟨gb162,0,none⟩=some (.int .i64 a0_0):=(blk_cell BK162.out 0).trans rfl;have hcz8_1:w6.cell? ⟨gb162,1,none⟩=some (.int .i64 a0_1):=(blk_cell BK162.out 1).trans rfl;have hfz8_0:=blk_frozen BK162.out 0;have hfz8_1:=blk_frozen BK162.out 1;have hcz9_0:w6.cell? ⟨gb163,0,none⟩=some (.int .i64 a1_0):=(blk_cell BK163.out 0).trans rfl;have hcz9_1:w6.cell? ⟨gb163,1,none⟩=some (.int .i64 a1_1):=(blk_cell BK163.out 1).trans rfl;have hfz9_0:=blk_frozen BK163.out 0;have hfz9_1:=blk_frozen BK163.out 1))
      go_ret
      exact ⟨by first|rfl|(simp [errW_none,errW_some] <;> rfl)|(simp [*,errW_none,errW_some] <;> rfl),by repeat (first|(with_reducible first|exact HB.out|apply bwA|apply bwN|apply bwD|refine bwS ?_ GE162.out|refine bwS ?_ GE163.out)|exact HB.out)⟩
    · rw [if_neg c4] at H
      have c4b0:(a0_1==a1_1)=false:=beq_eq_false_iff_ne.mpr c4
      have c4b1:(a0_1 !=a1_1)=true:=bne_iff_ne.mpr c4
      obtain rfl:=Option.some.inj H
      go_enter Try.func71,Try.ntmps71
      go_wp2_with (first|((with_reducible refine gate_dst (N:=2) rfl ?_);refine box_event ?hg (N:=2) ?hd (cs:= #[.int .i64 a0_0,.int .i64 a0_1]) (t:=79) ?hr ?_;(case hd=> rfl);(case hg=> rfl);(case hr=> first|(go_simp;done)|(go_simp;rfl));intro gb162 hg w10 hbox hb;have n0_:=Aside0.mk (below_step (by repeat (first|(with_reducible first|exact HB.out|apply bwA|apply bwN|apply bwD)|exact HB.out)) hb);have n1_:=Aside0.mk (hbox);have n2_:=Aside0.mk ((by rw [hg];exact (below_size (by repeat (first|(with_reducible first|exact HB.out|apply bwA|apply bwN|apply bwD)|exact HB.out))):w.heap.size ≤ gb162));have n3_:=Aside0.mk ((by rw [hg];exact (below_size (by repeat (first|(with_reducible first|exact HB.out|apply bwA|apply bwN|apply bwD)|exact HB.out))):w.heap.size ≤ gb162));clear HB;have HB:=n0_;have BK162:=n1_;have GW162:=n2_;have GE162:=n3_;clear n0_ n1_ n2_ n3_;clear hb hbox hg)|((with_reducible refine gate_dst (N:=3) rfl ?_);refine box_event ?hg (N:=3) ?hd (cs:= #[.int .i64 a1_0,.int .i64 a1_1]) (t:=79) ?hr ?_;(case hd=> rfl);(case hg=> rfl);(case hr=> first|(go_simp;done)|(go_simp;rfl));intro gb163 hg w11 hbox hb;have n0_:=Aside0.mk (blk_below (g:=gb162) (o:= .cells #[.int .i64 a0_0,.int .i64 a0_1] 79 (0,0)) (by (with_reducible repeat (first|apply bN|apply bd|apply bA));exact BK162.out) hb);have n1_:=Aside0.mk (below_step (by repeat (first|(with_reducible first|exact HB.out|apply bwA|apply bwN|apply bwD|refine bwS ?_ GE162.out)|exact HB.out)) hb);have n2_:=Aside0.mk (hbox);have n3_:=Aside0.mk ((by rw [hg];exact (below_size (by repeat (first|(with_reducible first|exact HB.out|apply bwA|apply bwN|apply bwD|refine bwS ?_ GE162.out)|exact HB.out))):w.heap.size ≤ gb163));have n4_:=Aside0.mk ((by rw [hg];exact (below_size (by repeat (first|(with_reducible first|exact HB.out|apply bwA|apply bwN|apply bwD|refine bwS ?_ GE162.out)|exact HB.out))):w.heap.size ≤ gb163));have n5_:=Aside0.mk ((by rw [hg];exact Nat.ne_of_lt (blk_lt (g:=gb162) (o:= .cells #[.int .i64 a0_0,.int .i64 a0_1] 79 (0,0)) (by (with_reducible repeat (first|apply bN|apply bd|apply bA));exact BK162.out)):gb162 ≠ gb163));have n6_:=Aside0.mk ((by rw [hg];exact Nat.ne_of_gt (blk_lt (g:=gb162) (o:= .cells #[.int .i64 a0_0,.int .i64 a0_1] 79 (0,0)) (by (with_reducible repeat (first|apply bN|apply bd|apply bA));exact BK162.out)):gb163 ≠ gb162));clear BK162;clear HB;have BK162:=n0_;have HB:=n1_;have BK163:=n2_;have GW163:=n3_;have GE163:=n4_;have NB162_163:=n5_;have NB163_162:=n6_;clear n0_ n1_ n2_ n3_ n4_ n5_ n6_;clear hb hbox hg;have hnb12:=NB162_163.out;have hnc12:=NB163_162.out;have hcz13_0:w11.cell? ⟨gb162,0,none⟩=some (.int .i64 a0_0):=(blk_cell BK162.out 0).trans rfl;have hcz13_1:w11.cell? ⟨gb162,1,none⟩=some (.int .i64 a0_1):=(blk_cell BK162.out 1).trans rfl;have hfz13_0:=blk_frozen BK162.out 0;have hfz13_1:=blk_frozen BK162.out 1;have hcz14_0:w11.cell? ⟨gb163,0,none⟩=some (.int .i64 a1_0):=(blk_cell BK163.out 0).trans rfl;have hcz14_1:w11.cell? ⟨gb163,1,none⟩=some (.int .i64 a1_1):=(blk_cell BK163.out 1).trans rfl;have hfz14_0:=blk_frozen BK163.out 0;have hfz14_1:=blk_frozen BK163.out 1))
      go_ret
      exact ⟨by first|rfl|(simp [errW_none,errW_some] <;> rfl)|(simp [*,errW_none,errW_some] <;> rfl),by repeat (first|(with_reducible first|exact HB.out|apply bwA|apply bwN|apply bwD|refine bwS ?_ GE162.out|refine bwS ?_ GE163.out)|exact HB.out)⟩
  · rw [if_neg c3] at H
    have c3b0:(a0_0==a1_0)=false:=beq_eq_false_iff_ne.mpr c3
    have c3b1:(a0_0 !=a1_0)=true:=bne_iff_ne.mpr c3
    obtain rfl:=Option.some.inj H
    go_enter Try.func71,Try.ntmps71
    go_wp2_with (first|((with_reducible refine gate_dst (N:=2) rfl ?_);refine box_event ?hg (N:=2) ?hd (cs:= #[.int .i64 a0_0,.int .i64 a0_1]) (t:=79) ?hr ?_;(case hd=> rfl);(case hg=> rfl);(case hr=> first|(go_simp;done)|(go_simp;rfl));intro gb162 hg w15 hbox hb;have n0_:=Aside0.mk (below_step (by repeat (first|(with_reducible first|exact HB.out|apply bwA|apply bwN|apply bwD)|exact HB.out)) hb);have n1_:=Aside0.mk (hbox);have n2_:=Aside0.mk ((by rw [hg];exact (below_size (by repeat (first|(with_reducible first|exact HB.out|apply bwA|apply bwN|apply bwD)|exact HB.out))):w.heap.size ≤ gb162));have n3_:=Aside0.mk ((by rw [hg];exact (below_size (by repeat (first|(with_reducible first|exact HB.out|apply bwA|apply bwN|apply bwD)|exact HB.out))):w.heap.size ≤ gb162));clear HB;have HB:=n0_;have BK162:=n1_;have GW162:=n2_;have GE162:=n3_;clear n0_ n1_ n2_ n3_;clear hb hbox hg)|((with_reducible refine gate_dst (N:=3) rfl ?_);refine box_event ?hg (N:=3) ?hd (cs:= #[.int .i64 a1_0,.int .i64 a1_1]) (t:=79) ?hr ?_;(case hd=> rfl);(case hg=> rfl);(case hr=> first|(go_simp;done)|(go_simp;rfl));intro gb163 hg w16 hbox hb;have n0_:=Aside0.mk (blk_below (g:=gb162) (o:= .cells #[.int .i64 a0_0,.int .i64 a0_1] 79 (0,0)) (by (with_reducible repeat (first|apply bN|apply bd|apply bA));exact BK162.out) hb);have n1_:=Aside0.mk (below_step (by repeat (first|(with_reducible first|exact HB.out|apply bwA|apply bwN|apply bwD|refine bwS ?_ GE162.out)|exact HB.out)) hb);have n2_:=Aside0.mk (hbox);have n3_:=Aside0.mk ((by rw [hg];exact (below_size (by repeat (first|(with_reducible first|exact HB.out|apply bwA|apply bwN|apply bwD|refine bwS ?_ GE162.out)|exact HB.out))):w.heap.size ≤ gb163));have n4_:=Aside0.mk ((by rw [hg];exact (below_size (by repeat (first|(with_reducible first|exact HB.out|apply bwA|apply bwN|apply bwD|refine bwS ?_ GE162.out)|exact HB.out))):w.heap.size ≤ gb163));have n5_:=Aside0.mk ((by rw [hg];exact Nat.ne_of_lt (blk_lt (g:=gb162) (o:= .cells #[.int .i64 a0_0,.int .i64 a0_1] 79 (0,0)) (by (with_reducible repeat (first|apply bN|apply bd|apply bA));exact BK162.out)):gb162 ≠ gb163));have n6_:=Aside0.mk ((by rw [hg];exact Nat.ne_of_gt (blk_lt (g:=gb162) (o:= .cells #[.int .i64 a0_0,.int .i64 a0_1] 79 (0,0)) (by (with_reducible repeat (first|apply bN|apply bd|apply bA));exact BK162.out)):gb163 ≠ gb162));clear BK162;clear HB;have BK162:=n0_;have HB:=n1_;have BK163:=n2_;have GW163:=n3_;have GE163:=n4_;have NB162_163:=n5_;have NB163_162:=n6_;clear n0_ n1_ n2_ n3_ n4_ n5_ n6_;clear hb hbox hg;have hnb17:=NB162_163.out;have hnc17:=NB163_162.out;have hcz18_0:w16.cell? ⟨gb162,0,none⟩=some (.int .i64 a0_0):=(blk_cell BK162.out 0).trans rfl;have hcz18_1:w16.cell? ⟨gb162,1,none⟩=some (.int .i64 a0_1):=(blk_cell BK162.out 1).trans rfl;have hfz18_0:=blk_frozen BK162.out 0;have hfz18_1:=blk_frozen BK162.out 1;have hcz19_0:w16.cell? ⟨gb163,0,none⟩=some (.int .i64 a1_0):=(blk_cell BK163.out 0).trans rfl;have hcz19_1:w16.cell? ⟨gb163,1,none⟩=some (.int .i64 a1_1):=(blk_cell BK163.out 1).trans rfl;have hfz19_0:=blk_frozen BK163.out 0;have hfz19_1:=blk_frozen BK163.out 1))
    go_ret
    exact ⟨by first|rfl|(simp [errW_none,errW_some] <;> rfl)|(simp [*,errW_none,errW_some] <;> rfl),by repeat (first|(with_reducible first|exact HB.out|apply bwA|apply bwN|apply bwD|refine bwS ?_ GE162.out|refine bwS ?_ GE163.out)|exact HB.out)⟩
def laws_eqExtS.l0:Nat → List (S79) → List (S79) → Int → Option (Bool)
  |0,_,_,_=> none
  |k + 1,x0,x1,x5=> if x5 < (x0.length:Int) then (if 0 ≤ x5 then (if x5 < (x1.length:Int) then ((laws_eqExt.f ((rd_T79 x0 x5).f0) ((rd_T79 x0 x5).f1) ((rd_T79 x1 x5).f0) ((rd_T79 x1 x5).f1)).bind fun t166=> (if t166=true then (laws_eqExtS.l0 k x0 x1 (wrap64 (x5 + 1))) else (some false))) else (none)) else (none)) else (some true)
def laws_eqExtS.f (k:Nat) (l0:List (S79)) (l1:List (S79)):Option (Bool):=if (l0.length:Int)=(l1.length:Int) then (laws_eqExtS.l0 k l0 l1 0) else (some false)
theorem laws_eqExtS.mono_l:∀ k,(∀ y0 y1 y2,LeO (laws_eqExtS.l0 k y0 y1 y2) (laws_eqExtS.l0 (k + 1) y0 y1 y2))
  |0=> fun _ _ _ r h=> by simp [laws_eqExtS.l0] at h
  |k + 1=> by
    have ih0:=laws_eqExtS.mono_l k
    · intro y0 y1 y2
      unfold laws_eqExtS.l0
      repeat' first
      |(with_reducible exact ih0 _ _ _)
      |(with_reducible exact LeO.refl _)
      |(with_reducible exact LeO.none _)
      |(with_reducible refine LeO.ite ?_ ?_)
      |(with_reducible refine LeO.bind ?_ (fun _=> ?_))
      |exact ih0 _ _ _
      |exact LeO.none _
      |refine LeO.ite ?_ ?_
      |refine LeO.bind ?_ (fun _=> ?_)
theorem laws_eqExtS.mono:∀ a0 a1 k,LeO (laws_eqExtS.f k a0 a1) (laws_eqExtS.f (k + 1) a0 a1):=by
  intro a0 a1 k
  have ih0:=laws_eqExtS.mono_l k
  unfold laws_eqExtS.f
  repeat' first
      |(with_reducible exact ih0 _ _ _)
      |(with_reducible exact LeO.refl _)
      |(with_reducible exact LeO.none _)
      |(with_reducible refine LeO.ite ?_ ?_)
      |(with_reducible refine LeO.bind ?_ (fun _=> ?_))
      |exact ih0 _ _ _
      |exact LeO.none _
      |refine LeO.ite ?_ ?_
      |refine LeO.bind ?_ (fun _=> ?_)
def laws_eqExtS.T6:Bool × List (List Nat × List Nat):=(true, [([], []),([], []),([0,1], [0,1]),([2], [2]),([], []),([], []),([4,5], [4,5]),([6], [6]),([3,7], [3,7]),([8], [8])])
def laws_eqExtS.B6:List Nat:= [0,0,3,7,0,0,48,112,255,511]
theorem laws_eqExtS.tab6:rtab .any (opsOf Try.f63 6)=laws_eqExtS.T6:=by kernel_rfl
theorem laws_eqExtS.bits6:waitsOk laws_eqExtS.T6.2 laws_eqExtS.B6=true:=by kernel_rfl
set_option maxHeartbeats 8000000 in
set_option maxRecDepth 100000 in
theorem laws_eqExtS.calls (k:Nat) (A0:Option Addr) (c0:Nat) (l0:List (S79)) (A1:Option Addr) (c1:Nat) (l1:List (S79)) (r:Bool) (w:World) (hr0:Kd.C k79 w A0 l0.length l0) (hc0:l0.length ≤ c0) (hr1:Kd.C k79 w A1 l1.length l1) (hc1:l1.length ≤ c1) (h:laws_eqExtS.f k l0 l1=some r):
    Calls Try.prog 63 #[.slice A0 l0.length c0,.slice A1 l1.length c1] w fun e w'=> e= .returned (.bool r) ∧ Below w.heap.size w w':=by
  have hu79:=Try.underlying79
  have HR0:=Aside0.mk hr0
  have HC0:=Aside0.mk hc0
  clear hr0 hc0
  have HR1:=Aside0.mk hr1
  have HC1:=Aside0.mk hc1
  clear hr1 hc1
  have HB:=Aside0.mk (Below.refl w.heap.size w)
  have H:(if (l0.length:Int)=(l1.length:Int) then (laws_eqExtS.l0 k l0 l1 0) else (some false))=some r:=h
  clear h
  by_cases c3:(l0.length:Int)=(l1.length:Int)
  · rw [if_pos c3] at H
    have c3b0:((l0.length:Int)==(l1.length:Int))=true:=beq_iff_eq.mpr c3
    have c3b1:((l0.length:Int) !=(l1.length:Int))=false:=bne_eq_false_iff_eq.mpr c3
    have c3b2:(l0.length==l1.length)=true:=by first|simpa using c3|(simp at c3 ⊢;omega)
    clear c3
    have H':=Aside0.mk H
    clear H
    go_enter Try.func63,Try.ntmps63
    go_wp2
    go_loopg [5] k (fun kq v5 w'=> ∃ (x5_1:Int),v5= .int .i64 x5_1 ∧ Aside0 (laws_eqExtS.l0 kq l0 l1 x5_1=some r) ∧ Aside0 (kq ≤ k) ∧ Aside0 (Below w.heap.size w w'))
    case atStart=> exact ⟨(0),(by first|rfl|(simp;done)|(simp [*];done)),H',⟨Nat.le_refl _⟩,⟨by repeat (first|(with_reducible first|exact HB.out|apply bwA|apply bwN|apply bwD)|exact HB.out)⟩⟩
    case round=>
      clear H'
      try clear c1
      try clear p2
      try clear c3
      try clear c3b0
      try clear c3b1
      try clear c3b2
      obtain ⟨x5_1,rfl,HA,HK1,HB⟩:=hrel
      cases gk with
      |zero=> exact absurd HA.out (by simp [laws_eqExtS.l0])
      |succ k1=>
        have H:=HA.out
        clear HA
        simp only [laws_eqExtS.l0] at H
        by_cases c4:x5_1 < (l0.length:Int)
        · rw [if_pos c4] at H
          have c4b0:decide (x5_1 < (l0.length:Int))=true:=decide_eq_true c4
          clear c4
          by_cases c5:0 ≤ x5_1
          · rw [if_pos c5] at H
            have c5b0:decide (0 ≤ x5_1)=true:=decide_eq_true c5
            clear c5
            by_cases c6:x5_1 < (l1.length:Int)
            · rw [if_pos c6] at H
              have c6b0:decide (x5_1 < (l1.length:Int))=true:=decide_eq_true c6
              clear c6
              replace H:=Option.bind_eq_some_iff.mp H
              obtain ⟨t166,A70,H⟩:=H
              replace H:(if t166=true then (laws_eqExtS.l0 k1 l0 l1 (wrap64 (x5_1 + 1))) else (some false))=some r:=H
              have A7:=Aside0.mk A70
              clear A70
              by_cases c8:t166=true
              · subst c8
                have H1:(laws_eqExtS.l0 k1 l0 l1 (wrap64 (x5_1 + 1)))=some r:=by rw [if_pos rfl] at H;exact H
                clear H
                have H:=H1
                clear H1
                have H':=Aside0.mk H
                clear H
                try go_wp2
                have n0_:=Aside0.mk (bwD HB.out)
                clear HB
                have HB:=n0_
                clear n0_
                have p164:0 ≤ (x5_1:Int):=of_decide_eq_true (by first|(with_reducible assumption)|assumption)
                have q164:x5_1 < (l0.length:Int):=of_decide_eq_true (by first|(with_reducible assumption)|assumption)
                obtain ⟨ad164,e164,hx164_0,hx164_1⟩:=at_T79 HR0.out x5_1 p164 q164
                have hw164_1:=hx164_1
                have hw164_0:=hx164_0
                cases e164
                replace hx164_0:=(HB.out.cell (World.block_lt_of_cell? w _ hx164_0)).trans hx164_0
                replace hx164_1:=(HB.out.cell (World.block_lt_of_cell? w _ hx164_1)).trans hx164_1
                replace p164:=eq_true p164
                replace q164:=eq_true q164
                have p165:0 ≤ (x5_1:Int):=of_decide_eq_true (by first|(with_reducible assumption)|assumption)
                have q165:x5_1 < (l1.length:Int):=of_decide_eq_true (by first|(with_reducible assumption)|assumption)
                obtain ⟨ad165,e165,hx165_0,hx165_1⟩:=at_T79 HR1.out x5_1 p165 q165
                have hw165_1:=hx165_1
                have hw165_0:=hx165_0
                cases e165
                replace hx165_0:=(HB.out.cell (World.block_lt_of_cell? w _ hx165_0)).trans hx165_0
                replace hx165_1:=(HB.out.cell (World.block_lt_of_cell? w _ hx165_1)).trans hx165_1
                replace p165:=eq_true p165
                replace q165:=eq_true q165
                refine start_ (n:=10) (S:=fun w'=> w'.cell? (ad164.add ((x5_1).toNat * 2))=some (.int .i64 ((rd_T79 l0 x5_1).f0)) ∧ w'.cell? ⟨(ad164.add ((x5_1).toNat * 2)).block,(ad164.add ((x5_1).toNat * 2)).off + 1,none⟩=some (.int .i64 ((rd_T79 l0 x5_1).f1)) ∧ w'.cell? (ad165.add ((x5_1).toNat * 2))=some (.int .i64 ((rd_T79 l1 x5_1).f0)) ∧ w'.cell? ⟨(ad165.add ((x5_1).toNat * 2)).block,(ad165.add ((x5_1).toNat * 2)).off + 1,none⟩=some (.int .i64 ((rd_T79 l1 x5_1).f1))) (ds:= []) #[false,false,false,false,false,false,false,false,false,false] (by kernel_rfl) rfl rfl ⟨((HB.out.cell (World.block_lt_of_cell? w _ hw164_0)).trans hw164_0),((HB.out.cell (World.block_lt_of_cell? w _ hw164_1)).trans hw164_1),((HB.out.cell (World.block_lt_of_cell? w _ hw165_0)).trans hw165_0),((HB.out.cell (World.block_lt_of_cell? w _ hw165_1)).trans hw165_1)⟩ (fun hHeld=> ?_);refine with_tabW laws_eqExtS.tab6 laws_eqExtS.bits6 (fun HT_ HW_=> ?_)
                generalize wr.drew=w9 at HB hx164_0 hx164_1 hx165_0 hx165_1 hHeld ⊢
                refine pure_ (i:=0) (N:=some 17) (v:=?_) (a':=?_) #[true,false,false,false,false,false,false,false,false,false] rfl rfl (any_of HT_.out (by kernel_rfl)) (fun _ _ _ h=> h) (Or.inl ⟨by rfl,?_⟩) ?_ ?_
                rotate_left
                · intro w'
                  go_simp
                  with_reducible rfl
                rotate_left
                · simp only [Act.put,List.setIfInBounds_toArray,List.set_cons_zero,List.set_cons_succ,i64_w,i32_w]
                  rfl
                refine pure_ (i:=1) (N:=some 18) (v:=?_) (a':=?_) #[true,true,false,false,false,false,false,false,false,false] rfl rfl (any_of HT_.out (by kernel_rfl)) (fun _ _ _ h=> h) (Or.inl ⟨by rfl,?_⟩) ?_ ?_
                rotate_left
                · intro w'
                  go_simp
                  with_reducible rfl
                rotate_left
                · simp only [Act.put,List.setIfInBounds_toArray,List.set_cons_zero,List.set_cons_succ,i64_w,i32_w]
                  rfl
                refine pure_ (i:=2) (N:=some 19) (v:=?_) (a':=?_) #[true,true,true,false,false,false,false,false,false,false] rfl rfl (any_of HT_.out (by kernel_rfl)) (fun _ _ _ h=> h) (Or.inl ⟨by rfl,?_⟩) ?_ ?_
                rotate_left
                · intro w'
                  go_simp
                  with_reducible rfl
                rotate_left
                · simp only [Act.put,List.setIfInBounds_toArray,List.set_cons_zero,List.set_cons_succ,i64_w,i32_w]
                  rfl
                refine pure_ (i:=4) (N:=some 21) (v:=?_) (a':=?_) #[true,true,true,false,true,false,false,false,false,false] rfl rfl (any_of HT_.out (by kernel_rfl)) (fun _ _ _ h=> h) (Or.inl ⟨by rfl,?_⟩) ?_ ?_
                rotate_left
                · intro w'
                  go_simp
                  with_reducible rfl
                rotate_left
                · simp only [Act.put,List.setIfInBounds_toArray,List.set_cons_zero,List.set_cons_succ,i64_w,i32_w]
                  rfl
                refine pure_ (i:=5) (N:=some 22) (v:=?_) (a':=?_) #[true,true,true,false,true,true,false,false,false,false] rfl rfl (any_of HT_.out (by kernel_rfl)) (fun _ _ _ h=> h) (Or.inl ⟨by rfl,?_⟩) ?_ ?_
                rotate_left
                · intro w'
                  go_simp
                  with_reducible rfl
                rotate_left
                · simp only [Act.put,List.setIfInBounds_toArray,List.set_cons_zero,List.set_cons_succ,i64_w,i32_w]
                  rfl
                refine pure_ (i:=6) (N:=some 23) (v:=?_) (a':=?_) #[true,true,true,false,true,true,true,false,false,false] rfl rfl (any_of HT_.out (by kernel_rfl)) (fun _ _ _ h=> h) (Or.inl ⟨by rfl,?_⟩) ?_ ?_
                rotate_left
                · intro w'
                  go_simp
                  with_reducible rfl
                rotate_left
                · simp only [Act.put,List.setIfInBounds_toArray,List.set_cons_zero,List.set_cons_succ,i64_w,i32_w]
                  rfl
                refine take_ (i:=3) (N:=some 20) (v:=?_) (a':=?_) #[true,true,true,true,true,true,true,false,false,false] rfl rfl (take_ofW HT_.out HW_.out (by kernel_rfl)) (fun _ _ _ h=> h) (Or.inl ⟨by rfl,?_⟩) hHeld ?_ ?_
                rotate_left
                · rintro w' ⟨s0,s1,s2,s3⟩
                  go_simp
                  with_reducible rfl
                rotate_left
                · simp only [Act.put,List.setIfInBounds_toArray,List.set_cons_zero,List.set_cons_succ,i64_w,i32_w]
                  rfl
                refine take_ (i:=7) (N:=some 24) (v:=?_) (a':=?_) #[true,true,true,true,true,true,true,true,false,false] rfl rfl (take_ofW HT_.out HW_.out (by kernel_rfl)) (fun _ _ _ h=> h) (Or.inl ⟨by rfl,?_⟩) hHeld ?_ ?_
                rotate_left
                · rintro w' ⟨s0,s1,s2,s3⟩
                  go_simp
                  with_reducible rfl
                rotate_left
                · simp only [Act.put,List.setIfInBounds_toArray,List.set_cons_zero,List.set_cons_succ,i64_w,i32_w]
                  rfl
                refine one_ (i:=8) (N:=some 25) #[true,true,true,true,true,true,true,true,true,false] rfl rfl (one_of HT_.out (by kernel_rfl)) (by decide) (fun K hK=> ?_)
                refine goes_ Try.func71 (by kernel_rfl) rfl #[.agg #[.int .i64 ((rd_T79 l0 x5_1).f0),.int .i64 ((rd_T79 l0 x5_1).f1)],.agg #[.int .i64 ((rd_T79 l1 x5_1).f0),.int .i64 ((rd_T79 l1 x5_1).f1)]] (by rfl) rfl rfl (by (try simp only [List.map_toArray,List.map_cons,List.map_nil]);first|done|rfl|(simp only [List.length_drop,List.length_take];rfl)) ?_
                with_reducible refine (laws_eqExt.calls ((rd_T79 l0 x5_1).f0) ((rd_T79 l0 x5_1).f1) ((rd_T79 l1 x5_1).f0) ((rd_T79 l1 x5_1).f1) true _ A7.out).mono ?_
                rintro e w10 ⟨rfl,hb⟩
                refine ⟨_,rfl,?_⟩
                have n0_:=Aside0.mk (below_step (by repeat (first|(with_reducible first|exact HB.out|apply bwA|apply bwN|apply bwD)|exact HB.out)) hb)
                clear HB
                have HB:=n0_
                clear n0_
                (try clear hb)
                (try clear hb2)
                (try clear hk)
                (try clear hi)
                refine hK.out _ _ ⟨((HB.out.cell (World.block_lt_of_cell? w _ hw164_0)).trans hw164_0),((HB.out.cell (World.block_lt_of_cell? w _ hw164_1)).trans hw164_1),((HB.out.cell (World.block_lt_of_cell? w _ hw165_0)).trans hw165_0),((HB.out.cell (World.block_lt_of_cell? w _ hw165_1)).trans hw165_1)⟩ (fun hHeld=> ?_)
                clear hK K
                refine norm_ (a':=?_) ?_ ?_
                rotate_left
                · show Act.put _ (some 25) _=_
                  simp only [Act.put,List.setIfInBounds_toArray,List.set_cons_zero,List.set_cons_succ,i64_w,i32_w]
                  rfl
                refine pure_ (i:=9) (N:=some 26) (v:=?_) (a':=?_) #[true,true,true,true,true,true,true,true,true,true] rfl rfl (any_of HT_.out (by kernel_rfl)) (fun _ _ _ h=> h) (Or.inl ⟨by rfl,?_⟩) ?_ ?_
                rotate_left
                · intro w'
                  go_simp
                  with_reducible rfl
                rotate_left
                · simp only [Act.put,List.setIfInBounds_toArray,List.set_cons_zero,List.set_cons_succ,i64_w,i32_w]
                  rfl
                refine done_ (done_of HT_.out (by kernel_rfl)) ?_
                try go_wp2
                go_roundg k1
                case measure=> have:=HK1.out;omega
                case rel=> exact ⟨(wrap64 (x5_1 + 1)),(by first|rfl|(simp;done)|(simp [*];done)),H',⟨by have:=HK1.out;omega⟩,⟨by repeat (first|(with_reducible first|exact HB.out|apply bwA|apply bwN|apply bwD)|exact HB.out)⟩⟩
              · replace c8:=Bool.eq_false_iff.mpr c8
                subst c8
                have H1:(some false)=some r:=by rw [if_neg (show ¬ (false=true) by decide)] at H;exact H
                clear H
                have H:=H1
                clear H1
                obtain rfl:=Option.some.inj H
                try go_wp2
                have n0_:=Aside0.mk (bwD HB.out)
                clear HB
                have HB:=n0_
                clear n0_
                have p164:0 ≤ (x5_1:Int):=of_decide_eq_true (by first|(with_reducible assumption)|assumption)
                have q164:x5_1 < (l0.length:Int):=of_decide_eq_true (by first|(with_reducible assumption)|assumption)
                obtain ⟨ad164,e164,hx164_0,hx164_1⟩:=at_T79 HR0.out x5_1 p164 q164
                have hw164_1:=hx164_1
                have hw164_0:=hx164_0
                cases e164
                replace hx164_0:=(HB.out.cell (World.block_lt_of_cell? w _ hx164_0)).trans hx164_0
                replace hx164_1:=(HB.out.cell (World.block_lt_of_cell? w _ hx164_1)).trans hx164_1
                replace p164:=eq_true p164
                replace q164:=eq_true q164
                have p165:0 ≤ (x5_1:Int):=of_decide_eq_true (by first|(with_reducible assumption)|assumption)
                have q165:x5_1 < (l1.length:Int):=of_decide_eq_true (by first|(with_reducible assumption)|assumption)
                obtain ⟨ad165,e165,hx165_0,hx165_1⟩:=at_T79 HR1.out x5_1 p165 q165
                have hw165_1:=hx165_1
                have hw165_0:=hx165_0
                cases e165
                replace hx165_0:=(HB.out.cell (World.block_lt_of_cell? w _ hx165_0)).trans hx165_0
                replace hx165_1:=(HB.out.cell (World.block_lt_of_cell? w _ hx165_1)).trans hx165_1
                replace p165:=eq_true p165
                replace q165:=eq_true q165
                refine start_ (n:=10) (S:=fun w'=> w'.cell? (ad164.add ((x5_1).toNat * 2))=some (.int .i64 ((rd_T79 l0 x5_1).f0)) ∧ w'.cell? ⟨(ad164.add ((x5_1).toNat * 2)).block,(ad164.add ((x5_1).toNat * 2)).off + 1,none⟩=some (.int .i64 ((rd_T79 l0 x5_1).f1)) ∧ w'.cell? (ad165.add ((x5_1).toNat * 2))=some (.int .i64 ((rd_T79 l1 x5_1).f0)) ∧ w'.cell? ⟨(ad165.add ((x5_1).toNat * 2)).block,(ad165.add ((x5_1).toNat * 2)).off + 1,none⟩=some (.int .i64 ((rd_T79 l1 x5_1).f1))) (ds:= []) #[false,false,false,false,false,false,false,false,false,false] (by kernel_rfl) rfl rfl ⟨((HB.out.cell (World.block_lt_of_cell? w _ hw164_0)).trans hw164_0),((HB.out.cell (World.block_lt_of_cell? w _ hw164_1)).trans hw164_1),((HB.out.cell (World.block_lt_of_cell? w _ hw165_0)).trans hw165_0),((HB.out.cell (World.block_lt_of_cell? w _ hw165_1)).trans hw165_1)⟩ (fun hHeld=> ?_);refine with_tabW laws_eqExtS.tab6 laws_eqExtS.bits6 (fun HT_ HW_=> ?_)
                generalize wr.drew=w11 at HB hx164_0 hx164_1 hx165_0 hx165_1 hHeld ⊢
                refine pure_ (i:=0) (N:=some 17) (v:=?_) (a':=?_) #[true,false,false,false,false,false,false,false,false,false] rfl rfl (any_of HT_.out (by kernel_rfl)) (fun _ _ _ h=> h) (Or.inl ⟨by rfl,?_⟩) ?_ ?_
                rotate_left
                · intro w'
                  go_simp
                  with_reducible rfl
                rotate_left
                · simp only [Act.put,List.setIfInBounds_toArray,List.set_cons_zero,List.set_cons_succ,i64_w,i32_w]
                  rfl
                refine pure_ (i:=1) (N:=some 18) (v:=?_) (a':=?_) #[true,true,false,false,false,false,false,false,false,false] rfl rfl (any_of HT_.out (by kernel_rfl)) (fun _ _ _ h=> h) (Or.inl ⟨by rfl,?_⟩) ?_ ?_
                rotate_left
                · intro w'
                  go_simp
                  with_reducible rfl
                rotate_left
                · simp only [Act.put,List.setIfInBounds_toArray,List.set_cons_zero,List.set_cons_succ,i64_w,i32_w]
                  rfl
                refine pure_ (i:=2) (N:=some 19) (v:=?_) (a':=?_) #[true,true,true,false,false,false,false,false,false,false] rfl rfl (any_of HT_.out (by kernel_rfl)) (fun _ _ _ h=> h) (Or.inl ⟨by rfl,?_⟩) ?_ ?_
                rotate_left
                · intro w'
                  go_simp
                  with_reducible rfl
                rotate_left
                · simp only [Act.put,List.setIfInBounds_toArray,List.set_cons_zero,List.set_cons_succ,i64_w,i32_w]
                  rfl
                refine pure_ (i:=4) (N:=some 21) (v:=?_) (a':=?_) #[true,true,true,false,true,false,false,false,false,false] rfl rfl (any_of HT_.out (by kernel_rfl)) (fun _ _ _ h=> h) (Or.inl ⟨by rfl,?_⟩) ?_ ?_
                rotate_left
                · intro w'
                  go_simp
                  with_reducible rfl
                rotate_left
                · simp only [Act.put,List.setIfInBounds_toArray,List.set_cons_zero,List.set_cons_succ,i64_w,i32_w]
                  rfl
                refine pure_ (i:=5) (N:=some 22) (v:=?_) (a':=?_) #[true,true,true,false,true,true,false,false,false,false] rfl rfl (any_of HT_.out (by kernel_rfl)) (fun _ _ _ h=> h) (Or.inl ⟨by rfl,?_⟩) ?_ ?_
                rotate_left
                · intro w'
                  go_simp
                  with_reducible rfl
                rotate_left
                · simp only [Act.put,List.setIfInBounds_toArray,List.set_cons_zero,List.set_cons_succ,i64_w,i32_w]
                  rfl
                refine pure_ (i:=6) (N:=some 23) (v:=?_) (a':=?_) #[true,true,true,false,true,true,true,false,false,false] rfl rfl (any_of HT_.out (by kernel_rfl)) (fun _ _ _ h=> h) (Or.inl ⟨by rfl,?_⟩) ?_ ?_
                rotate_left
                · intro w'
                  go_simp
                  with_reducible rfl
                rotate_left
                · simp only [Act.put,List.setIfInBounds_toArray,List.set_cons_zero,List.set_cons_succ,i64_w,i32_w]
                  rfl
                refine take_ (i:=3) (N:=some 20) (v:=?_) (a':=?_) #[true,true,true,true,true,true,true,false,false,false] rfl rfl (take_ofW HT_.out HW_.out (by kernel_rfl)) (fun _ _ _ h=> h) (Or.inl ⟨by rfl,?_⟩) hHeld ?_ ?_
                rotate_left
                · rintro w' ⟨s0,s1,s2,s3⟩
                  go_simp
                  with_reducible rfl
                rotate_left
                · simp only [Act.put,List.setIfInBounds_toArray,List.set_cons_zero,List.set_cons_succ,i64_w,i32_w]
                  rfl
                refine take_ (i:=7) (N:=some 24) (v:=?_) (a':=?_) #[true,true,true,true,true,true,true,true,false,false] rfl rfl (take_ofW HT_.out HW_.out (by kernel_rfl)) (fun _ _ _ h=> h) (Or.inl ⟨by rfl,?_⟩) hHeld ?_ ?_
                rotate_left
                · rintro w' ⟨s0,s1,s2,s3⟩
                  go_simp
                  with_reducible rfl
                rotate_left
                · simp only [Act.put,List.setIfInBounds_toArray,List.set_cons_zero,List.set_cons_succ,i64_w,i32_w]
                  rfl
                refine one_ (i:=8) (N:=some 25) #[true,true,true,true,true,true,true,true,true,false] rfl rfl (one_of HT_.out (by kernel_rfl)) (by decide) (fun K hK=> ?_)
                refine goes_ Try.func71 (by kernel_rfl) rfl #[.agg #[.int .i64 ((rd_T79 l0 x5_1).f0),.int .i64 ((rd_T79 l0 x5_1).f1)],.agg #[.int .i64 ((rd_T79 l1 x5_1).f0),.int .i64 ((rd_T79 l1 x5_1).f1)]] (by rfl) rfl rfl (by (try simp only [List.map_toArray,List.map_cons,List.map_nil]);first|done|rfl|(simp only [List.length_drop,List.length_take];rfl)) ?_
                with_reducible refine (laws_eqExt.calls ((rd_T79 l0 x5_1).f0) ((rd_T79 l0 x5_1).f1) ((rd_T79 l1 x5_1).f0) ((rd_T79 l1 x5_1).f1) false _ A7.out).mono ?_
                rintro e w12 ⟨rfl,hb⟩
                refine ⟨_,rfl,?_⟩
                have n0_:=Aside0.mk (below_step (by repeat (first|(with_reducible first|exact HB.out|apply bwA|apply bwN|apply bwD)|exact HB.out)) hb)
                clear HB
                have HB:=n0_
                clear n0_
                (try clear hb)
                (try clear hb2)
                (try clear hk)
                (try clear hi)
                refine hK.out _ _ ⟨((HB.out.cell (World.block_lt_of_cell? w _ hw164_0)).trans hw164_0),((HB.out.cell (World.block_lt_of_cell? w _ hw164_1)).trans hw164_1),((HB.out.cell (World.block_lt_of_cell? w _ hw165_0)).trans hw165_0),((HB.out.cell (World.block_lt_of_cell? w _ hw165_1)).trans hw165_1)⟩ (fun hHeld=> ?_)
                clear hK K
                refine norm_ (a':=?_) ?_ ?_
                rotate_left
                · show Act.put _ (some 25) _=_
                  simp only [Act.put,List.setIfInBounds_toArray,List.set_cons_zero,List.set_cons_succ,i64_w,i32_w]
                  rfl
                refine pure_ (i:=9) (N:=some 26) (v:=?_) (a':=?_) #[true,true,true,true,true,true,true,true,true,true] rfl rfl (any_of HT_.out (by kernel_rfl)) (fun _ _ _ h=> h) (Or.inl ⟨by rfl,?_⟩) ?_ ?_
                rotate_left
                · intro w'
                  go_simp
                  with_reducible rfl
                rotate_left
                · simp only [Act.put,List.setIfInBounds_toArray,List.set_cons_zero,List.set_cons_succ,i64_w,i32_w]
                  rfl
                refine done_ (done_of HT_.out (by kernel_rfl)) ?_
                try go_wp2
                go_ret
                exact ⟨by first|rfl|(simp [errW_none,errW_some] <;> rfl)|(simp [*,errW_none,errW_some] <;> rfl),by repeat (first|(with_reducible first|exact HB.out|apply bwA|apply bwN|apply bwD)|exact HB.out)⟩
            · rw [if_neg c6] at H
              exact absurd H (by simp)
          · rw [if_neg c5] at H
            exact absurd H (by simp)
        · rw [if_neg c4] at H
          have c4b0:decide (x5_1 < (l0.length:Int))=false:=decide_eq_false c4
          clear c4
          obtain rfl:=Option.some.inj H
          go_wp2
          go_ret
          exact ⟨by first|rfl|(simp [errW_none,errW_some] <;> rfl)|(simp [*,errW_none,errW_some] <;> rfl),by repeat (first|(with_reducible first|exact HB.out|apply bwA|apply bwN|apply bwD)|exact HB.out)⟩
  · rw [if_neg c3] at H
    have c3b0:((l0.length:Int)==(l1.length:Int))=false:=beq_eq_false_iff_ne.mpr c3
    have c3b1:((l0.length:Int) !=(l1.length:Int))=true:=bne_iff_ne.mpr c3
    have c3b2:(l0.length==l1.length)=false:=by first|simpa using c3|(simp at c3 ⊢;omega)
    obtain rfl:=Option.some.inj H
    go_enter Try.func63,Try.ntmps63
    go_wp2
    go_ret
    exact ⟨by first|rfl|(simp [errW_none,errW_some] <;> rfl)|(simp [*,errW_none,errW_some] <;> rfl),by repeat (first|(with_reducible first|exact HB.out|apply bwA|apply bwN|apply bwD)|exact HB.out)⟩
def laws_eqSource.f (k:Nat) (l0_0:List (S79)) (a0_1:Int) (a0_2:ByteArray) (a0_3:Int) (l1_0:List (S79)) (a1_1:Int) (a1_2:ByteArray) (a1_3:Int):Option (Bool):=(laws_eqExtS.f k l0_0 l1_0).bind fun t169=> (if t169=true then (if a0_1=a1_1 then (if a0_2.toList=a1_2.toList then (if a0_3=a1_3 then (some true) else (some false)) else (some false)) else (some false)) else (some false))
theorem laws_eqSource.mono:∀ a0 a1 a2 a3 a4 a5 a6 a7 k,LeO (laws_eqSource.f k a0 a1 a2 a3 a4 a5 a6 a7) (laws_eqSource.f (k + 1) a0 a1 a2 a3 a4 a5 a6 a7):=by
  intro a0 a1 a2 a3 a4 a5 a6 a7 k
  unfold laws_eqSource.f
  repeat' first
      |(with_reducible exact laws_eqExtS.mono _ _ _)
      |(with_reducible exact LeO.refl _)
      |(with_reducible exact LeO.none _)
      |(with_reducible refine LeO.ite ?_ ?_)
      |(with_reducible refine LeO.bind ?_ (fun _=> ?_))
      |exact laws_eqExtS.mono _ _ _
      |exact LeO.none _
      |refine LeO.ite ?_ ?_
      |refine LeO.bind ?_ (fun _=> ?_)
set_option maxHeartbeats 8000000 in
set_option maxRecDepth 100000 in
theorem laws_eqSource.calls (k:Nat) (A0_0:Option Addr) (c0_0:Nat) (l0_0:List (S79)) (a0_1:Int) (a0_2:ByteArray) (a0_3:Int) (A1_0:Option Addr) (c1_0:Nat) (l1_0:List (S79)) (a1_1:Int) (a1_2:ByteArray) (a1_3:Int) (r:Bool) (w:World) (hr0_0:Kd.C k79 w A0_0 l0_0.length l0_0) (hc0_0:l0_0.length ≤ c0_0) (hr1_0:Kd.C k79 w A1_0 l1_0.length l1_0) (hc1_0:l1_0.length ≤ c1_0) (h:laws_eqSource.f k l0_0 a0_1 a0_2 a0_3 l1_0 a1_1 a1_2 a1_3=some r):
    Calls Try.prog 36 #[.agg #[.slice A0_0 l0_0.length c0_0,.int .i64 a0_1,.string a0_2,.int .i64 a0_3],.agg #[.slice A1_0 l1_0.length c1_0,.int .i64 a1_1,.string a1_2,.int .i64 a1_3]] w fun e w'=> e= .returned (.bool r) ∧ Below w.heap.size w w':=by
  have hu36:=Try.underlying36
  have HR0_0:=Aside0.mk hr0_0
  have HC0_0:=Aside0.mk hc0_0
  clear hr0_0 hc0_0
  have HR1_0:=Aside0.mk hr1_0
  have HC1_0:=Aside0.mk hc1_0
  clear hr1_0 hc1_0
  have HB:=Aside0.mk (Below.refl w.heap.size w)
  have H:((laws_eqExtS.f k l0_0 l1_0).bind fun t169=> (if t169=true then (if a0_1=a1_1 then (if a0_2.toList=a1_2.toList then (if a0_3=a1_3 then (some true) else (some false)) else (some false)) else (some false)) else (some false)))=some r:=h
  clear h
  replace H:=Option.bind_eq_some_iff.mp H
  obtain ⟨t169,A30,H⟩:=H
  replace H:(if t169=true then (if a0_1=a1_1 then (if a0_2.toList=a1_2.toList then (if a0_3=a1_3 then (some true) else (some false)) else (some false)) else (some false)) else (some false))=some r:=H
  have A3:=Aside0.mk A30
  clear A30
  by_cases c4:t169=true
  · subst c4
    have H1:(if a0_1=a1_1 then (if a0_2.toList=a1_2.toList then (if a0_3=a1_3 then (some true) else (some false)) else (some false)) else (some false))=some r:=by rw [if_pos rfl] at H;exact H
    clear H
    have H:=H1
    clear H1
    by_cases c5:a0_1=a1_1
    · rw [if_pos c5] at H
      have c5b0:(a0_1==a1_1)=true:=beq_iff_eq.mpr c5
      have c5b1:(a0_1 !=a1_1)=false:=bne_eq_false_iff_eq.mpr c5
      clear c5
      by_cases c6:a0_2.toList=a1_2.toList
      · rw [if_pos c6] at H
        have c6b0:(a0_2.toList==a1_2.toList)=true:=beq_iff_eq.mpr c6
        have c6b1:(a0_2.toList !=a1_2.toList)=false:=bne_eq_false_iff_eq.mpr c6
        clear c6
        by_cases c7:a0_3=a1_3
        · rw [if_pos c7] at H
          have c7b0:(a0_3==a1_3)=true:=beq_iff_eq.mpr c7
          have c7b1:(a0_3 !=a1_3)=false:=bne_eq_false_iff_eq.mpr c7
          clear c7
          obtain rfl:=Option.some.inj H
          go_enter Try.func36,Try.ntmps36
          go_wp2_with (first|((with_reducible refine gate_dst (N:=2) rfl ?_);refine box_event ?hg (N:=2) ?hd (cs:= #[.slice A0_0 l0_0.length c0_0,.int .i64 a0_1,.string a0_2,.int .i64 a0_3]) (t:=36) ?hr ?_;(case hd=> rfl);(case hg=> rfl);(case hr=> first|(go_simp;done)|(go_simp;rfl));intro gb167 hg w8 hbox hb;have n0_:=Aside0.mk (below_step (by repeat (first|(with_reducible first|exact HB.out|apply bwA|apply bwN|apply bwD)|exact HB.out)) hb);have n1_:=Aside0.mk (hbox);have n2_:=Aside0.mk ((by rw [hg];exact (below_size (by repeat (first|(with_reducible first|exact HB.out|apply bwA|apply bwN|apply bwD)|exact HB.out))):w.heap.size ≤ gb167));have n3_:=Aside0.mk ((by rw [hg];exact (below_size (by repeat (first|(with_reducible first|exact HB.out|apply bwA|apply bwN|apply bwD)|exact HB.out))):w.heap.size ≤ gb167));clear HB;have HB:=n0_;have BK167:=n1_;have GW167:=n2_;have GE167:=n3_;clear n0_ n1_ n2_ n3_;clear hb hbox hg)|((with_reducible refine gate_dst (N:=3) rfl ?_);refine box_event ?hg (N:=3) ?hd (cs:= #[.slice A1_0 l1_0.length c1_0,.int .i64 a1_1,.string a1_2,.int .i64 a1_3]) (t:=36) ?hr ?_;(case hd=> rfl);(case hg=> rfl);(case hr=> first|(go_simp;done)|(go_simp;rfl));intro gb168 hg w9 hbox hb;have n0_:=Aside0.mk (blk_below (g:=gb167) (o:= .cells #[.slice A0_0 l0_0.length c0_0,.int .i64 a0_1,.string a0_2,.int .i64 a0_3] 36 (0,0)) (by (with_reducible repeat (first|apply bN|apply bd|apply bA));exact BK167.out) hb);have n1_:=Aside0.mk (below_step (by repeat (first|(with_reducible first|exact HB.out|apply bwA|apply bwN|apply bwD|refine bwS ?_ GE167.out)|exact HB.out)) hb);have n2_:=Aside0.mk (hbox);have n3_:=Aside0.mk ((by rw [hg];exact (below_size (by repeat (first|(with_reducible first|exact HB.out|apply bwA|apply bwN|apply bwD|refine bwS ?_ GE167.out)|exact HB.out))):w.heap.size ≤ gb168));have n4_:=Aside0.mk ((by rw [hg];exact (below_size (by repeat (first|(with_reducible first|exact HB.out|apply bwA|apply bwN|apply bwD|refine bwS ?_ GE167.out)|exact HB.out))):w.heap.size ≤ gb168));have n5_:=Aside0.mk ((by rw [hg];exact Nat.ne_of_lt (blk_lt (g:=gb167) (o:= .cells #[.slice A0_0 l0_0.length c0_0,.int .i64 a0_1,.string a0_2,.int .i64 a0_3] 36 (0,0)) (by (with_reducible repeat (first|apply bN|apply bd|apply bA));exact BK167.out)):gb167 ≠ gb168));have n6_:=Aside0.mk ((by rw [hg];exact Nat.ne_of_gt (blk_lt (g:=gb167) (o:= .cells #[.slice A0_0 l0_0.length c0_0,.int .i64 a0_1,.string a0_2,.int .i64 a0_3] 36 (0,0)) (by (with_reducible repeat (first|apply bN|apply bd|apply bA));exact BK167.out)):gb168 ≠ gb167));clear BK167;clear HB;have BK167:=n0_;have HB:=n1_;have BK168:=n2_;have GW168:=n3_;have GE168:=n4_;have NB167_168:=n5_;have NB168_167:=n6_;clear n0_ n1_ n2_ n3_ n4_ n5_ n6_;clear hb hbox hg;have hnb10:=NB167_168.out;have hnc10:=NB168_167.out;have hcz11_0:w9.cell? ⟨gb167,0,none⟩=some (.slice A0_0 l0_0.length c0_0):=(blk_cell BK167.out 0).trans rfl;have hcz11_1:w9.cell? ⟨gb167,1,none⟩=some (.int .i64 a0_1):=(blk_cell BK167.out 1).trans rfl;have hcz11_2:w9.cell? ⟨gb167,2,none⟩=some (.string a0_2):=(blk_cell BK167.out 2).trans rfl;have hcz11_3:w9.cell? ⟨gb167,3,none⟩=some (.int .i64 a0_3):=(blk_cell BK167.out 3).trans rfl;have hfz11_0:=blk_frozen BK167.out 0;have hfz11_1:=blk_frozen BK167.out 1;have hfz11_2:=blk_frozen BK167.out 2;have hfz11_3:=blk_frozen BK167.out 3;have hcz12_0:w9.cell? ⟨gb168,0,none⟩=some (.slice A1_0 l1_0.length c1_0):=(blk_cell BK168.out 0).trans rfl;have hcz12_1:w9.cell? ⟨gb168,1,none⟩=some (.int .i64 a1_1):=(blk_cell BK168.out 1).trans rfl;have hcz12_2:w9.cell? ⟨gb168,2,none⟩=some (.string a1_2):=(blk_cell BK168.out 2).trans rfl;have hcz12_3:w9.cell? ⟨gb168,3,none⟩=some (.int .i64 a1_3):=(blk_cell BK168.out 3).trans rfl;have hfz12_0:=blk_frozen BK168.out 0;have hfz12_1:=blk_frozen BK168.out 1;have hfz12_2:=blk_frozen BK168.out 2;have hfz12_3:=blk_frozen BK168.out 3)|((with_reducible refine gate_callee (f:=63) rfl ?_);refine goesL_ (some 9) rfl rfl Try.func63 (by kernel_rfl) rfl #[.slice A0_0 l0_0.length c0_0,.slice A1_0 l1_0.length c1_0] rfl (by (try simp only [List.map_toArray,List.map_cons,List.map_nil]);first|done|rfl|(simp only [List.length_drop,List.length_take];rfl)) ?_;(with_reducible refine (laws_eqExtS.calls k _ _ l0_0 _ _ l1_0 true _ ?side1 ?side2 ?side3 ?side4 A3.out).mono ?_);(case side1=> repeat (first|exact (Kd.C_below HR0_0.out HB.out)|(with_reducible refine Kd.C_alloc ?_ _)|(with_reducible refine Kd.C_drewN ?_ _)|(with_reducible refine Kd.C_drew ?_)));(case side2=> exact HC0_0.out);(case side3=> repeat (first|exact (Kd.C_below HR1_0.out HB.out)|(with_reducible refine Kd.C_alloc ?_ _)|(with_reducible refine Kd.C_drewN ?_ _)|(with_reducible refine Kd.C_drew ?_)));(case side4=> exact HC1_0.out);rintro e w13 ⟨rfl,hb⟩;refine ⟨_,rfl,?_⟩;have n0_:=Aside0.mk (blk_below (g:=gb167) (o:= .cells #[.slice A0_0 l0_0.length c0_0,.int .i64 a0_1,.string a0_2,.int .i64 a0_3] 36 (0,0)) (by (with_reducible repeat (first|apply bN|apply bd|apply bA));exact BK167.out) hb);have n1_:=Aside0.mk (blk_below (g:=gb168) (o:= .cells #[.slice A1_0 l1_0.length c1_0,.int .i64 a1_1,.string a1_2,.int .i64 a1_3] 36 (0,0)) (by (with_reducible repeat (first|apply bN|apply bd|apply bA));exact BK168.out) hb);have n2_:=Aside0.mk (below_step (by repeat (first|(with_reducible first|exact HB.out|apply bwA|apply bwN|apply bwD|refine bwS ?_ GE167.out|refine bwS ?_ GE168.out)|exact HB.out)) hb);clear BK167;clear BK168;clear HB;have BK167:=n0_;have BK168:=n1_;have HB:=n2_;clear n0_ n1_ n2_;(try clear hb);(try clear hb2);(try clear hk);(try clear hi);have hcz14_0:w13.cell? ⟨gb167,0,none⟩=some (.slice A0_0 l0_0.length c0_0):=(blk_cell BK167.out 0).trans rfl;have hcz14_1:w13.cell? ⟨gb167,1,none⟩=some (.int .i64 a0_1):=(blk_cell BK167.out 1).trans rfl;have hcz14_2:w13.cell? ⟨gb167,2,none⟩=some (.string a0_2):=(blk_cell BK167.out 2).trans rfl;have hcz14_3:w13.cell? ⟨gb167,3,none⟩=some (.int .i64 a0_3):=(blk_cell BK167.out 3).trans rfl;have hfz14_0:=blk_frozen BK167.out 0;have hfz14_1:=blk_frozen BK167.out 1;have hfz14_2:=blk_frozen BK167.out 2;have hfz14_3:=blk_frozen BK167.out 3;have hcz15_0:w13.cell? ⟨gb168,0,none⟩=some (.slice A1_0 l1_0.length c1_0):=(blk_cell BK168.out 0).trans rfl;have hcz15_1:w13.cell? ⟨gb168,1,none⟩=some (.int .i64 a1_1):=(blk_cell BK168.out 1).trans rfl;have hcz15_2:w13.cell? ⟨gb168,2,none⟩=some (.string a1_2):=(blk_cell BK168.out 2).trans rfl;have hcz15_3:w13.cell? ⟨gb168,3,none⟩=some (.int .i64 a1_3):=(blk_cell BK168.out 3).trans rfl;have hfz15_0:=blk_frozen BK168.out 0;have hfz15_1:=blk_frozen BK168.out 1;have hfz15_2:=blk_frozen BK168.out 2;have hfz15_3:=blk_frozen BK168.out 3))
          go_ret
          exact ⟨by first|rfl|(simp [errW_none,errW_some] <;> rfl)|(simp [*,errW_none,errW_some] <;> rfl),by repeat (first|(with_reducible first|exact HB.out|apply bwA|apply bwN|apply bwD|refine bwS ?_ GE167.out|refine bwS ?_ GE168.out)|exact HB.out)⟩
        · rw [if_neg c7] at H
          have c7b0:(a0_3==a1_3)=false:=beq_eq_false_iff_ne.mpr c7
          have c7b1:(a0_3 !=a1_3)=true:=bne_iff_ne.mpr c7
          obtain rfl:=Option.some.inj H
          go_enter Try.func36,Try.ntmps36
          go_wp2_with (first|((with_reducible refine gate_dst (N:=2) rfl ?_);refine box_event ?hg (N:=2) ?hd (cs:= #[.slice A0_0 l0_0.length c0_0,.int .i64 a0_1,.string a0_2,.int .i64 a0_3]) (t:=36) ?hr ?_;(case hd=> rfl);(case hg=> rfl);(case hr=> first|(go_simp;done)|(go_simp;rfl));intro gb167 hg w16 hbox hb;have n0_:=Aside0.mk (below_step (by repeat (first|(with_reducible first|exact HB.out|apply bwA|apply bwN|apply bwD)|exact HB.out)) hb);have n1_:=Aside0.mk (hbox);have n2_:=Aside0.mk ((by rw [hg];exact (below_size (by repeat (first|(with_reducible first|exact HB.out|apply bwA|apply bwN|apply bwD)|exact HB.out))):w.heap.size ≤ gb167));have n3_:=Aside0.mk ((by rw [hg];exact (below_size (by repeat (first|(with_reducible first|exact HB.out|apply bwA|apply bwN|apply bwD)|exact HB.out))):w.heap.size ≤ gb167));clear HB;have HB:=n0_;have BK167:=n1_;have GW167:=n2_;have GE167:=n3_;clear n0_ n1_ n2_ n3_;clear hb hbox hg)|((with_reducible refine gate_dst (N:=3) rfl ?_);refine box_event ?hg (N:=3) ?hd (cs:= #[.slice A1_0 l1_0.length c1_0,.int .i64 a1_1,.string a1_2,.int .i64 a1_3]) (t:=36) ?hr ?_;(case hd=> rfl);(case hg=> rfl);(case hr=> first|(go_simp;done)|(go_simp;rfl));intro gb168 hg w17 hbox hb;have n0_:=Aside0.mk (blk_below (g:=gb167) (o:= .cells #[.slice A0_0 l0_0.length c0_0,.int .i64 a0_1,.string a0_2,.int .i64 a0_3] 36 (0,0)) (by (with_reducible repeat (first|apply bN|apply bd|apply bA));exact BK167.out) hb);have n1_:=Aside0.mk (below_step (by repeat (first|(with_reducible first|exact HB.out|apply bwA|apply bwN|apply bwD|refine bwS ?_ GE167.out)|exact HB.out)) hb);have n2_:=Aside0.mk (hbox);have n3_:=Aside0.mk ((by rw [hg];exact (below_size (by repeat (first|(with_reducible first|exact HB.out|apply bwA|apply bwN|apply bwD|refine bwS ?_ GE167.out)|exact HB.out))):w.heap.size ≤ gb168));have n4_:=Aside0.mk ((by rw [hg];exact (below_size (by repeat (first|(with_reducible first|exact HB.out|apply bwA|apply bwN|apply bwD|refine bwS ?_ GE167.out)|exact HB.out))):w.heap.size ≤ gb168));have n5_:=Aside0.mk ((by rw [hg];exact Nat.ne_of_lt (blk_lt (g:=gb167) (o:= .cells #[.slice A0_0 l0_0.length c0_0,.int .i64 a0_1,.string a0_2,.int .i64 a0_3] 36 (0,0)) (by (with_reducible repeat (first|apply bN|apply bd|apply bA));exact BK167.out)):gb167 ≠ gb168));have n6_:=Aside0.mk ((by rw [hg];exact Nat.ne_of_gt (blk_lt (g:=gb167) (o:= .cells #[.slice A0_0 l0_0.length c0_0,.int .i64 a0_1,.string a0_2,.int .i64 a0_3] 36 (0,0)) (by (with_reducible repeat (first|apply bN|apply bd|apply bA));exact BK167.out)):gb168 ≠ gb167));clear BK167;clear HB;have BK167:=n0_;have HB:=n1_;have BK168:=n2_;have GW168:=n3_;have GE168:=n4_;have NB167_168:=n5_;have NB168_167:=n6_;clear n0_ n1_ n2_ n3_ n4_ n5_ n6_;clear hb hbox hg;have hnb18:=NB167_168.out;have hnc18:=NB168_167.out;have hcz19_0:w17.cell? ⟨gb167,0,none⟩=some (.slice A0_0 l0_0.length c0_0):=(blk_cell BK167.out 0).trans rfl;have hcz19_1:w17.cell? ⟨gb167,1,none⟩=some (.int .i64 a0_1):=(blk_cell BK167.out 1).trans rfl;have hcz19_2:w17.cell? ⟨gb167,2,none⟩=some (.string a0_2):=(blk_cell BK167.out 2).trans rfl;have hcz19_3:w17.cell? ⟨gb167,3,none⟩=some (.int .i64 a0_3):=(blk_cell BK167.out 3).trans rfl;have hfz19_0:=blk_frozen BK167.out 0;have hfz19_1:=blk_frozen BK167.out 1;have hfz19_2:=blk_frozen BK167.out 2;have hfz19_3:=blk_frozen BK167.out 3;have hcz20_0:w17.cell? ⟨gb168,0,none⟩=some (.slice A1_0 l1_0.length c1_0):=(blk_cell BK168.out 0).trans rfl;have hcz20_1:w17.cell? ⟨gb168,1,none⟩=some (.int .i64 a1_1):=(blk_cell BK168.out 1).trans rfl;have hcz20_2:w17.cell? ⟨gb168,2,none⟩=some (.string a1_2):=(blk_cell BK168.out 2).trans rfl;have hcz20_3:w17.cell? ⟨gb168,3,none⟩=some (.int .i64 a1_3):=(blk_cell BK168.out 3).trans rfl;have hfz20_0:=blk_frozen BK168.out 0;have hfz20_1:=blk_frozen BK168.out 1;have hfz20_2:=blk_frozen BK168.out 2;have hfz20_3:=blk_frozen BK168.out 3)|((with_reducible refine gate_callee (f:=63) rfl ?_);refine goesL_ (some 9) rfl rfl Try.func63 (by kernel_rfl) rfl #[.slice A0_0 l0_0.length c0_0,.slice A1_0 l1_0.length c1_0] rfl (by (try simp only [List.map_toArray,List.map_cons,List.map_nil]);first|done|rfl|(simp only [List.length_drop,List.length_take];rfl)) ?_;(with_reducible refine (laws_eqExtS.calls k _ _ l0_0 _ _ l1_0 true _ ?side1 ?side2 ?side3 ?side4 A3.out).mono ?_);(case side1=> repeat (first|exact (Kd.C_below HR0_0.out HB.out)|(with_reducible refine Kd.C_alloc ?_ _)|(with_reducible refine Kd.C_drewN ?_ _)|(with_reducible refine Kd.C_drew ?_)));(case side2=> exact HC0_0.out);(case side3=> repeat (first|exact (Kd.C_below HR1_0.out HB.out)|(with_reducible refine Kd.C_alloc ?_ _)|(with_reducible refine Kd.C_drewN ?_ _)|(with_reducible refine Kd.C_drew ?_)));(case side4=> exact HC1_0.out);rintro e w21 ⟨rfl,hb⟩;refine ⟨_,rfl,?_⟩;have n0_:=Aside0.mk (blk_below (g:=gb167) (o:= .cells #[.slice A0_0 l0_0.length c0_0,.int .i64 a0_1,.string a0_2,.int .i64 a0_3] 36 (0,0)) (by (with_reducible repeat (first|apply bN|apply bd|apply bA));exact BK167.out) hb);have n1_:=Aside0.mk (blk_below (g:=gb168) (o:= .cells #[.slice A1_0 l1_0.length c1_0,.int .i64 a1_1,.string a1_2,.int .i64 a1_3] 36 (0,0)) (by (with_reducible repeat (first|apply bN|apply bd|apply bA));exact BK168.out) hb);have n2_:=Aside0.mk (below_step (by repeat (first|(with_reducible first|exact HB.out|apply bwA|apply bwN|apply bwD|refine bwS ?_ GE167.out|refine bwS ?_ GE168.out)|exact HB.out)) hb);clear BK167;clear BK168;clear HB;have BK167:=n0_;have BK168:=n1_;have HB:=n2_;clear n0_ n1_ n2_;(try clear hb);(try clear hb2);(try clear hk);(try clear hi);have hcz22_0:w21.cell? ⟨gb167,0,none⟩=some (.slice A0_0 l0_0.length c0_0):=(blk_cell BK167.out 0).trans rfl;have hcz22_1:w21.cell? ⟨gb167,1,none⟩=some (.int .i64 a0_1):=(blk_cell BK167.out 1).trans rfl;have hcz22_2:w21.cell? ⟨gb167,2,none⟩=some (.string a0_2):=(blk_cell BK167.out 2).trans rfl;have hcz22_3:w21.cell? ⟨gb167,3,none⟩=some (.int .i64 a0_3):=(blk_cell BK167.out 3).trans rfl;have hfz22_0:=blk_frozen BK167.out 0;have hfz22_1:=blk_frozen BK167.out 1;have hfz22_2:=blk_frozen BK167.out 2;have hfz22_3:=blk_frozen BK167.out 3;have hcz23_0:w21.cell? ⟨gb168,0,none⟩=some (.slice A1_0 l1_0.length c1_0):=(blk_cell BK168.out 0).trans rfl;have hcz23_1:w21.cell? ⟨gb168,1,none⟩=some (.int .i64 a1_1):=(blk_cell BK168.out 1).trans rfl;have hcz23_2:w21.cell? ⟨gb168,2,none⟩=some (.string a1_2):=(blk_cell BK168.out 2).trans rfl;have hcz23_3:w21.cell? ⟨gb168,3,none⟩=some (.int .i64 a1_3):=(blk_cell BK168.out 3).trans rfl;have hfz23_0:=blk_frozen BK168.out 0;have hfz23_1:=blk_frozen BK168.out 1;have hfz23_2:=blk_frozen BK168.out 2;have hfz23_3:=blk_frozen BK168.out 3))
          go_ret
          exact ⟨by first|rfl|(simp [errW_none,errW_some] <;> rfl)|(simp [*,errW_none,errW_some] <;> rfl),by repeat (first|(with_reducible first|exact HB.out|apply bwA|apply bwN|apply bwD|refine bwS ?_ GE167.out|refine bwS ?_ GE168.out)|exact HB.out)⟩
      · rw [if_neg c6] at H
        have c6b0:(a0_2.toList==a1_2.toList)=false:=beq_eq_false_iff_ne.mpr c6
        have c6b1:(a0_2.toList !=a1_2.toList)=true:=bne_iff_ne.mpr c6
        obtain rfl:=Option.some.inj H
        go_enter Try.func36,Try.ntmps36
        go_wp2_with (first|((with_reducible refine gate_dst (N:=2) rfl ?_);refine box_event ?hg (N:=2) ?hd (cs:= #[.slice A0_0 l0_0.length c0_0,.int .i64 a0_1,.string a0_2,.int .i64 a0_3]) (t:=36) ?hr ?_;(case hd=> rfl);(case hg=> rfl);(case hr=> first|(go_simp;done)|(go_simp;rfl));intro gb167 hg w24 hbox hb;have n0_:=Aside0.mk (below_step (by repeat (first|(with_reducible first|exact HB.out|apply bwA|apply bwN|apply bwD)|exact HB.out)) hb);have n1_:=Aside0.mk (hbox);have n2_:=Aside0.mk ((by rw [hg];exact (below_size (by repeat (first|(with_reducible first|exact HB.out|apply bwA|apply bwN|apply bwD)|exact HB.out))):w.heap.size ≤ gb167));have n3_:=Aside0.mk ((by rw [hg];exact (below_size (by repeat (first|(with_reducible first|exact HB.out|apply bwA|apply bwN|apply bwD)|exact HB.out))):w.heap.size ≤ gb167));clear HB;have HB:=n0_;have BK167:=n1_;have GW167:=n2_;have GE167:=n3_;clear n0_ n1_ n2_ n3_;clear hb hbox hg)|((with_reducible refine gate_dst (N:=3) rfl ?_);refine box_event ?hg (N:=3) ?hd (cs:= #[.slice A1_0 l1_0.length c1_0,.int .i64 a1_1,.string a1_2,.int .i64 a1_3]) (t:=36) ?hr ?_;(case hd=> rfl);(case hg=> rfl);(case hr=> first|(go_simp;done)|(go_simp;rfl));intro gb168 hg w25 hbox hb;have n0_:=Aside0.mk (blk_below (g:=gb167) (o:= .cells #[.slice A0_0 l0_0.length c0_0,.int .i64 a0_1,.string a0_2,.int .i64 a0_3] 36 (0,0)) (by (with_reducible repeat (first|apply bN|apply bd|apply bA));exact BK167.out) hb);have n1_:=Aside0.mk (below_step (by repeat (first|(with_reducible first|exact HB.out|apply bwA|apply bwN|apply bwD|refine bwS ?_ GE167.out)|exact HB.out)) hb);have n2_:=Aside0.mk (hbox);have n3_:=Aside0.mk ((by rw [hg];exact (below_size (by repeat (first|(with_reducible first|exact HB.out|apply bwA|apply bwN|apply bwD|refine bwS ?_ GE167.out)|exact HB.out))):w.heap.size ≤ gb168));have n4_:=Aside0.mk ((by rw [hg];exact (below_size (by repeat (first|(with_reducible first|exact HB.out|apply bwA|apply bwN|apply bwD|refine bwS ?_ GE167.out)|exact HB.out))):w.heap.size ≤ gb168));have n5_:=Aside0.mk ((by rw [hg];exact Nat.ne_of_lt (blk_lt (g:=gb167) (o:= .cells #[.slice A0_0 l0_0.length c0_0,.int .i64 a0_1,.string a0_2,.int .i64 a0_3] 36 (0,0)) (by (with_reducible repeat (first|apply bN|apply bd|apply bA));exact BK167.out)):gb167 ≠ gb168));have n6_:=Aside0.mk ((by rw [hg];exact Nat.ne_of_gt (blk_lt (g:=gb167) (o:= .cells #[.slice A0_0 l0_0.length c0_0,.int .i64 a0_1,.string a0_2,.int .i64 a0_3] 36 (0,0)) (by (with_reducible repeat (first|apply bN|apply bd|apply bA));exact BK167.out)):gb168 ≠ gb167));clear BK167;clear HB;have BK167:=n0_;have HB:=n1_;have BK168:=n2_;have GW168:=n3_;have GE168:=n4_;have NB167_168:=n5_;have NB168_167:=n6_;clear n0_ n1_ n2_ n3_ n4_ n5_ n6_;clear hb hbox hg;have hnb26:=NB167_168.out;have hnc26:=NB168_167.out;have hcz27_0:w25.cell? ⟨gb167,0,none⟩=some (.slice A0_0 l0_0.length c0_0):=(blk_cell BK167.out 0).trans rfl;have hcz27_1:w25.cell? ⟨gb167,1,none⟩=some (.int .i64 a0_1):=(blk_cell BK167.out 1).trans rfl;have hcz27_2:w25.cell? ⟨gb167,2,none⟩=some (.string a0_2):=(blk_cell BK167.out 2).trans rfl;have hcz27_3:w25.cell? ⟨gb167,3,none⟩=some (.int .i64 a0_3):=(blk_cell BK167.out 3).trans rfl;have hfz27_0:=blk_frozen BK167.out 0;have hfz27_1:=blk_frozen BK167.out 1;have hfz27_2:=blk_frozen BK167.out 2;have hfz27_3:=blk_frozen BK167.out 3;have hcz28_0:w25.cell? ⟨gb168,0,none⟩=some (.slice A1_0 l1_0.length c1_0):=(blk_cell BK168.out 0).trans rfl;have hcz28_1:w25.cell? ⟨gb168,1,none⟩=some (.int .i64 a1_1):=(blk_cell BK168.out 1).trans rfl;have hcz28_2:w25.cell? ⟨gb168,2,none⟩=some (.string a1_2):=(blk_cell BK168.out 2).trans rfl;have hcz28_3:w25.cell? ⟨gb168,3,none⟩=some (.int .i64 a1_3):=(blk_cell BK168.out 3).trans rfl;have hfz28_0:=blk_frozen BK168.out 0;have hfz28_1:=blk_frozen BK168.out 1;have hfz28_2:=blk_frozen BK168.out 2;have hfz28_3:=blk_frozen BK168.out 3)|((with_reducible refine gate_callee (f:=63) rfl ?_);refine goesL_ (some 9) rfl rfl Try.func63 (by kernel_rfl) rfl #[.slice A0_0 l0_0.length c0_0,.slice A1_0 l1_0.length c1_0] rfl (by (try simp only [List.map_toArray,List.map_cons,List.map_nil]);first|done|rfl|(simp only [List.length_drop,List.length_take];rfl)) ?_;(with_reducible refine (laws_eqExtS.calls k _ _ l0_0 _ _ l1_0 true _ ?side1 ?side2 ?side3 ?side4 A3.out).mono ?_);(case side1=> repeat (first|exact (Kd.C_below HR0_0.out HB.out)|(with_reducible refine Kd.C_alloc ?_ _)|(with_reducible refine Kd.C_drewN ?_ _)|(with_reducible refine Kd.C_drew ?_)));(case side2=> exact HC0_0.out);(case side3=> repeat (first|exact (Kd.C_below HR1_0.out HB.out)|(with_reducible refine Kd.C_alloc ?_ _)|(with_reducible refine Kd.C_drewN ?_ _)|(with_reducible refine Kd.C_drew ?_)));(case side4=> exact HC1_0.out);rintro e w29 ⟨rfl,hb⟩;refine ⟨_,rfl,?_⟩;have n0_:=Aside0.mk (blk_below (g:=gb167) (o:= .cells #[.slice A0_0 l0_0.length c0_0,.int .i64 a0_1,.string a0_2,.int .i64 a0_3] 36 (0,0)) (by (with_reducible repeat (first|apply bN|apply bd|apply bA));exact BK167.out) hb);have n1_:=Aside0.mk (blk_below (g:=gb168) (o:= .cells #[.slice A1_0 l1_0.length c1_0,.int .i64 a1_1,.string a1_2,.int .i64 a1_3] 36 (0,0)) (by (with_reducible repeat (first|apply bN|apply bd|apply bA));exact BK168.out) hb);have n2_:=Aside0.mk (below_step (by repeat (first|(with_reducible first|exact HB.out|apply bwA|apply bwN|apply bwD|refine bwS ?_ GE167.out|refine bwS ?_ GE168.out)|exact HB.out)) hb);clear BK167;clear BK168;clear HB;have BK167:=n0_;have BK168:=n1_;have HB:=n2_;clear n0_ n1_ n2_;(try clear hb);(try clear hb2);(try clear hk);(try clear hi);have hcz30_0:w29.cell? ⟨gb167,0,none⟩=some (.slice A0_0 l0_0.length c0_0):=(blk_cell BK167.out 0).trans rfl;have hcz30_1:w29.cell? ⟨gb167,1,none⟩=some (.int .i64 a0_1):=(blk_cell BK167.out 1).trans rfl;have hcz30_2:w29.cell? ⟨gb167,2,none⟩=some (.string a0_2):=(blk_cell BK167.out 2).trans rfl;have hcz30_3:w29.cell? ⟨gb167,3,none⟩=some (.int .i64 a0_3):=(blk_cell BK167.out 3).trans rfl;have hfz30_0:=blk_frozen BK167.out 0;have hfz30_1:=blk_frozen BK167.out 1;have hfz30_2:=blk_frozen BK167.out 2;have hfz30_3:=blk_frozen BK167.out 3;have hcz31_0:w29.cell? ⟨gb168,0,none⟩=some (.slice A1_0 l1_0.length c1_0):=(blk_cell BK168.out 0).trans rfl;have hcz31_1:w29.cell? ⟨gb168,1,none⟩=some (.int .i64 a1_1):=(blk_cell BK168.out 1).trans rfl;have hcz31_2:w29.cell? ⟨gb168,2,none⟩=some (.string a1_2):=(blk_cell BK168.out 2).trans rfl;have hcz31_3:w29.cell? ⟨gb168,3,none⟩=some (.int .i64 a1_3):=(blk_cell BK168.out 3).trans rfl;have hfz31_0:=blk_frozen BK168.out 0;have hfz31_1:=blk_frozen BK168.out 1;have hfz31_2:=blk_frozen BK168.out 2;have hfz31_3:=blk_frozen BK168.out 3))
        go_ret
        exact ⟨by first|rfl|(simp [errW_none,errW_some] <;> rfl)|(simp [*,errW_none,errW_some] <;> rfl),by repeat (first|(with_reducible first|exact HB.out|apply bwA|apply bwN|apply bwD|refine bwS ?_ GE167.out|refine bwS ?_ GE168.out)|exact HB.out)⟩
    · rw [if_neg c5] at H
      have c5b0:(a0_1==a1_1)=false:=beq_eq_false_iff_ne.mpr c5
      have c5b1:(a0_1 !=a1_1)=true:=bne_iff_ne.mpr c5
      obtain rfl:=Option.some.inj H
      go_enter Try.func36,Try.ntmps36
      go_wp2_with (first|((with_reducible refine gate_dst (N:=2) rfl ?_);refine box_event ?hg (N:=2) ?hd (cs:= #[.slice A0_0 l0_0.length c0_0,.int .i64 a0_1,.string a0_2,.int .i64 a0_3]) (t:=36) ?hr ?_;(case hd=> rfl);(case hg=> rfl);(case hr=> first|(go_simp;done)|(go_simp;rfl));intro gb167 hg w32 hbox hb;have n0_:=Aside0.mk (below_step (by repeat (first|(with_reducible first|exact HB.out|apply bwA|apply bwN|apply bwD)|exact HB.out)) hb);have n1_:=Aside0.mk (hbox);have n2_:=Aside0.mk ((by rw [hg];exact (below_size (by repeat (first|(with_reducible first|exact HB.out|apply bwA|apply bwN|apply bwD)|exact HB.out))):w.heap.size ≤ gb167));have n3_:=Aside0.mk ((by rw [hg];exact (below_size (by repeat (first|(with_reducible first|exact HB.out|apply bwA|apply bwN|apply bwD)|exact HB.out))):w.heap.size ≤ gb167));clear HB;have HB:=n0_;have BK167:=n1_;have GW167:=n2_;have GE167:=n3_;clear n0_ n1_ n2_ n3_;clear hb hbox hg)|((with_reducible refine gate_dst (N:=3) rfl ?_);refine box_event ?hg (N:=3) ?hd (cs:= #[.slice A1_0 l1_0.length c1_0,.int .i64 a1_1,.string a1_2,.int .i64 a1_3]) (t:=36) ?hr ?_;(case hd=> rfl);(case hg=> rfl);(case hr=> first|(go_simp;done)|(go_simp;rfl));intro gb168 hg w33 hbox hb;have n0_:=Aside0.mk (blk_below (g:=gb167) (o:= .cells #[.slice A0_0 l0_0.length c0_0,.int .i64 a0_1,.string a0_2,.int .i64 a0_3] 36 (0,0)) (by (with_reducible repeat (first|apply bN|apply bd|apply bA));exact BK167.out) hb);have n1_:=Aside0.mk (below_step (by repeat (first|(with_reducible first|exact HB.out|apply bwA|apply bwN|apply bwD|refine bwS ?_ GE167.out)|exact HB.out)) hb);have n2_:=Aside0.mk (hbox);have n3_:=Aside0.mk ((by rw [hg];exact (below_size (by repeat (first|(with_reducible first|exact HB.out|apply bwA|apply bwN|apply bwD|refine bwS ?_ GE167.out)|exact HB.out))):w.heap.size ≤ gb168));have n4_:=Aside0.mk ((by rw [hg];exact (below_size (by repeat (first|(with_reducible first|exact HB.out|apply bwA|apply bwN|apply bwD|refine bwS ?_ GE167.out)|exact HB.out))):w.heap.size ≤ gb168));have n5_:=Aside0.mk ((by rw [hg];exact Nat.ne_of_lt (blk_lt (g:=gb167) (o:= .cells #[.slice A0_0 l0_0.length c0_0,.int .i64 a0_1,.string a0_2,.int .i64 a0_3] 36 (0,0)) (by (with_reducible repeat (first|apply bN|apply bd|apply bA));exact BK167.out)):gb167 ≠ gb168));have n6_:=Aside0.mk ((by rw [hg];exact Nat.ne_of_gt (blk_lt (g:=gb167) (o:= .cells #[.slice A0_0 l0_0.length c0_0,.int .i64 a0_1,.string a0_2,.int .i64 a0_3] 36 (0,0)) (by (with_reducible repeat (first|apply bN|apply bd|apply bA));exact BK167.out)):gb168 ≠ gb167));clear BK167;clear HB;have BK167:=n0_;have HB:=n1_;have BK168:=n2_;have GW168:=n3_;have GE168:=n4_;have NB167_168:=n5_;have NB168_167:=n6_;clear n0_ n1_ n2_ n3_ n4_ n5_ n6_;clear hb hbox hg;have hnb34:=NB167_168.out;have hnc34:=NB168_167.out;have hcz35_0:w33.cell? ⟨gb167,0,none⟩=some (.slice A0_0 l0_0.length c0_0):=(blk_cell BK167.out 0).trans rfl;have hcz35_1:w33.cell? ⟨gb167,1,none⟩=some (.int .i64 a0_1):=(blk_cell BK167.out 1).trans rfl;have hcz35_2:w33.cell? ⟨gb167,2,none⟩=some (.string a0_2):=(blk_cell BK167.out 2).trans rfl;have hcz35_3:w33.cell? ⟨gb167,3,none⟩=some (.int .i64 a0_3):=(blk_cell BK167.out 3).trans rfl;have hfz35_0:=blk_frozen BK167.out 0;have hfz35_1:=blk_frozen BK167.out 1;have hfz35_2:=blk_frozen BK167.out 2;have hfz35_3:=blk_frozen BK167.out 3;have hcz36_0:w33.cell? ⟨gb168,0,none⟩=some (.slice A1_0 l1_0.length c1_0):=(blk_cell BK168.out 0).trans rfl;have hcz36_1:w33.cell? ⟨gb168,1,none⟩=some (.int .i64 a1_1):=(blk_cell BK168.out 1).trans rfl;have hcz36_2:w33.cell? ⟨gb168,2,none⟩=some (.string a1_2):=(blk_cell BK168.out 2).trans rfl;have hcz36_3:w33.cell? ⟨gb168,3,none⟩=some (.int .i64 a1_3):=(blk_cell BK168.out 3).trans rfl;have hfz36_0:=blk_frozen BK168.out 0;have hfz36_1:=blk_frozen BK168.out 1;have hfz36_2:=blk_frozen BK168.out 2;have hfz36_3:=blk_frozen BK168.out 3)|((with_reducible refine gate_callee (f:=63) rfl ?_);refine goesL_ (some 9) rfl rfl Try.func63 (by kernel_rfl) rfl #[.slice A0_0 l0_0.length c0_0,.slice A1_0 l1_0.length c1_0] rfl (by (try simp only [List.map_toArray,List.map_cons,List.map_nil]);first|done|rfl|(simp only [List.length_drop,List.length_take];rfl)) ?_;(with_reducible refine (laws_eqExtS.calls k _ _ l0_0 _ _ l1_0 true _ ?side1 ?side2 ?side3 ?side4 A3.out).mono ?_);(case side1=> repeat (first|exact (Kd.C_below HR0_0.out HB.out)|(with_reducible refine Kd.C_alloc ?_ _)|(with_reducible refine Kd.C_drewN ?_ _)|(with_reducible refine Kd.C_drew ?_)));(case side2=> exact HC0_0.out);(case side3=> repeat (first|exact (Kd.C_below HR1_0.out HB.out)|(with_reducible refine Kd.C_alloc ?_ _)|(with_reducible refine Kd.C_drewN ?_ _)|(with_reducible refine Kd.C_drew ?_)));(case side4=> exact HC1_0.out);rintro e w37 ⟨rfl,hb⟩;refine ⟨_,rfl,?_⟩;have n0_:=Aside0.mk (blk_below (g:=gb167) (o:= .cells #[.slice A0_0 l0_0.length c0_0,.int .i64 a0_1,.string a0_2,.int .i64 a0_3] 36 (0,0)) (by (with_reducible repeat (first|apply bN|apply bd|apply bA));exact BK167.out) hb);have n1_:=Aside0.mk (blk_below (g:=gb168) (o:= .cells #[.slice A1_0 l1_0.length c1_0,.int .i64 a1_1,.string a1_2,.int .i64 a1_3] 36 (0,0)) (by (with_reducible repeat (first|apply bN|apply bd|apply bA));exact BK168.out) hb);have n2_:=Aside0.mk (below_step (by repeat (first|(with_reducible first|exact HB.out|apply bwA|apply bwN|apply bwD|refine bwS ?_ GE167.out|refine bwS ?_ GE168.out)|exact HB.out)) hb);clear BK167;clear BK168;clear HB;have BK167:=n0_;have BK168:=n1_;have HB:=n2_;clear n0_ n1_ n2_;(try clear hb);(try clear hb2);(try clear hk);(try clear hi);have hcz38_0:w37.cell? ⟨gb167,0,none⟩=some (.slice A0_0 l0_0.length c0_0):=(blk_cell BK167.out 0).trans rfl;have hcz38_1:w37.cell? ⟨gb167,1,none⟩=some (.int .i64 a0_1):=(blk_cell BK167.out 1).trans rfl;have hcz38_2:w37.cell? ⟨gb167,2,none⟩=some (.string a0_2):=(blk_cell BK167.out 2).trans rfl;have hcz38_3:w37.cell? ⟨gb167,3,none⟩=some (.int .i64 a0_3):=(blk_cell BK167.out 3).trans rfl;have hfz38_0:=blk_frozen BK167.out 0;have hfz38_1:=blk_frozen BK167.out 1;have hfz38_2:=blk_frozen BK167.out 2;have hfz38_3:=blk_frozen BK167.out 3;have hcz39_0:w37.cell? ⟨gb168,0,none⟩=some (.slice A1_0 l1_0.length c1_0):=(blk_cell BK168.out 0).trans rfl;have hcz39_1:w37.cell? ⟨gb168,1,none⟩=some (.int .i64 a1_1):=(blk_cell BK168.out 1).trans rfl;have hcz39_2:w37.cell? ⟨gb168,2,none⟩=some (.string a1_2):=(blk_cell BK168.out 2).trans rfl;have hcz39_3:w37.cell? ⟨gb168,3,none⟩=some (.int .i64 a1_3):=(blk_cell BK168.out 3).trans rfl;have hfz39_0:=blk_frozen BK168.out 0;have hfz39_1:=blk_frozen BK168.out 1;have hfz39_2:=blk_frozen BK168.out 2;have hfz39_3:=blk_frozen BK168.out 3))
      go_ret
      exact ⟨by first|rfl|(simp [errW_none,errW_some] <;> rfl)|(simp [*,errW_none,errW_some] <;> rfl),by repeat (first|(with_reducible first|exact HB.out|apply bwA|apply bwN|apply bwD|refine bwS ?_ GE167.out|refine bwS ?_ GE168.out)|exact HB.out)⟩
  · replace c4:=Bool.eq_false_iff.mpr c4
    subst c4
    have H1:(some false)=some r:=by rw [if_neg (show ¬ (false=true) by decide)] at H;exact H
    clear H
    have H:=H1
    clear H1
    obtain rfl:=Option.some.inj H
    go_enter Try.func36,Try.ntmps36
    go_wp2_with (first|((with_reducible refine gate_dst (N:=2) rfl ?_);refine box_event ?hg (N:=2) ?hd (cs:= #[.slice A0_0 l0_0.length c0_0,.int .i64 a0_1,.string a0_2,.int .i64 a0_3]) (t:=36) ?hr ?_;(case hd=> rfl);(case hg=> rfl);(case hr=> first|(go_simp;done)|(go_simp;rfl));intro gb167 hg w40 hbox hb;have n0_:=Aside0.mk (below_step (by repeat (first|(with_reducible first|exact HB.out|apply bwA|apply bwN|apply bwD)|exact HB.out)) hb);have n1_:=Aside0.mk (hbox);have n2_:=Aside0.mk ((by rw [hg];exact (below_size (by repeat (first|(with_reducible first|exact HB.out|apply bwA|apply bwN|apply bwD)|exact HB.out))):w.heap.size ≤ gb167));have n3_:=Aside0.mk ((by rw [hg];exact (below_size (by repeat (first|(with_reducible first|exact HB.out|apply bwA|apply bwN|apply bwD)|exact HB.out))):w.heap.size ≤ gb167));clear HB;have HB:=n0_;have BK167:=n1_;have GW167:=n2_;have GE167:=n3_;clear n0_ n1_ n2_ n3_;clear hb hbox hg)|((with_reducible refine gate_dst (N:=3) rfl ?_);refine box_event ?hg (N:=3) ?hd (cs:= #[.slice A1_0 l1_0.length c1_0,.int .i64 a1_1,.string a1_2,.int .i64 a1_3]) (t:=36) ?hr ?_;(case hd=> rfl);(case hg=> rfl);(case hr=> first|(go_simp;done)|(go_simp;rfl));intro gb168 hg w41 hbox hb;have n0_:=Aside0.mk (blk_below (g:=gb167) (o:= .cells #[.slice A0_0 l0_0.length c0_0,.int .i64 a0_1,.string a0_2,.int .i64 a0_3] 36 (0,0)) (by (with_reducible repeat (first|apply bN|apply bd|apply bA));exact BK167.out) hb);have n1_:=Aside0.mk (below_step (by repeat (first|(with_reducible first|exact HB.out|apply bwA|apply bwN|apply bwD|refine bwS ?_ GE167.out)|exact HB.out)) hb);have n2_:=Aside0.mk (hbox);have n3_:=Aside0.mk ((by rw [hg];exact (below_size (by repeat (first|(with_reducible first|exact HB.out|apply bwA|apply bwN|apply bwD|refine bwS ?_ GE167.out)|exact HB.out))):w.heap.size ≤ gb168));have n4_:=Aside0.mk ((by rw [hg];exact (below_size (by repeat (first|(with_reducible first|exact HB.out|apply bwA|apply bwN|apply bwD|refine bwS ?_ GE167.out)|exact HB.out))):w.heap.size ≤ gb168));have n5_:=Aside0.mk ((by rw [hg];exact Nat.ne_of_lt (blk_lt (g:=gb167) (o:= .cells #[.slice A0_0 l0_0.length c0_0,.int .i64 a0_1,.string a0_2,.int .i64 a0_3] 36 (0,0)) (by (with_reducible repeat (first|apply bN|apply bd|apply bA));exact BK167.out)):gb167 ≠ gb168));have n6_:=Aside0.mk ((by rw [hg];exact Nat.ne_of_gt (blk_lt (g:=gb167) (o:= .cells #[.slice A0_0 l0_0.length c0_0,.int .i64 a0_1,.string a0_2,.int .i64 a0_3] 36 (0,0)) (by (with_reducible repeat (first|apply bN|apply bd|apply bA));exact BK167.out)):gb168 ≠ gb167));clear BK167;clear HB;have BK167:=n0_;have HB:=n1_;have BK168:=n2_;have GW168:=n3_;have GE168:=n4_;have NB167_168:=n5_;have NB168_167:=n6_;clear n0_ n1_ n2_ n3_ n4_ n5_ n6_;clear hb hbox hg;have hnb42:=NB167_168.out;have hnc42:=NB168_167.out;have hcz43_0:w41.cell? ⟨gb167,0,none⟩=some (.slice A0_0 l0_0.length c0_0):=(blk_cell BK167.out 0).trans rfl;have hcz43_1:w41.cell? ⟨gb167,1,none⟩=some (.int .i64 a0_1):=(blk_cell BK167.out 1).trans rfl;have hcz43_2:w41.cell? ⟨gb167,2,none⟩=some (.string a0_2):=(blk_cell BK167.out 2).trans rfl;have hcz43_3:w41.cell? ⟨gb167,3,none⟩=some (.int .i64 a0_3):=(blk_cell BK167.out 3).trans rfl;have hfz43_0:=blk_frozen BK167.out 0;have hfz43_1:=blk_frozen BK167.out 1;have hfz43_2:=blk_frozen BK167.out 2;have hfz43_3:=blk_frozen BK167.out 3;have hcz44_0:w41.cell? ⟨gb168,0,none⟩=some (.slice A1_0 l1_0.length c1_0):=(blk_cell BK168.out 0).trans rfl;have hcz44_1:w41.cell? ⟨gb168,1,none⟩=some (.int .i64 a1_1):=(blk_cell BK168.out 1).trans rfl;have hcz44_2:w41.cell? ⟨gb168,2,none⟩=some (.string a1_2):=(blk_cell BK168.out 2).trans rfl;have hcz44_3:w41.cell? ⟨gb168,3,none⟩=some (.int .i64 a1_3):=(blk_cell BK168.out 3).trans rfl;have hfz44_0:=blk_frozen BK168.out 0;have hfz44_1:=blk_frozen BK168.out 1;have hfz44_2:=blk_frozen BK168.out 2;have hfz44_3:=blk_frozen BK168.out 3)|((with_reducible refine gate_callee (f:=63) rfl ?_);refine goesL_ (some 9) rfl rfl Try.func63 (by kernel_rfl) rfl #[.slice A0_0 l0_0.length c0_0,.slice A1_0 l1_0.length c1_0] rfl (by (try simp only [List.map_toArray,List.map_cons,List.map_nil]);first|done|rfl|(simp only [List.length_drop,List.length_take];rfl)) ?_;(with_reducible refine (laws_eqExtS.calls k _ _ l0_0 _ _ l1_0 false _ ?side1 ?side2 ?side3 ?side4 A3.out).mono ?_);(case side1=> repeat (first|exact (Kd.C_below HR0_0.out HB.out)|(with_reducible refine Kd.C_alloc ?_ _)|(with_reducible refine Kd.C_drewN ?_ _)|(with_reducible refine Kd.C_drew ?_)));(case side2=> exact HC0_0.out);(case side3=> repeat (first|exact (Kd.C_below HR1_0.out HB.out)|(with_reducible refine Kd.C_alloc ?_ _)|(with_reducible refine Kd.C_drewN ?_ _)|(with_reducible refine Kd.C_drew ?_)));(case side4=> exact HC1_0.out);rintro e w45 ⟨rfl,hb⟩;refine ⟨_,rfl,?_⟩;have n0_:=Aside0.mk (blk_below (g:=gb167) (o:= .cells #[.slice A0_0 l0_0.length c0_0,.int .i64 a0_1,.string a0_2,.int .i64 a0_3] 36 (0,0)) (by (with_reducible repeat (first|apply bN|apply bd|apply bA));exact BK167.out) hb);have n1_:=Aside0.mk (blk_below (g:=gb168) (o:= .cells #[.slice A1_0 l1_0.length c1_0,.int .i64 a1_1,.string a1_2,.int .i64 a1_3] 36 (0,0)) (by (with_reducible repeat (first|apply bN|apply bd|apply bA));exact BK168.out) hb);have n2_:=Aside0.mk (below_step (by repeat (first|(with_reducible first|exact HB.out|apply bwA|apply bwN|apply bwD|refine bwS ?_ GE167.out|refine bwS ?_ GE168.out)|exact HB.out)) hb);clear BK167;clear BK168;clear HB;have BK167:=n0_;have BK168:=n1_;have HB:=n2_;clear n0_ n1_ n2_;(try clear hb);(try clear hb2);(try clear hk);(try clear hi)))
    go_ret
    exact ⟨by first|rfl|(simp [errW_none,errW_some] <;> rfl)|(simp [*,errW_none,errW_some] <;> rfl),by repeat (first|(with_reducible first|exact HB.out|apply bwA|apply bwN|apply bwD|refine bwS ?_ GE167.out|refine bwS ?_ GE168.out)|exact HB.out)⟩
def laws_heldIntS.l0:Nat → List Int → Int → Int → Option (Int)
  |0,_,_,_=> none
  |k + 1,x0,x1,x5=> if x5 < (x0.length:Int) then (if 0 ≤ x5 then (if (rd x0 x5)=x1 then (laws_heldIntS.l0 k x0 (wrap64 (x1 + 1)) (wrap64 (x5 + 1))) else (some (-1))) else (none)) else (some x1)
def laws_heldIntS.f (k:Nat) (l0:List Int) (a1:Int):Option (Int):=laws_heldIntS.l0 k l0 a1 0
theorem laws_heldIntS.mono_l:∀ k,(∀ y0 y1 y2,LeO (laws_heldIntS.l0 k y0 y1 y2) (laws_heldIntS.l0 (k + 1) y0 y1 y2))
  |0=> fun _ _ _ r h=> by simp [laws_heldIntS.l0] at h
  |k + 1=> by
    have ih0:=laws_heldIntS.mono_l k
    · intro y0 y1 y2
      unfold laws_heldIntS.l0
      repeat' first
      |(with_reducible exact ih0 _ _ _)
      |(with_reducible exact LeO.refl _)
      |(with_reducible exact LeO.none _)
      |(with_reducible refine LeO.ite ?_ ?_)
      |(with_reducible refine LeO.bind ?_ (fun _=> ?_))
      |exact ih0 _ _ _
      |exact LeO.none _
      |refine LeO.ite ?_ ?_
      |refine LeO.bind ?_ (fun _=> ?_)
theorem laws_heldIntS.mono:∀ a0 a1 k,LeO (laws_heldIntS.f k a0 a1) (laws_heldIntS.f (k + 1) a0 a1):=by
  intro a0 a1 k
  have ih0:=laws_heldIntS.mono_l k
  unfold laws_heldIntS.f
  repeat' first
      |(with_reducible exact ih0 _ _ _)
      |(with_reducible exact LeO.refl _)
      |(with_reducible exact LeO.none _)
      |(with_reducible refine LeO.ite ?_ ?_)
      |(with_reducible refine LeO.bind ?_ (fun _=> ?_))
      |exact ih0 _ _ _
      |exact LeO.none _
      |refine LeO.ite ?_ ?_
      |refine LeO.bind ?_ (fun _=> ?_)
set_option maxHeartbeats 8000000 in
set_option maxRecDepth 100000 in
theorem laws_heldIntS.calls (k:Nat) (A0:Option Addr) (c0:Nat) (l0:List Int) (a1:Int) (r:Int) (w:World) (hr0:Kd.C (Kd.int .i64) w A0 l0.length l0) (hc0:l0.length ≤ c0) (h:laws_heldIntS.f k l0 a1=some r):
    Calls Try.prog 79 #[.slice A0 l0.length c0,.int .i64 a1] w fun e w'=> e= .returned (.int .i64 r) ∧ Drawn0 w w':=by
  have HR0:=Aside0.mk hr0
  have HC0:=Aside0.mk hc0
  clear hr0 hc0
  have H:(laws_heldIntS.l0 k l0 a1 0)=some r:=h
  clear h
  have H':=Aside0.mk H
  clear H
  go_enter Try.func79,Try.ntmps79
  go_wp2
  go_loopg [1,5] k (fun kq v1 v5 w'=> ∃ (x1_1:Int) (x5_1:Int),v1= .int .i64 x1_1 ∧ v5= .int .i64 x5_1 ∧ Aside0 (laws_heldIntS.l0 kq l0 x1_1 x5_1=some r) ∧ Aside0 (kq ≤ k) ∧ Drawn0 w w')
  case atStart=> exact ⟨(a1),(0),(by first|rfl|(simp;done)|(simp [*];done)),(by first|rfl|(simp;done)|(simp [*];done)),H',⟨Nat.le_refl _⟩,by repeat (first|exact Drawn0.refl _|apply Drawn0.step)⟩
  case round=>
    clear H'
    try clear p2
    obtain ⟨x1_1,x5_1,rfl,rfl,HA,HK1,⟨m1,rfl⟩⟩:=hrel
    cases gk with
    |zero=> exact absurd HA.out (by simp [laws_heldIntS.l0])
    |succ k1=>
      have H:=HA.out
      clear HA
      simp only [laws_heldIntS.l0] at H
      by_cases c3:x5_1 < (l0.length:Int)
      · rw [if_pos c3] at H
        have c3b0:decide (x5_1 < (l0.length:Int))=true:=decide_eq_true c3
        clear c3
        by_cases c4:0 ≤ x5_1
        · rw [if_pos c4] at H
          have c4b0:decide (0 ≤ x5_1)=true:=decide_eq_true c4
          clear c4
          by_cases c5:(rd l0 x5_1)=x1_1
          · rw [if_pos c5] at H
            have c5b0:((rd l0 x5_1)==x1_1)=true:=beq_iff_eq.mpr c5
            have c5b1:((rd l0 x5_1) !=x1_1)=false:=bne_eq_false_iff_eq.mpr c5
            clear c5
            have H':=Aside0.mk H
            clear H
            have p977:0 ≤ (x5_1:Int):=of_decide_eq_true (by first|(with_reducible assumption)|assumption)
            have q977:x5_1 < (l0.length:Int):=of_decide_eq_true (by first|(with_reducible assumption)|assumption)
            obtain ⟨ad977,e977,hx977_0⟩:=Kd.at_int HR0.out x5_1 p977 q977
            cases e977
            replace p977:=eq_true p977
            replace q977:=eq_true q977
            go_wp2
            go_roundg k1
            case measure=> have:=HK1.out;omega
            case rel=> exact ⟨(wrap64 (x1_1 + 1)),(wrap64 (x5_1 + 1)),(by first|rfl|(simp;done)|(simp [*];done)),(by first|rfl|(simp;done)|(simp [*];done)),H',⟨by have:=HK1.out;omega⟩,by repeat (first|exact Drawn0.refl _|apply Drawn0.step)⟩
          · rw [if_neg c5] at H
            have c5b0:((rd l0 x5_1)==x1_1)=false:=beq_eq_false_iff_ne.mpr c5
            have c5b1:((rd l0 x5_1) !=x1_1)=true:=bne_iff_ne.mpr c5
            obtain rfl:=Option.some.inj H
            have p977:0 ≤ (x5_1:Int):=of_decide_eq_true (by first|(with_reducible assumption)|assumption)
            have q977:x5_1 < (l0.length:Int):=of_decide_eq_true (by first|(with_reducible assumption)|assumption)
            obtain ⟨ad977,e977,hx977_0⟩:=Kd.at_int HR0.out x5_1 p977 q977
            cases e977
            replace p977:=eq_true p977
            replace q977:=eq_true q977
            go_wp2
            go_ret
            exact ⟨by first|rfl|(simp;done)|(simp [*];done),by repeat (first|exact Drawn0.refl _|apply Drawn0.step)⟩
        · rw [if_neg c4] at H
          exact absurd H (by simp)
      · rw [if_neg c3] at H
        have c3b0:decide (x5_1 < (l0.length:Int))=false:=decide_eq_false c3
        clear c3
        obtain rfl:=Option.some.inj H
        go_wp2
        go_ret
        exact ⟨by first|rfl|(simp;done)|(simp [*];done),by repeat (first|exact Drawn0.refl _|apply Drawn0.step)⟩
def laws_heldExtS.l0:Nat → List (S79) → Int → Int → Option (Int)
  |0,_,_,_=> none
  |k + 1,x0,x1,x5=> if x5 < (x0.length:Int) then (if 0 ≤ x5 then (if ((rd_T79 x0 x5).f0)=x1 then (if ((rd_T79 x0 x5).f1)=(wrap64 (x1 + 1)) then (laws_heldExtS.l0 k x0 (wrap64 ((wrap64 (x1 + 1)) + 1)) (wrap64 (x5 + 1))) else (some (-1))) else (some (-1))) else (none)) else (some x1)
def laws_heldExtS.f (k:Nat) (l0:List (S79)) (a1:Int):Option (Int):=laws_heldExtS.l0 k l0 a1 0
theorem laws_heldExtS.mono_l:∀ k,(∀ y0 y1 y2,LeO (laws_heldExtS.l0 k y0 y1 y2) (laws_heldExtS.l0 (k + 1) y0 y1 y2))
  |0=> fun _ _ _ r h=> by simp [laws_heldExtS.l0] at h
  |k + 1=> by
    have ih0:=laws_heldExtS.mono_l k
    · intro y0 y1 y2
      unfold laws_heldExtS.l0
      repeat' first
      |(with_reducible exact ih0 _ _ _)
      |(with_reducible exact LeO.refl _)
      |(with_reducible exact LeO.none _)
      |(with_reducible refine LeO.ite ?_ ?_)
      |(with_reducible refine LeO.bind ?_ (fun _=> ?_))
      |exact ih0 _ _ _
      |exact LeO.none _
      |refine LeO.ite ?_ ?_
      |refine LeO.bind ?_ (fun _=> ?_)
theorem laws_heldExtS.mono:∀ a0 a1 k,LeO (laws_heldExtS.f k a0 a1) (laws_heldExtS.f (k + 1) a0 a1):=by
  intro a0 a1 k
  have ih0:=laws_heldExtS.mono_l k
  unfold laws_heldExtS.f
  repeat' first
      |(with_reducible exact ih0 _ _ _)
      |(with_reducible exact LeO.refl _)
      |(with_reducible exact LeO.none _)
      |(with_reducible refine LeO.ite ?_ ?_)
      |(with_reducible refine LeO.bind ?_ (fun _=> ?_))
      |exact ih0 _ _ _
      |exact LeO.none _
      |refine LeO.ite ?_ ?_
      |refine LeO.bind ?_ (fun _=> ?_)
set_option maxHeartbeats 8000000 in
set_option maxRecDepth 100000 in
theorem laws_heldExtS.calls (k:Nat) (A0:Option Addr) (c0:Nat) (l0:List (S79)) (a1:Int) (r:Int) (w:World) (hr0:Kd.C k79 w A0 l0.length l0) (hc0:l0.length ≤ c0) (h:laws_heldExtS.f k l0 a1=some r):
    Calls Try.prog 74 #[.slice A0 l0.length c0,.int .i64 a1] w fun e w'=> e= .returned (.int .i64 r) ∧ Drawn0 w w':=by
  have HR0:=Aside0.mk hr0
  have HC0:=Aside0.mk hc0
  clear hr0 hc0
  have H:(laws_heldExtS.l0 k l0 a1 0)=some r:=h
  clear h
  have H':=Aside0.mk H
  clear H
  go_enter Try.func74,Try.ntmps74
  go_wp2
  go_loopg [1,5] k (fun kq v1 v5 w'=> ∃ (x1_1:Int) (x5_1:Int),v1= .int .i64 x1_1 ∧ v5= .int .i64 x5_1 ∧ Aside0 (laws_heldExtS.l0 kq l0 x1_1 x5_1=some r) ∧ Aside0 (kq ≤ k) ∧ Drawn0 w w')
  case atStart=> exact ⟨(a1),(0),(by first|rfl|(simp;done)|(simp [*];done)),(by first|rfl|(simp;done)|(simp [*];done)),H',⟨Nat.le_refl _⟩,by repeat (first|exact Drawn0.refl _|apply Drawn0.step)⟩
  case round=>
    clear H'
    try clear p2
    obtain ⟨x1_1,x5_1,rfl,rfl,HA,HK1,⟨m1,rfl⟩⟩:=hrel
    cases gk with
    |zero=> exact absurd HA.out (by simp [laws_heldExtS.l0])
    |succ k1=>
      have H:=HA.out
      clear HA
      simp only [laws_heldExtS.l0] at H
      by_cases c3:x5_1 < (l0.length:Int)
      · rw [if_pos c3] at H
        have c3b0:decide (x5_1 < (l0.length:Int))=true:=decide_eq_true c3
        clear c3
        by_cases c4:0 ≤ x5_1
        · rw [if_pos c4] at H
          have c4b0:decide (0 ≤ x5_1)=true:=decide_eq_true c4
          clear c4
          by_cases c5:((rd_T79 l0 x5_1).f0)=x1_1
          · rw [if_pos c5] at H
            have c5b0:(((rd_T79 l0 x5_1).f0)==x1_1)=true:=beq_iff_eq.mpr c5
            have c5b1:(((rd_T79 l0 x5_1).f0) !=x1_1)=false:=bne_eq_false_iff_eq.mpr c5
            clear c5
            by_cases c6:((rd_T79 l0 x5_1).f1)=(wrap64 (x1_1 + 1))
            · rw [if_pos c6] at H
              have c6b0:(((rd_T79 l0 x5_1).f1)==(wrap64 (x1_1 + 1)))=true:=beq_iff_eq.mpr c6
              have c6b1:(((rd_T79 l0 x5_1).f1) !=(wrap64 (x1_1 + 1)))=false:=bne_eq_false_iff_eq.mpr c6
              clear c6
              have H':=Aside0.mk H
              clear H
              have p175:0 ≤ (x5_1:Int):=of_decide_eq_true (by first|(with_reducible assumption)|assumption)
              have q175:x5_1 < (l0.length:Int):=of_decide_eq_true (by first|(with_reducible assumption)|assumption)
              obtain ⟨ad175,e175,hx175_0,hx175_1⟩:=at_T79 HR0.out x5_1 p175 q175
              cases e175
              replace p175:=eq_true p175
              replace q175:=eq_true q175
              have p176:0 ≤ (x5_1:Int):=of_decide_eq_true (by first|(with_reducible assumption)|assumption)
              have q176:x5_1 < (l0.length:Int):=of_decide_eq_true (by first|(with_reducible assumption)|assumption)
              obtain ⟨ad176,e176,hx176_0,hx176_1⟩:=at_T79 HR0.out x5_1 p176 q176
              obtain rfl:ad175=ad176:=(by injection e176)
              replace p176:=eq_true p176
              replace q176:=eq_true q176
              go_wp2
              go_roundg k1
              case measure=> have:=HK1.out;omega
              case rel=> exact ⟨(wrap64 ((wrap64 (x1_1 + 1)) + 1)),(wrap64 (x5_1 + 1)),(by first|rfl|(simp;done)|(simp [*];done)),(by first|rfl|(simp;done)|(simp [*];done)),H',⟨by have:=HK1.out;omega⟩,by repeat (first|exact Drawn0.refl _|apply Drawn0.step)⟩
            · rw [if_neg c6] at H
              have c6b0:(((rd_T79 l0 x5_1).f1)==(wrap64 (x1_1 + 1)))=false:=beq_eq_false_iff_ne.mpr c6
              have c6b1:(((rd_T79 l0 x5_1).f1) !=(wrap64 (x1_1 + 1)))=true:=bne_iff_ne.mpr c6
              obtain rfl:=Option.some.inj H
              have p175:0 ≤ (x5_1:Int):=of_decide_eq_true (by first|(with_reducible assumption)|assumption)
              have q175:x5_1 < (l0.length:Int):=of_decide_eq_true (by first|(with_reducible assumption)|assumption)
              obtain ⟨ad175,e175,hx175_0,hx175_1⟩:=at_T79 HR0.out x5_1 p175 q175
              cases e175
              replace p175:=eq_true p175
              replace q175:=eq_true q175
              have p176:0 ≤ (x5_1:Int):=of_decide_eq_true (by first|(with_reducible assumption)|assumption)
              have q176:x5_1 < (l0.length:Int):=of_decide_eq_true (by first|(with_reducible assumption)|assumption)
              obtain ⟨ad176,e176,hx176_0,hx176_1⟩:=at_T79 HR0.out x5_1 p176 q176
              obtain rfl:ad175=ad176:=(by injection e176)
              replace p176:=eq_true p176
              replace q176:=eq_true q176
              go_wp2
              go_ret
              exact ⟨by first|rfl|(simp;done)|(simp [*];done),by repeat (first|exact Drawn0.refl _|apply Drawn0.step)⟩
          · rw [if_neg c5] at H
            have c5b0:(((rd_T79 l0 x5_1).f0)==x1_1)=false:=beq_eq_false_iff_ne.mpr c5
            have c5b1:(((rd_T79 l0 x5_1).f0) !=x1_1)=true:=bne_iff_ne.mpr c5
            obtain rfl:=Option.some.inj H
            have p175:0 ≤ (x5_1:Int):=of_decide_eq_true (by first|(with_reducible assumption)|assumption)
            have q175:x5_1 < (l0.length:Int):=of_decide_eq_true (by first|(with_reducible assumption)|assumption)
            obtain ⟨ad175,e175,hx175_0,hx175_1⟩:=at_T79 HR0.out x5_1 p175 q175
            cases e175
            replace p175:=eq_true p175
            replace q175:=eq_true q175
            go_wp2
            go_ret
            exact ⟨by first|rfl|(simp;done)|(simp [*];done),by repeat (first|exact Drawn0.refl _|apply Drawn0.step)⟩
        · rw [if_neg c4] at H
          exact absurd H (by simp)
      · rw [if_neg c3] at H
        have c3b0:decide (x5_1 < (l0.length:Int))=false:=decide_eq_false c3
        clear c3
        obtain rfl:=Option.some.inj H
        go_wp2
        go_ret
        exact ⟨by first|rfl|(simp;done)|(simp [*];done),by repeat (first|exact Drawn0.refl _|apply Drawn0.step)⟩
def laws_heldSource.f (k:Nat) (l0_0:List (S79)) (a0_1:Int) (a0_2:ByteArray) (a0_3:Int) (a1:Int):Option (Int):=(laws_heldExtS.f k l0_0 a1).bind fun t178=> (if t178 < 0 then (some (-1)) else (some t178))
theorem laws_heldSource.mono:∀ a0 a1 a2 a3 a4 k,LeO (laws_heldSource.f k a0 a1 a2 a3 a4) (laws_heldSource.f (k + 1) a0 a1 a2 a3 a4):=by
  intro a0 a1 a2 a3 a4 k
  unfold laws_heldSource.f
  repeat' first
      |(with_reducible exact laws_heldExtS.mono _ _ _)
      |(with_reducible exact LeO.refl _)
      |(with_reducible exact LeO.none _)
      |(with_reducible refine LeO.ite ?_ ?_)
      |(with_reducible refine LeO.bind ?_ (fun _=> ?_))
      |exact laws_heldExtS.mono _ _ _
      |exact LeO.none _
      |refine LeO.ite ?_ ?_
      |refine LeO.bind ?_ (fun _=> ?_)
set_option maxHeartbeats 8000000 in
set_option maxRecDepth 100000 in
theorem laws_heldSource.calls (k:Nat) (A0_0:Option Addr) (c0_0:Nat) (l0_0:List (S79)) (a0_1:Int) (a0_2:ByteArray) (a0_3:Int) (a1:Int) (r:Int) (w:World) (hr0_0:Kd.C k79 w A0_0 l0_0.length l0_0) (hc0_0:l0_0.length ≤ c0_0) (h:laws_heldSource.f k l0_0 a0_1 a0_2 a0_3 a1=some r):
    Calls Try.prog 38 #[.agg #[.slice A0_0 l0_0.length c0_0,.int .i64 a0_1,.string a0_2,.int .i64 a0_3],.int .i64 a1] w fun e w'=> e= .returned (.int .i64 r) ∧ Below w.heap.size w w':=by
  have hu36:=Try.underlying36
  have HR0_0:=Aside0.mk hr0_0
  have HC0_0:=Aside0.mk hc0_0
  clear hr0_0 hc0_0
  have HB:=Aside0.mk (Below.refl w.heap.size w)
  have H:((laws_heldExtS.f k l0_0 a1).bind fun t178=> (if t178 < 0 then (some (-1)) else (some t178)))=some r:=h
  clear h
  replace H:=Option.bind_eq_some_iff.mp H
  obtain ⟨t178,A30,H⟩:=H
  replace H:(if t178 < 0 then (some (-1)) else (some t178))=some r:=H
  have A3:=Aside0.mk A30
  clear A30
  by_cases c4:t178 < 0
  · rw [if_pos c4] at H
    have c4b0:decide (t178 < 0)=true:=decide_eq_true c4
    clear c4
    obtain rfl:=Option.some.inj H
    go_enter Try.func38,Try.ntmps38
    go_wp2_with (first|((with_reducible refine gate_dst (N:=2) rfl ?_);refine box_event ?hg (N:=2) ?hd (cs:= #[.slice A0_0 l0_0.length c0_0,.int .i64 a0_1,.string a0_2,.int .i64 a0_3]) (t:=36) ?hr ?_;(case hd=> rfl);(case hg=> rfl);(case hr=> first|(go_simp;done)|(go_simp;rfl));intro gb177 hg w5 hbox hb;have n0_:=Aside0.mk (below_step (by repeat (first|(with_reducible first|exact HB.out|apply bwA|apply bwN|apply bwD)|exact HB.out)) hb);have n1_:=Aside0.mk (hbox);have n2_:=Aside0.mk ((by rw [hg];exact (below_size (by repeat (first|(with_reducible first|exact HB.out|apply bwA|apply bwN|apply bwD)|exact HB.out))):w.heap.size ≤ gb177));have n3_:=Aside0.mk ((by rw [hg];exact (below_size (by repeat (first|(with_reducible first|exact HB.out|apply bwA|apply bwN|apply bwD)|exact HB.out))):w.heap.size ≤ gb177));clear HB;have HB:=n0_;have BK177:=n1_;have GW177:=n2_;have GE177:=n3_;clear n0_ n1_ n2_ n3_;clear hb hbox hg;have hcz6_0:w5.cell? ⟨gb177,0,none⟩=some (.slice A0_0 l0_0.length c0_0):=(blk_cell BK177.out 0).trans rfl;have hcz6_1:w5.cell? ⟨gb177,1,none⟩=some (.int .i64 a0_1):=(blk_cell BK177.out 1).trans rfl;have hcz6_2:w5.cell? ⟨gb177,2,none⟩=some (.string a0_2):=(blk_cell BK177.out 2).trans rfl;have hcz6_3:w5.cell? ⟨gb177,3,none⟩=some (.int .i64 a0_3):=(blk_cell BK177.out 3).trans rfl;have hfz6_0:=blk_frozen BK177.out 0;have hfz6_1:=blk_frozen BK177.out 1;have hfz6_2:=blk_frozen BK177.out 2;have hfz6_3:=blk_frozen BK177.out 3)|((with_reducible refine gate_callee (f:=74) rfl ?_);refine goesL_ (some 8) rfl rfl Try.func74 (by kernel_rfl) rfl #[.slice A0_0 l0_0.length c0_0,.int .i64 a1] rfl (by (try simp only [List.map_toArray,List.map_cons,List.map_nil]);first|done|rfl|(simp only [List.length_drop,List.length_take];rfl)) ?_;(with_reducible refine (laws_heldExtS.calls k _ _ l0_0 a1 t178 _ ?side1 ?side2 A3.out).mono ?_);(case side1=> repeat (first|exact (Kd.C_below HR0_0.out HB.out)|(with_reducible refine Kd.C_alloc ?_ _)|(with_reducible refine Kd.C_drewN ?_ _)|(with_reducible refine Kd.C_drew ?_)));(case side2=> exact HC0_0.out);rintro e w' ⟨rfl,⟨nd,rfl⟩⟩;refine ⟨_,rfl,?_⟩))
    go_ret
    exact ⟨by first|rfl|(simp [errW_none,errW_some] <;> rfl)|(simp [*,errW_none,errW_some] <;> rfl),by repeat (first|(with_reducible first|exact HB.out|apply bwA|apply bwN|apply bwD|refine bwS ?_ GE177.out)|exact HB.out)⟩
  · rw [if_neg c4] at H
    have c4b0:decide (t178 < 0)=false:=decide_eq_false c4
    clear c4
    obtain rfl:=Option.some.inj H
    go_enter Try.func38,Try.ntmps38
    go_wp2_with (first|((with_reducible refine gate_dst (N:=2) rfl ?_);refine box_event ?hg (N:=2) ?hd (cs:= #[.slice A0_0 l0_0.length c0_0,.int .i64 a0_1,.string a0_2,.int .i64 a0_3]) (t:=36) ?hr ?_;(case hd=> rfl);(case hg=> rfl);(case hr=> first|(go_simp;done)|(go_simp;rfl));intro gb177 hg w7 hbox hb;have n0_:=Aside0.mk (below_step (by repeat (first|(with_reducible first|exact HB.out|apply bwA|apply bwN|apply bwD)|exact HB.out)) hb);have n1_:=Aside0.mk (hbox);have n2_:=Aside0.mk ((by rw [hg];exact (below_size (by repeat (first|(with_reducible first|exact HB.out|apply bwA|apply bwN|apply bwD)|exact HB.out))):w.heap.size ≤ gb177));have n3_:=Aside0.mk ((by rw [hg];exact (below_size (by repeat (first|(with_reducible first|exact HB.out|apply bwA|apply bwN|apply bwD)|exact HB.out))):w.heap.size ≤ gb177));clear HB;have HB:=n0_;have BK177:=n1_;have GW177:=n2_;have GE177:=n3_;clear n0_ n1_ n2_ n3_;clear hb hbox hg;have hcz8_0:w7.cell? ⟨gb177,0,none⟩=some (.slice A0_0 l0_0.length c0_0):=(blk_cell BK177.out 0).trans rfl;have hcz8_1:w7.cell? ⟨gb177,1,none⟩=some (.int .i64 a0_1):=(blk_cell BK177.out 1).trans rfl;have hcz8_2:w7.cell? ⟨gb177,2,none⟩=some (.string a0_2):=(blk_cell BK177.out 2).trans rfl;have hcz8_3:w7.cell? ⟨gb177,3,none⟩=some (.int .i64 a0_3):=(blk_cell BK177.out 3).trans rfl;have hfz8_0:=blk_frozen BK177.out 0;have hfz8_1:=blk_frozen BK177.out 1;have hfz8_2:=blk_frozen BK177.out 2;have hfz8_3:=blk_frozen BK177.out 3)|((with_reducible refine gate_callee (f:=74) rfl ?_);refine goesL_ (some 8) rfl rfl Try.func74 (by kernel_rfl) rfl #[.slice A0_0 l0_0.length c0_0,.int .i64 a1] rfl (by (try simp only [List.map_toArray,List.map_cons,List.map_nil]);first|done|rfl|(simp only [List.length_drop,List.length_take];rfl)) ?_;(with_reducible refine (laws_heldExtS.calls k _ _ l0_0 a1 t178 _ ?side1 ?side2 A3.out).mono ?_);(case side1=> repeat (first|exact (Kd.C_below HR0_0.out HB.out)|(with_reducible refine Kd.C_alloc ?_ _)|(with_reducible refine Kd.C_drewN ?_ _)|(with_reducible refine Kd.C_drew ?_)));(case side2=> exact HC0_0.out);rintro e w' ⟨rfl,⟨nd,rfl⟩⟩;refine ⟨_,rfl,?_⟩))
    go_ret
    exact ⟨by first|rfl|(simp [errW_none,errW_some] <;> rfl)|(simp [*,errW_none,errW_some] <;> rfl),by repeat (first|(with_reducible first|exact HB.out|apply bwA|apply bwN|apply bwD|refine bwS ?_ GE177.out)|exact HB.out)⟩
end Go.Proofs.Ytlogocmojnhpbaa.Print
