-- Packed by a program of this session (slim.py) out of printed texts; not trusted, Lean checks it.
import Derived.Test.YtlogocmojnhpbaaP0
import Derived.Test.YtlogocmojnhpbaaK4
import Derived.Test.YtlogocmojnhpbaaP0
namespace Go.Proofs.Ytlogocmojnhpbaa.Print
open Go.RowKit Go.Proofs.YtlogocmojnhpbaaW.PrintWords Go.Proofs.YtlogocmojnhpbaaW.PrintLast Go.Proofs.YtlogocmojnhpbaaW.PrintMore
attribute [local go_sem] max2_int min2_int max_two min_two max_three min_three max_four min_four
set_option linter.unusedVariables false
set_option linter.unusedSimpArgs false
def impl_in.f (a0:Int) (a1:Int) (a2:Int):Option (Bool):=if a1 ≤ a0 then (some (decide (a0 ≤ a2))) else (some false)
set_option maxHeartbeats 8000000 in
set_option maxRecDepth 100000 in
theorem impl_in.calls (a0:Int) (a1:Int) (a2:Int) (r:Bool) (w:World) (h:impl_in.f a0 a1 a2=some r):
    Calls Try.prog 95 #[.int .i64 a0,.int .i64 a1,.int .i64 a2] w fun e w'=> e= .returned (.bool r) ∧ Drawn0 w w':=by
  have H:(if a1 ≤ a0 then (some (decide (a0 ≤ a2))) else (some false))=some r:=h
  clear h
  by_cases c4:a1 ≤ a0
  · rw [if_pos c4] at H
    have c4b0:decide (a1 ≤ a0)=true:=decide_eq_true c4
    clear c4
    obtain rfl:=Option.some.inj H
    go_enter Try.func95,Try.ntmps95
    go_wp2
    go_ret
    exact ⟨by first|rfl|(simp;done)|(simp [*];done),by repeat (first|exact Drawn0.refl _|apply Drawn0.step)⟩
  · rw [if_neg c4] at H
    have c4b0:decide (a1 ≤ a0)=false:=decide_eq_false c4
    clear c4
    obtain rfl:=Option.some.inj H
    go_enter Try.func95,Try.ntmps95
    go_wp2
    go_ret
    exact ⟨by first|rfl|(simp;done)|(simp [*];done),by repeat (first|exact Drawn0.refl _|apply Drawn0.step)⟩
def impl_isHash.f (a0:ByteArray):Option (Bool):=some ((a0.size:Int)==32)
set_option maxHeartbeats 8000000 in
set_option maxRecDepth 100000 in
theorem impl_isHash.calls (a0:ByteArray) (r:Bool) (w:World) (h:impl_isHash.f a0=some r):
    Calls Try.prog 93 #[.string a0] w fun e w'=> e= .returned (.bool r) ∧ Drawn0 w w':=by
  have H:(some ((a0.size:Int)==32))=some r:=h
  clear h
  obtain rfl:=Option.some.inj H
  go_enter Try.func93,Try.ntmps93
  go_wp2
  go_ret
  exact ⟨by first|rfl|(simp;done)|(simp [*];done),by repeat (first|exact Drawn0.refl _|apply Drawn0.step)⟩
def impl_isLong.f (a0:ByteArray):Option (Bool):=some (decide ((a0.size:Int) > 65536))
set_option maxHeartbeats 8000000 in
set_option maxRecDepth 100000 in
theorem impl_isLong.calls (a0:ByteArray) (r:Bool) (w:World) (h:impl_isLong.f a0=some r):
    Calls Try.prog 83 #[.string a0] w fun e w'=> e= .returned (.bool r) ∧ Drawn0 w w':=by
  have H:(some (decide ((a0.size:Int) > 65536)))=some r:=h
  clear h
  obtain rfl:=Option.some.inj H
  go_enter Try.func83,Try.ntmps83
  go_wp2
  go_ret
  exact ⟨by first|rfl|(simp;done)|(simp [*];done),by repeat (first|exact Drawn0.refl _|apply Drawn0.step)⟩
end Go.Proofs.Ytlogocmojnhpbaa.Print
namespace Go.Proofs.Ytlogocmojnhpbaa.Print
open Go.RowKit Go.Proofs.YtlogocmojnhpbaaW.PrintWords Go.Proofs.YtlogocmojnhpbaaW.PrintLast Go.Proofs.YtlogocmojnhpbaaW.PrintMore
attribute [local go_sem] max2_int min2_int max_two min_two max_three min_three max_four min_four
set_option linter.unusedVariables false
set_option linter.unusedSimpArgs false
def impl_HashText.l0:Nat → ByteArray → List Int → Int → Int → Option (ByteArray × Int)
  |0,_,_,_,_=> none
  |k + 1,x0,x4,x15,x16=> if x16 < x15 then (if 0 ≤ x16 then (if x16 < (x0.size:Int) then (if 0 ≤ ((bt x0 x16) / 16) then (if ((bt x0 x16) / 16) < 16 then (if 0 ≤ (Go.bits .and .u8 (bt x0 x16) 15) then (if (Go.bits .and .u8 (bt x0 x16) 15) < 16 then ((some (([bt (⟨#[48,49,50,51,52,53,54,55,56,57,97,98,99,100,101,102]⟩:ByteArray) ((bt x0 x16) / 16),bt (⟨#[48,49,50,51,52,53,54,55,56,57,97,98,99,100,101,102]⟩:ByteArray) (Go.bits .and .u8 (bt x0 x16) 15)]:List Int):List Int)).bind fun y107=> (if x4.length + y107.length < 140737488355328 then (impl_HashText.l0 k x0 (x4 ++ y107) x15 (wrap64 (x16 + 1))) else (none))) else (none)) else (none)) else (none)) else (none)) else (none)) else (none)) else (some (strOfNums x4,0))
def impl_HashText.f (k:Nat) (a0:ByteArray):Option (ByteArray × Int):=(impl_isLong.f a0).bind fun t102=> (if t102=true then (some ((⟨#[]⟩:ByteArray),2)) else ((impl_isHash.f a0).bind fun t103=> (if t103=true then (impl_HashText.l0 k a0 (([]:List Int)) (a0.size:Int) 0) else (some ((⟨#[]⟩:ByteArray),8)))))
theorem impl_HashText.mono_l:∀ k,(∀ y0 y1 y2 y3,LeO (impl_HashText.l0 k y0 y1 y2 y3) (impl_HashText.l0 (k + 1) y0 y1 y2 y3))
  |0=> fun _ _ _ _ r h=> by simp [impl_HashText.l0] at h
  |k + 1=> by
    have ih0:=impl_HashText.mono_l k
    · intro y0 y1 y2 y3
      unfold impl_HashText.l0
      repeat' first
      |(with_reducible exact ih0 _ _ _ _)
      |(with_reducible exact LeO.refl _)
      |(with_reducible exact LeO.none _)
      |(with_reducible refine LeO.ite ?_ ?_)
      |(with_reducible refine LeO.bind ?_ (fun _=> ?_))
      |exact ih0 _ _ _ _
      |exact LeO.none _
      |refine LeO.ite ?_ ?_
      |refine LeO.bind ?_ (fun _=> ?_)
theorem impl_HashText.mono:∀ a0 k,LeO (impl_HashText.f k a0) (impl_HashText.f (k + 1) a0):=by
  intro a0 k
  have ih0:=impl_HashText.mono_l k
  unfold impl_HashText.f
  repeat' first
      |(with_reducible exact ih0 _ _ _ _)
      |(with_reducible exact LeO.refl _)
      |(with_reducible exact LeO.none _)
      |(with_reducible refine LeO.ite ?_ ?_)
      |(with_reducible refine LeO.bind ?_ (fun _=> ?_))
      |exact ih0 _ _ _ _
      |exact LeO.none _
      |refine LeO.ite ?_ ?_
      |refine LeO.bind ?_ (fun _=> ?_)
def impl_HashText.T9:Bool × List (List Nat × List Nat):=(true, [([], []),([], []),([], []),([1,2], [1,2]),([3], [3]),([4], [4]),([], []),([], []),([6,7], [6,7]),([8], [8]),([9], [9]),([5,10], [5,10]),([0,11], [0,11]),([12,12,0,1,2,3,4,5,6,7,8,9,10,11,12], [0,12])])
def impl_HashText.B9:List Nat:= [0,0,0,6,14,30,0,0,192,448,960,2046,4095,8191]
theorem impl_HashText.tab9:rtab .any (opsOf Try.f31 9)=impl_HashText.T9:=by kernel_rfl
theorem impl_HashText.bits9:waitsOk impl_HashText.T9.2 impl_HashText.B9=true:=by kernel_rfl
set_option maxHeartbeats 8000000 in
set_option maxRecDepth 100000 in
theorem impl_HashText.calls (k:Nat) (a0:ByteArray) (r1:ByteArray) (r2:Int) (w:World) (h:impl_HashText.f k a0=some (r1,r2)):
    Calls Try.prog 31 #[.string a0] w fun e w'=> e= .returned (.tuple #[.string r1,.int .i64 r2]) ∧ Below w.heap.size w w':=by
  have HB:=Aside0.mk (Below.refl w.heap.size w)
  have H:((impl_isLong.f a0).bind fun t102=> (if t102=true then (some ((⟨#[]⟩:ByteArray),2)) else ((impl_isHash.f a0).bind fun t103=> (if t103=true then (impl_HashText.l0 k a0 (([]:List Int)) (a0.size:Int) 0) else (some ((⟨#[]⟩:ByteArray),8))))))=some (r1,r2):=h
  clear h
  replace H:=Option.bind_eq_some_iff.mp H
  obtain ⟨t102,A20,H⟩:=H
  replace H:(if t102=true then (some ((⟨#[]⟩:ByteArray),2)) else ((impl_isHash.f a0).bind fun t103=> (if t103=true then (impl_HashText.l0 k a0 (([]:List Int)) (a0.size:Int) 0) else (some ((⟨#[]⟩:ByteArray),8)))))=some (r1,r2):=H
  have A2:=Aside0.mk A20
  clear A20
  by_cases c3:t102=true
  · subst c3
    have H1:(some ((⟨#[]⟩:ByteArray),2))=some (r1,r2):=by rw [if_pos rfl] at H;exact H
    clear H
    have H:=H1
    clear H1
    simp only [Option.some.injEq,Prod.mk.injEq] at H
    obtain ⟨rfl,rfl⟩:=H
    go_enter Try.func31,Try.ntmps31
    go_wp2_with (first|((with_reducible refine gate_callee (f:=83) rfl ?_);refine goesL_ (some 8) rfl rfl Try.func83 (by kernel_rfl) rfl #[.string a0] rfl (by (try simp only [List.map_toArray,List.map_cons,List.map_nil]);first|done|rfl|(simp only [List.length_drop,List.length_take];rfl)) ?_;(with_reducible refine (impl_isLong.calls a0 true _ A2.out).mono ?_);rintro e w' ⟨rfl,⟨nd,rfl⟩⟩;refine ⟨_,rfl,?_⟩))
    go_ret2
    exact ⟨by first|rfl|(simp [errW_none,errW_some] <;> rfl)|(simp [*,errW_none,errW_some] <;> rfl),by repeat (first|(with_reducible first|exact HB.out|apply bwA|apply bwN|apply bwD)|exact HB.out)⟩
  · replace c3:=Bool.eq_false_iff.mpr c3
    subst c3
    have H1:((impl_isHash.f a0).bind fun t103=> (if t103=true then (impl_HashText.l0 k a0 (([]:List Int)) (a0.size:Int) 0) else (some ((⟨#[]⟩:ByteArray),8))))=some (r1,r2):=by rw [if_neg (show ¬ (false=true) by decide)] at H;exact H
    clear H
    have H:=H1
    clear H1
    replace H:=Option.bind_eq_some_iff.mp H
    obtain ⟨t103,A40,H⟩:=H
    replace H:(if t103=true then (impl_HashText.l0 k a0 (([]:List Int)) (a0.size:Int) 0) else (some ((⟨#[]⟩:ByteArray),8)))=some (r1,r2):=H
    have A4:=Aside0.mk A40
    clear A40
    by_cases c5:t103=true
    · subst c5
      have H1:(impl_HashText.l0 k a0 (([]:List Int)) (a0.size:Int) 0)=some (r1,r2):=by rw [if_pos rfl] at H;exact H
      clear H
      have H:=H1
      clear H1
      obtain ⟨y104,hy104⟩:∃ y_:List Int,y_=(([]:List Int)):=⟨_,rfl⟩
      replace H:(impl_HashText.l0 k a0 y104 (a0.size:Int) 0)=some (r1,r2):=by first|(rw [hy104];with_reducible exact H)|(have H2_:=(Option.bind_some _ _).symm.trans H;rw [hy104];with_reducible exact H2_)|(have H2_:=(Option.bind_some _ _).symm.trans H;with_reducible exact H2_)|with_reducible exact H|(rw [hy104];exact H)|exact H
      have Ny104:=Aside0.mk hy104
      clear hy104
      have H':=Aside0.mk H
      clear H
      go_enter Try.func31,Try.ntmps31
      go_wp2_with (first|((with_reducible refine gate_callee (f:=83) rfl ?_);refine goesL_ (some 8) rfl rfl Try.func83 (by kernel_rfl) rfl #[.string a0] rfl (by (try simp only [List.map_toArray,List.map_cons,List.map_nil]);first|done|rfl|(simp only [List.length_drop,List.length_take];rfl)) ?_;(with_reducible refine (impl_isLong.calls a0 false _ A2.out).mono ?_);rintro e w' ⟨rfl,⟨nd,rfl⟩⟩;refine ⟨_,rfl,?_⟩)|((with_reducible refine gate_callee (f:=93) rfl ?_);refine goesL_ (some 11) rfl rfl Try.func93 (by kernel_rfl) rfl #[.string a0] rfl (by (try simp only [List.map_toArray,List.map_cons,List.map_nil]);first|done|rfl|(simp only [List.length_drop,List.length_take];rfl)) ?_;(with_reducible refine (impl_isHash.calls a0 true _ A4.out).mono ?_);rintro e w' ⟨rfl,⟨nd,rfl⟩⟩;refine ⟨_,rfl,?_⟩)|((with_reducible refine gate_dst (N:=13) rfl ?_);refine Kd.R_lit (Kd.int .u8) _ 5 ?hg (N:=13) ?hd (xs:=([]:List Int)) (inner:= []) (ok:=fun _=> True) (okp:=fun _=> True) ?hr ?hp (fun _ hk=> hk) trivial (Below.refl _ _) (Nat.le_refl _) (by simp) ?_;(case hd=> rfl);(case hg=> rfl);(case hr=> first|(go_simp;done)|(go_simp;rfl));(case hp=> exact (Reps.none _ _));intro v105 w6 ho7 hb hg_ hnew_;clear hg_ hnew_;(first|rw [← Ny104.out] at ho7|(simp only [Int.reduceToNat] at ho7;rw [← Ny104.out] at ho7));have n0_:=Aside0.mk (Kd.R_lower ho7 (below_size (by repeat (first|(with_reducible first|exact HB.out|apply bwA|apply bwN|apply bwD)|exact HB.out))));have n1_:=Aside0.mk (below_step (by repeat (first|(with_reducible first|exact HB.out|apply bwA|apply bwN|apply bwD)|exact HB.out)) hb);clear HB;have HO106:=n0_;have HB:=n1_;clear n0_ n1_;clear hb ho7))
      go_loopg [4,16] k (fun kq v4 v16 w'=> ∃ (x4_1:List Int) (x16_1:Int),v16= .int .i64 x16_1 ∧ Aside0 (impl_HashText.l0 kq a0 x4_1 (a0.size:Int) x16_1=some (r1,r2)) ∧ Aside0 (kq ≤ k) ∧ Aside0 (Kd.R (Kd.int .u8) 5 w' w.heap.size (fun _=> True) v4 x4_1) ∧ Aside0 (Below w.heap.size w w'))
      case atStart=> exact ⟨(y104),(0),(by first|rfl|(simp;done)|(simp [*];done)),H',⟨Nat.le_refl _⟩,⟨by (with_reducible repeat (first|apply Kd.R_alloc|apply Kd.R_drewN|apply Kd.R_drew));exact HO106.out⟩,⟨by repeat (first|(with_reducible first|exact HB.out|apply bwA|apply bwN|apply bwD)|exact HB.out)⟩⟩
      case round=>
        clear H'
        try clear p2
        try clear c3
        try clear c5
        obtain ⟨x4_1,x16_1,rfl,HA,HK1,HO_4,HB⟩:=hrel
        cases gk with
        |zero=> exact absurd HA.out (by simp [impl_HashText.l0])
        |succ k1=>
          have H:=HA.out
          clear HA
          simp only [impl_HashText.l0] at H
          by_cases c8:x16_1 < (a0.size:Int)
          · rw [if_pos c8] at H
            have c8b0:decide (x16_1 < (a0.size:Int))=true:=decide_eq_true c8
            clear c8
            by_cases c9:0 ≤ x16_1
            · rw [if_pos c9] at H
              have c9b0:decide (0 ≤ x16_1)=true:=decide_eq_true c9
              clear c9
              by_cases c10:x16_1 < (a0.size:Int)
              · rw [if_pos c10] at H
                have c10b0:decide (x16_1 < (a0.size:Int))=true:=decide_eq_true c10
                clear c10
                obtain ⟨ji12,hji12⟩:∃ j_:Int,((bt a0 x16_1) / 16)=j_:=⟨_,rfl⟩
                replace H:(if 0 ≤ (ji12) then (if (ji12) < 16 then (if 0 ≤ (Go.bits .and .u8 (bt a0 x16_1) 15) then (if (Go.bits .and .u8 (bt a0 x16_1) 15) < 16 then ((some (([bt (⟨#[48,49,50,51,52,53,54,55,56,57,97,98,99,100,101,102]⟩:ByteArray) (ji12),bt (⟨#[48,49,50,51,52,53,54,55,56,57,97,98,99,100,101,102]⟩:ByteArray) (Go.bits .and .u8 (bt a0 x16_1) 15)]:List Int):List Int)).bind fun y107=> (if x4_1.length + y107.length < 140737488355328 then (impl_HashText.l0 k1 a0 (x4_1 ++ y107) (a0.size:Int) (wrap64 (x16_1 + 1))) else (none))) else (none)) else (none)) else (none)) else (none))=some (r1,r2):=by first|(rw [hji12] at H;exact H)|(simp only [hji12] at H ⊢;exact H)
                by_cases c13:0 ≤ (ji12)
                · rw [if_pos c13] at H
                  have c13b0:decide (0 ≤ (ji12))=true:=decide_eq_true c13
                  clear c13
                  by_cases c14:(ji12) < 16
                  · rw [if_pos c14] at H
                    have c14b0:decide ((ji12) < 16)=true:=decide_eq_true c14
                    clear c14
                    by_cases c17:0 ≤ (Go.bits .and .u8 (bt a0 x16_1) 15)
                    · rw [if_pos c17] at H
                      have c17b0:decide (0 ≤ (Go.bits .and .u8 (bt a0 x16_1) 15))=true:=decide_eq_true c17
                      clear c17
                      by_cases c18:(Go.bits .and .u8 (bt a0 x16_1) 15) < 16
                      · rw [if_pos c18] at H
                        have c18b0:decide ((Go.bits .and .u8 (bt a0 x16_1) 15) < 16)=true:=decide_eq_true c18
                        clear c18
                        obtain ⟨y107,hy107⟩:∃ y_:List Int,y_=(([bt (⟨#[48,49,50,51,52,53,54,55,56,57,97,98,99,100,101,102]⟩:ByteArray) (ji12),bt (⟨#[48,49,50,51,52,53,54,55,56,57,97,98,99,100,101,102]⟩:ByteArray) (Go.bits .and .u8 (bt a0 x16_1) 15)]:List Int)):=⟨_,rfl⟩
                        replace H:(if x4_1.length + y107.length < 140737488355328 then (impl_HashText.l0 k1 a0 (x4_1 ++ y107) (a0.size:Int) (wrap64 (x16_1 + 1))) else (none))=some (r1,r2):=by first|(rw [hy107];with_reducible exact H)|(have H2_:=(Option.bind_some _ _).symm.trans H;rw [hy107];with_reducible exact H2_)|(have H2_:=(Option.bind_some _ _).symm.trans H;with_reducible exact H2_)|with_reducible exact H|(rw [hy107];exact H)|exact H
                        have Ny107:=Aside0.mk hy107
                        clear hy107
                        by_cases c20:x4_1.length + y107.length < 140737488355328
                        · rw [if_pos c20] at H
                          have LMc20:=Aside0.mk c20
                          clear c20
                          obtain ⟨y110,hy110⟩:∃ y_:List Int,y_=(x4_1 ++ y107):=⟨_,rfl⟩
                          replace H:(impl_HashText.l0 k1 a0 y110 (a0.size:Int) (wrap64 (x16_1 + 1)))=some (r1,r2):=by first|(rw [hy110];with_reducible exact H)|(have H2_:=(Option.bind_some _ _).symm.trans H;rw [hy110];with_reducible exact H2_)|(have H2_:=(Option.bind_some _ _).symm.trans H;with_reducible exact H2_)|with_reducible exact H|(rw [hy110];exact H)|exact H
                          have Ny110:=Aside0.mk hy110
                          clear hy110
                          have H':=Aside0.mk H
                          clear H
                          try go_wp2
                          have n0_:=Aside0.mk (Kd.R_drew HO_4.out)
                          have n1_:=Aside0.mk (bwD HB.out)
                          clear HO_4
                          clear HB
                          have HO_4:=n0_
                          have HB:=n1_
                          clear n0_ n1_
                          have p11:0 ≤ (x16_1:Int):=of_decide_eq_true (by first|(with_reducible assumption)|assumption)
                          have q11:x16_1 < (a0.size:Int):=of_decide_eq_true (by first|(with_reducible assumption)|assumption)
                          have hx11:=bt_at a0 x16_1
                          replace p11:=eq_true p11
                          replace q11:=eq_true q11
                          have p15:0 ≤ ((ji12):Int):=of_decide_eq_true (by first|(with_reducible assumption)|assumption)
                          have q15:(ji12) < (16:Int):=of_decide_eq_true (by first|(with_reducible assumption)|assumption)
                          have hx15:=bt_at (⟨#[48,49,50,51,52,53,54,55,56,57,97,98,99,100,101,102]⟩:ByteArray) (ji12)
                          replace p15:=eq_true p15
                          replace q15:=eq_true q15
                          have p16:0 ≤ (x16_1:Int):=of_decide_eq_true (by first|(with_reducible assumption)|assumption)
                          have q16:x16_1 < (a0.size:Int):=of_decide_eq_true (by first|(with_reducible assumption)|assumption)
                          have hx16:=bt_at a0 x16_1
                          replace p16:=eq_true p16
                          replace q16:=eq_true q16
                          have p19:0 ≤ ((Go.bits .and .u8 (bt a0 x16_1) 15):Int):=of_decide_eq_true (by first|(with_reducible assumption)|assumption)
                          have q19:(Go.bits .and .u8 (bt a0 x16_1) 15) < (16:Int):=of_decide_eq_true (by first|(with_reducible assumption)|assumption)
                          have hx19:=bt_at (⟨#[48,49,50,51,52,53,54,55,56,57,97,98,99,100,101,102]⟩:ByteArray) (Go.bits .and .u8 (bt a0 x16_1) 15)
                          replace p19:=eq_true p19
                          replace q19:=eq_true q19
                          refine start_ (n:=14) (S:=fun w'=> True) (ds:= []) #[false,false,false,false,false,false,false,false,false,false,false,false,false,false] (by kernel_rfl) rfl rfl trivial (fun hHeld=> ?_);refine with_tabW impl_HashText.tab9 impl_HashText.bits9 (fun HT_ HW_=> ?_)
                          generalize wr.drew=w21 at HO_4 HB hHeld ⊢
                          refine pure_ (i:=0) (N:=some 19) (v:=?_) (a':=?_) #[true,false,false,false,false,false,false,false,false,false,false,false,false,false] rfl rfl (any_of HT_.out (by kernel_rfl)) (fun _ _ _ h=> h) (Or.inl ⟨by rfl,?_⟩) ?_ ?_
                          rotate_left
                          · intro w'
                            go_simp
                            with_reducible rfl
                          rotate_left
                          · simp only [Act.put,List.setIfInBounds_toArray,List.set_cons_zero,List.set_cons_succ,i64_w,i32_w]
                            rfl
                          refine pure_ (i:=1) (N:=some 20) (v:=?_) (a':=?_) #[true,true,false,false,false,false,false,false,false,false,false,false,false,false] rfl rfl (any_of HT_.out (by kernel_rfl)) (fun _ _ _ h=> h) (Or.inl ⟨by rfl,?_⟩) ?_ ?_
                          rotate_left
                          · intro w'
                            go_simp
                            with_reducible rfl
                          rotate_left
                          · simp only [Act.put,List.setIfInBounds_toArray,List.set_cons_zero,List.set_cons_succ,i64_w,i32_w]
                            rfl
                          refine pure_ (i:=2) (N:=some 21) (v:=?_) (a':=?_) #[true,true,true,false,false,false,false,false,false,false,false,false,false,false] rfl rfl (any_of HT_.out (by kernel_rfl)) (fun _ _ _ h=> h) (Or.inl ⟨by rfl,?_⟩) ?_ ?_
                          rotate_left
                          · intro w'
                            go_simp
                            with_reducible rfl
                          rotate_left
                          · simp only [Act.put,List.setIfInBounds_toArray,List.set_cons_zero,List.set_cons_succ,i64_w,i32_w]
                            rfl
                          refine pure_ (i:=6) (N:=some 25) (v:=?_) (a':=?_) #[true,true,true,false,false,false,true,false,false,false,false,false,false,false] rfl rfl (any_of HT_.out (by kernel_rfl)) (fun _ _ _ h=> h) (Or.inl ⟨by rfl,?_⟩) ?_ ?_
                          rotate_left
                          · intro w'
                            go_simp
                            with_reducible rfl
                          rotate_left
                          · simp only [Act.put,List.setIfInBounds_toArray,List.set_cons_zero,List.set_cons_succ,i64_w,i32_w]
                            rfl
                          refine pure_ (i:=7) (N:=some 26) (v:=?_) (a':=?_) #[true,true,true,false,false,false,true,true,false,false,false,false,false,false] rfl rfl (any_of HT_.out (by kernel_rfl)) (fun _ _ _ h=> h) (Or.inl ⟨by rfl,?_⟩) ?_ ?_
                          rotate_left
                          · intro w'
                            go_simp
                            with_reducible rfl
                          rotate_left
                          · simp only [Act.put,List.setIfInBounds_toArray,List.set_cons_zero,List.set_cons_succ,i64_w,i32_w]
                            rfl
                          refine take_ (i:=3) (N:=some 22) (v:=?_) (a':=?_) #[true,true,true,true,false,false,true,true,false,false,false,false,false,false] rfl rfl (take_ofW HT_.out HW_.out (by kernel_rfl)) (fun _ _ _ h=> h) (Or.inl ⟨by rfl,?_⟩) hHeld ?_ ?_
                          rotate_left
                          · intro w' _
                            go_simp
                            with_reducible rfl
                          rotate_left
                          · simp only [Act.put,List.setIfInBounds_toArray,List.set_cons_zero,List.set_cons_succ,i64_w,i32_w]
                            rfl
                          refine pure_ (i:=4) (N:=some 23) (v:=?_) (a':=?_) #[true,true,true,true,true,false,true,true,false,false,false,false,false,false] rfl rfl (any_of HT_.out (by kernel_rfl)) (fun _ _ _ h=> h) (Or.inl ⟨by rfl,?_⟩) ?_ ?_
                          rotate_left
                          · intro w'
                            go_simp
                            with_reducible rfl
                          rotate_left
                          · simp only [Act.put,List.setIfInBounds_toArray,List.set_cons_zero,List.set_cons_succ,i64_w,i32_w]
                            rfl
                          refine take_ (i:=5) (N:=some 24) (v:=?_) (a':=?_) #[true,true,true,true,true,true,true,true,false,false,false,false,false,false] rfl rfl (take_ofW HT_.out HW_.out (by kernel_rfl)) (fun _ _ _ h=> h) (Or.inl ⟨by rfl,?_⟩) hHeld ?_ ?_
                          rotate_left
                          · intro w' _
                            go_simp
                            with_reducible rfl
                          rotate_left
                          · simp only [Act.put,List.setIfInBounds_toArray,List.set_cons_zero,List.set_cons_succ,i64_w,i32_w]
                            rfl
                          refine take_ (i:=8) (N:=some 27) (v:=?_) (a':=?_) #[true,true,true,true,true,true,true,true,true,false,false,false,false,false] rfl rfl (take_ofW HT_.out HW_.out (by kernel_rfl)) (fun _ _ _ h=> h) (Or.inl ⟨by rfl,?_⟩) hHeld ?_ ?_
                          rotate_left
                          · intro w' _
                            go_simp
                            with_reducible rfl
                          rotate_left
                          · simp only [Act.put,List.setIfInBounds_toArray,List.set_cons_zero,List.set_cons_succ,i64_w,i32_w]
                            rfl
                          refine pure_ (i:=9) (N:=some 28) (v:=?_) (a':=?_) #[true,true,true,true,true,true,true,true,true,true,false,false,false,false] rfl rfl (any_of HT_.out (by kernel_rfl)) (fun _ _ _ h=> h) (Or.inl ⟨by rfl,?_⟩) ?_ ?_
                          rotate_left
                          · intro w'
                            go_simp
                            with_reducible rfl
                          rotate_left
                          · simp only [Act.put,List.setIfInBounds_toArray,List.set_cons_zero,List.set_cons_succ,i64_w,i32_w]
                            rfl
                          refine take_ (i:=10) (N:=some 29) (v:=?_) (a':=?_) #[true,true,true,true,true,true,true,true,true,true,true,false,false,false] rfl rfl (take_ofW HT_.out HW_.out (by kernel_rfl)) (fun _ _ _ h=> h) (Or.inl ⟨by rfl,?_⟩) hHeld ?_ ?_
                          rotate_left
                          · intro w' _
                            go_simp
                            with_reducible rfl
                          rotate_left
                          · simp only [Act.put,List.setIfInBounds_toArray,List.set_cons_zero,List.set_cons_succ,i64_w,i32_w]
                            rfl
                          refine one_ (i:=11) (N:=some 30) #[true,true,true,true,true,true,true,true,true,true,true,true,false,false] rfl rfl (one_of HT_.out (by kernel_rfl)) (by decide) (fun K hK=> ?_)
                          refine Kd.R_lit_step (Kd.int .u8) _ 5 ?hg (N:=30) ?hd (xs:=([bt (⟨#[48,49,50,51,52,53,54,55,56,57,97,98,99,100,101,102]⟩:ByteArray) (ji12),bt (⟨#[48,49,50,51,52,53,54,55,56,57,97,98,99,100,101,102]⟩:ByteArray) (Go.bits .and .u8 (bt a0 x16_1) 15)]:List Int)) (inner:= [.int .u8 (bt (⟨#[48,49,50,51,52,53,54,55,56,57,97,98,99,100,101,102]⟩:ByteArray) (ji12)),.int .u8 (bt (⟨#[48,49,50,51,52,53,54,55,56,57,97,98,99,100,101,102]⟩:ByteArray) (Go.bits .and .u8 (bt a0 x16_1) 15))]) (ok:=fun _=> True) (okp:=fun _=> True) ?hr ?hp (fun _ hk=> hk) trivial (Below.refl _ _) (Nat.le_refl _) (by simp) ?_;(case hd=> rfl);(case hg=> rfl);(case hr=> first|(go_simp;done)|(go_simp;rfl));(case hp=> exact (Reps.one (show Kd.M (Kd.int .u8) _ _ _ (bt (⟨#[48,49,50,51,52,53,54,55,56,57,97,98,99,100,101,102]⟩:ByteArray) (ji12)) [.int .u8 (bt (⟨#[48,49,50,51,52,53,54,55,56,57,97,98,99,100,101,102]⟩:ByteArray) (ji12))] from rfl) (Reps.one (show Kd.M (Kd.int .u8) _ _ _ (bt (⟨#[48,49,50,51,52,53,54,55,56,57,97,98,99,100,101,102]⟩:ByteArray) (Go.bits .and .u8 (bt a0 x16_1) 15)) [.int .u8 (bt (⟨#[48,49,50,51,52,53,54,55,56,57,97,98,99,100,101,102]⟩:ByteArray) (Go.bits .and .u8 (bt a0 x16_1) 15))] from rfl) (Reps.none _ _))))
                          intro v108 w22 ho23 hb hg_ hnew_
                          clear hg_ hnew_
                          (first|rw [← Ny107.out] at ho23|(simp only [Int.reduceToNat] at ho23;rw [← Ny107.out] at ho23))
                          have n0_:=Aside0.mk (Kd.R_elder' (by (with_reducible repeat (first|apply Kd.R_alloc|apply Kd.R_drewN|apply Kd.R_drew));exact HO_4.out) (Kd.R_base ho23) hb)
                          have n1_:=Aside0.mk (Kd.R_lower (Kd.R_new' ho23 (Kd.R_lt (by (with_reducible repeat (first|apply Kd.R_alloc|apply Kd.R_drewN|apply Kd.R_drew));exact HO_4.out))) (below_size (by repeat (first|(with_reducible first|exact HB.out|apply bwA|apply bwN|apply bwD)|exact HB.out))))
                          have n2_:=Aside0.mk (below_step (by repeat (first|(with_reducible first|exact HB.out|apply bwA|apply bwN|apply bwD)|exact HB.out)) hb)
                          clear HO_4
                          clear HB
                          have HO_4:=n0_
                          have HO109:=n1_
                          have HB:=n2_
                          clear n0_ n1_ n2_
                          clear hb ho23
                          obtain ⟨Ao25,co25,eo25⟩:=Kd.R_slice HO109.out
                          (first|subst eo25|(injection eo25 with f1_ f2_ f3_;have f4_:=f1_.symm;have f5_:=f3_.symm;clear f1_ f2_ f3_;subst f4_;subst f5_))
                          refine hK.out _ _ trivial (fun hHeld=> ?_)
                          clear hK K
                          refine norm_ (a':=?_) ?_ ?_
                          rotate_left
                          · show Act.put _ (some 30) _=_
                            simp only [Act.put,List.setIfInBounds_toArray,List.set_cons_zero,List.set_cons_succ,i64_w,i32_w]
                            rfl
                          refine one_ (i:=12) (N:=some 31) #[true,true,true,true,true,true,true,true,true,true,true,true,true,false] rfl rfl (one_of HT_.out (by kernel_rfl)) (by decide) (fun K hK=> ?_)
                          refine Kd.R_append_rows_step (Kd.int .u8) (w0:=w) w.heap.size (by rfl) (.tmp 19) (.tmp 30) 25 5 (.int .u8 0) 1 rfl Try.underlying25 info5 rfl (by decide) (by omega) u4 x4_1 y107 _ _ _ (fun k_=> some k_ ≠ (.slice Ao25 y107.length co25:Value).ownBlock) (fun _=> False) rfl rfl ?aO ?aR (fun _ _ h=> h) (fun _ h=> h.elim) ?aF ?aB ?aS ?aL ?_
                          (case aR=> repeat (first|exact (Kd.R_reads' HO109.out).2.2|(with_reducible refine Kd.C_alloc ?_ _)|(with_reducible refine Kd.C_drewN ?_ _)|(with_reducible refine Kd.C_drew ?_)))
                          (case aB=> exact (by repeat (first|(with_reducible first|exact HB.out|apply bwA|apply bwN|apply bwD)|exact HB.out)))
                          (case aF=> exact (fun k_ hk=> Kd.fresh' (Kd.R_lt (by (with_reducible repeat (first|apply Kd.R_alloc|apply Kd.R_drewN|apply Kd.R_drew));exact HO109.out)) k_ hk))
                          (case aO=> exact (by (with_reducible repeat (first|apply Kd.R_alloc|apply Kd.R_drewN|apply Kd.R_drew));exact Kd.R_mono HO_4.out (fun _ hk=> hk.2)))
                          (case aS=> exact (below_size (by repeat (first|(with_reducible first|exact HB.out|apply bwA|apply bwN|apply bwD)|exact HB.out))))
                          (case aL=> have:=LMc20.out;omega)
                          intro v111 w24 ho hb hg hat
                          rw [← Ny110.out] at ho
                          have n0_:=Aside0.mk (Kd.R_after (ok:=(fun _=> True)) (by (with_reducible repeat (first|apply Kd.R_alloc|apply Kd.R_drewN|apply Kd.R_drew));exact HO109.out) hg hat)
                          have n1_:=Aside0.mk (hb)
                          have n2_:=Aside0.mk (ho)
                          clear HO109
                          clear HB
                          clear HO_4
                          have HO109:=n0_
                          have HB:=n1_
                          have HO112:=n2_
                          clear n0_ n1_ n2_
                          clear ho hb hg hat
                          refine hK.out _ _ trivial (fun hHeld=> ?_)
                          clear hK K
                          refine norm_ (a':=?_) ?_ ?_
                          rotate_left
                          · show Act.put _ (some 31) _=_
                            simp only [Act.put,List.setIfInBounds_toArray,List.set_cons_zero,List.set_cons_succ,i64_w,i32_w]
                            rfl
                          refine pure_ (i:=13) (N:=some 4) (v:=?_) (a':=?_) #[true,true,true,true,true,true,true,true,true,true,true,true,true,true] rfl rfl (any_of HT_.out (by kernel_rfl)) (fun _ _ _ h=> h) (Or.inl ⟨by rfl,?_⟩) ?_ ?_
                          rotate_left
                          · intro w'
                            go_simp
                            with_reducible rfl
                          rotate_left
                          · simp only [Act.put,List.setIfInBounds_toArray,List.set_cons_zero,List.set_cons_succ,i64_w,i32_w]
                            rfl
                          refine done_ (done_of HT_.out (by kernel_rfl)) ?_
                          try go_wp2
                          go_roundg k1
                          case measure=> have:=HK1.out;omega
                          case rel=> exact ⟨(y110),(wrap64 (x16_1 + 1)),(by first|rfl|(simp;done)|(simp [*];done)),H',⟨by have:=HK1.out;omega⟩,⟨by (with_reducible repeat (first|apply Kd.R_alloc|apply Kd.R_drewN|apply Kd.R_drew));exact Kd.R_mono HO112.out (fun _ hk=> trivial)⟩,⟨by repeat (first|(with_reducible first|exact HB.out|apply bwA|apply bwN|apply bwD)|exact HB.out)⟩⟩
                        · rw [if_neg c20] at H
                          exact absurd H (by simp)
                      · rw [if_neg c18] at H
                        exact absurd H (by simp)
                    · rw [if_neg c17] at H
                      exact absurd H (by simp)
                  · rw [if_neg c14] at H
                    exact absurd H (by simp)
                · rw [if_neg c13] at H
                  exact absurd H (by simp)
              · rw [if_neg c10] at H
                exact absurd H (by simp)
            · rw [if_neg c9] at H
              exact absurd H (by simp)
          · rw [if_neg c8] at H
            have c8b0:decide (x16_1 < (a0.size:Int))=false:=decide_eq_false c8
            clear c8
            simp only [Option.some.injEq,Prod.mk.injEq] at H
            obtain ⟨rfl,rfl⟩:=H
            have hcv26:=own_string (P:=Try.prog) Try.underlying25 Try.underlying5 Try.underlying9 (Kd.own_of_R HO_4.out)
            go_wp2
            go_ret2
            exact ⟨by first|rfl|(simp [errW_none,errW_some] <;> rfl)|(simp [*,errW_none,errW_some] <;> rfl),by repeat (first|(with_reducible first|exact HB.out|apply bwA|apply bwN|apply bwD)|exact HB.out)⟩
    · replace c5:=Bool.eq_false_iff.mpr c5
      subst c5
      have H1:(some ((⟨#[]⟩:ByteArray),8))=some (r1,r2):=by rw [if_neg (show ¬ (false=true) by decide)] at H;exact H
      clear H
      have H:=H1
      clear H1
      simp only [Option.some.injEq,Prod.mk.injEq] at H
      obtain ⟨rfl,rfl⟩:=H
      go_enter Try.func31,Try.ntmps31
      go_wp2_with (first|((with_reducible refine gate_callee (f:=83) rfl ?_);refine goesL_ (some 8) rfl rfl Try.func83 (by kernel_rfl) rfl #[.string a0] rfl (by (try simp only [List.map_toArray,List.map_cons,List.map_nil]);first|done|rfl|(simp only [List.length_drop,List.length_take];rfl)) ?_;(with_reducible refine (impl_isLong.calls a0 false _ A2.out).mono ?_);rintro e w' ⟨rfl,⟨nd,rfl⟩⟩;refine ⟨_,rfl,?_⟩)|((with_reducible refine gate_callee (f:=93) rfl ?_);refine goesL_ (some 11) rfl rfl Try.func93 (by kernel_rfl) rfl #[.string a0] rfl (by (try simp only [List.map_toArray,List.map_cons,List.map_nil]);first|done|rfl|(simp only [List.length_drop,List.length_take];rfl)) ?_;(with_reducible refine (impl_isHash.calls a0 false _ A4.out).mono ?_);rintro e w' ⟨rfl,⟨nd,rfl⟩⟩;refine ⟨_,rfl,?_⟩))
      go_ret2
      exact ⟨by first|rfl|(simp [errW_none,errW_some] <;> rfl)|(simp [*,errW_none,errW_some] <;> rfl),by repeat (first|(with_reducible first|exact HB.out|apply bwA|apply bwN|apply bwD)|exact HB.out)⟩
def spec_HashText.l0:Nat → ByteArray → List Int → Int → Option (ByteArray × Int)
  |0,_,_,_=> none
  |k + 1,x0,x4,x5=> if x5 < (x0.size:Int) then (if 0 ≤ x5 then (if 0 ≤ ((bt x0 x5) / 16) then (if ((bt x0 x5) / 16) < 16 then (if 0 ≤ (Go.bits .and .u8 (bt x0 x5) 15) then (if (Go.bits .and .u8 (bt x0 x5) 15) < 16 then ((some (([bt (⟨#[48,49,50,51,52,53,54,55,56,57,97,98,99,100,101,102]⟩:ByteArray) ((bt x0 x5) / 16),bt (⟨#[48,49,50,51,52,53,54,55,56,57,97,98,99,100,101,102]⟩:ByteArray) (Go.bits .and .u8 (bt x0 x5) 15)]:List Int):List Int)).bind fun y116=> (if x4.length + y116.length < 140737488355328 then (spec_HashText.l0 k x0 (x4 ++ y116) (wrap64 (x5 + 1))) else (none))) else (none)) else (none)) else (none)) else (none)) else (none)) else (some (strOfNums x4,0))
def spec_HashText.f (k:Nat) (a0:ByteArray):Option (ByteArray × Int):=if (a0.size:Int) > 65536 then (some ((⟨#[]⟩:ByteArray),2)) else (if (a0.size:Int)=32 then (spec_HashText.l0 k a0 (([]:List Int)) 0) else (some ((⟨#[]⟩:ByteArray),8)))
theorem spec_HashText.mono_l:∀ k,(∀ y0 y1 y2,LeO (spec_HashText.l0 k y0 y1 y2) (spec_HashText.l0 (k + 1) y0 y1 y2))
  |0=> fun _ _ _ r h=> by simp [spec_HashText.l0] at h
  |k + 1=> by
    have ih0:=spec_HashText.mono_l k
    · intro y0 y1 y2
      unfold spec_HashText.l0
      repeat' first
      |(with_reducible exact ih0 _ _ _)
      |(with_reducible exact LeO.refl _)
      |(with_reducible exact LeO.none _)
      |(with_reducible refine LeO.ite ?_ ?_)
      |(with_reducible refine LeO.bind ?_ (fun _=> ?_))
      |exact ih0 _ _ _
      |exact LeO.none _
      |refine LeO.ite ?_ ?_
      |refine LeO.bind ?_ (fun _=> ?_)
theorem spec_HashText.mono:∀ a0 k,LeO (spec_HashText.f k a0) (spec_HashText.f (k + 1) a0):=by
  intro a0 k
  have ih0:=spec_HashText.mono_l k
  unfold spec_HashText.f
  repeat' first
      |(with_reducible exact ih0 _ _ _)
      |(with_reducible exact LeO.refl _)
      |(with_reducible exact LeO.none _)
      |(with_reducible refine LeO.ite ?_ ?_)
      |(with_reducible refine LeO.bind ?_ (fun _=> ?_))
      |exact ih0 _ _ _
      |exact LeO.none _
      |refine LeO.ite ?_ ?_
      |refine LeO.bind ?_ (fun _=> ?_)
def spec_HashText.T9:Bool × List (List Nat × List Nat):=(true, [([], []),([], []),([], []),([1,2], [1,2]),([3], [3]),([4], [4]),([], []),([], []),([6,7], [6,7]),([8], [8]),([9], [9]),([5,10], [5,10]),([0,11], [0,11]),([12,12,0,1,2,3,4,5,6,7,8,9,10,11,12], [0,12])])
def spec_HashText.B9:List Nat:= [0,0,0,6,14,30,0,0,192,448,960,2046,4095,8191]
theorem spec_HashText.tab9:rtab .any (opsOf Try.f32 9)=spec_HashText.T9:=by kernel_rfl
theorem spec_HashText.bits9:waitsOk spec_HashText.T9.2 spec_HashText.B9=true:=by kernel_rfl
set_option maxHeartbeats 8000000 in
set_option maxRecDepth 100000 in
theorem spec_HashText.calls (k:Nat) (a0:ByteArray) (r1:ByteArray) (r2:Int) (w:World) (h:spec_HashText.f k a0=some (r1,r2)):
    Calls Try.prog 32 #[.string a0] w fun e w'=> e= .returned (.tuple #[.string r1,.int .i64 r2]) ∧ Below w.heap.size w w':=by
  have HB:=Aside0.mk (Below.refl w.heap.size w)
  have H:(if (a0.size:Int) > 65536 then (some ((⟨#[]⟩:ByteArray),2)) else (if (a0.size:Int)=32 then (spec_HashText.l0 k a0 (([]:List Int)) 0) else (some ((⟨#[]⟩:ByteArray),8))))=some (r1,r2):=h
  clear h
  by_cases c2:(a0.size:Int) > 65536
  · rw [if_pos c2] at H
    have c2b0:decide (65536 < (a0.size:Int))=true:=decide_eq_true c2
    have c2b1:decide (65536 < a0.size)=true:=decide_eq_true (by omega)
    clear c2
    simp only [Option.some.injEq,Prod.mk.injEq] at H
    obtain ⟨rfl,rfl⟩:=H
    go_enter Try.func32,Try.ntmps32
    go_wp2
    go_ret2
    exact ⟨by first|rfl|(simp [errW_none,errW_some] <;> rfl)|(simp [*,errW_none,errW_some] <;> rfl),by repeat (first|(with_reducible first|exact HB.out|apply bwA|apply bwN|apply bwD)|exact HB.out)⟩
  · rw [if_neg c2] at H
    have c2b0:decide (65536 < (a0.size:Int))=false:=decide_eq_false c2
    have c2b1:decide (65536 < a0.size)=false:=decide_eq_false (by omega)
    clear c2
    by_cases c3:(a0.size:Int)=32
    · rw [if_pos c3] at H
      have c3b0:((a0.size:Int)==32)=true:=beq_iff_eq.mpr c3
      have c3b1:((a0.size:Int) !=32)=false:=bne_eq_false_iff_eq.mpr c3
      clear c3
      obtain ⟨y113,hy113⟩:∃ y_:List Int,y_=(([]:List Int)):=⟨_,rfl⟩
      replace H:(spec_HashText.l0 k a0 y113 0)=some (r1,r2):=by first|(rw [hy113];with_reducible exact H)|(have H2_:=(Option.bind_some _ _).symm.trans H;rw [hy113];with_reducible exact H2_)|(have H2_:=(Option.bind_some _ _).symm.trans H;with_reducible exact H2_)|with_reducible exact H|(rw [hy113];exact H)|exact H
      have Ny113:=Aside0.mk hy113
      clear hy113
      have H':=Aside0.mk H
      clear H
      go_enter Try.func32,Try.ntmps32
      go_wp2_with (first|((with_reducible refine gate_dst (N:=12) rfl ?_);refine Kd.R_lit (Kd.int .u8) _ 5 ?hg (N:=12) ?hd (xs:=([]:List Int)) (inner:= []) (ok:=fun _=> True) (okp:=fun _=> True) ?hr ?hp (fun _ hk=> hk) trivial (Below.refl _ _) (Nat.le_refl _) (by simp) ?_;(case hd=> rfl);(case hg=> rfl);(case hr=> first|(go_simp;done)|(go_simp;rfl));(case hp=> exact (Reps.none _ _));intro v114 w4 ho5 hb hg_ hnew_;clear hg_ hnew_;(first|rw [← Ny113.out] at ho5|(simp only [Int.reduceToNat] at ho5;rw [← Ny113.out] at ho5));have n0_:=Aside0.mk (Kd.R_lower ho5 (below_size (by repeat (first|(with_reducible first|exact HB.out|apply bwA|apply bwN|apply bwD)|exact HB.out))));have n1_:=Aside0.mk (below_step (by repeat (first|(with_reducible first|exact HB.out|apply bwA|apply bwN|apply bwD)|exact HB.out)) hb);clear HB;have HO115:=n0_;have HB:=n1_;clear n0_ n1_;clear hb ho5))
      go_loopg [4,5] k (fun kq v4 v5 w'=> ∃ (x4_1:List Int) (x5_1:Int),v5= .int .i64 x5_1 ∧ Aside0 (spec_HashText.l0 kq a0 x4_1 x5_1=some (r1,r2)) ∧ Aside0 (kq ≤ k) ∧ Aside0 (Kd.R (Kd.int .u8) 5 w' w.heap.size (fun _=> True) v4 x4_1) ∧ Aside0 (Below w.heap.size w w'))
      case atStart=> exact ⟨(y113),(0),(by first|rfl|(simp;done)|(simp [*];done)),H',⟨Nat.le_refl _⟩,⟨by (with_reducible repeat (first|apply Kd.R_alloc|apply Kd.R_drewN|apply Kd.R_drew));exact HO115.out⟩,⟨by repeat (first|(with_reducible first|exact HB.out|apply bwA|apply bwN|apply bwD)|exact HB.out)⟩⟩
      case round=>
        clear H'
        try clear c2
        try clear c2b0
        try clear c2b1
        try clear p2
        try clear c3
        try clear c3b0
        try clear c3b1
        obtain ⟨x4_1,x5_1,rfl,HA,HK1,HO_4,HB⟩:=hrel
        cases gk with
        |zero=> exact absurd HA.out (by simp [spec_HashText.l0])
        |succ k1=>
          have H:=HA.out
          clear HA
          simp only [spec_HashText.l0] at H
          by_cases c6:x5_1 < (a0.size:Int)
          · rw [if_pos c6] at H
            have c6b0:decide (x5_1 < (a0.size:Int))=true:=decide_eq_true c6
            clear c6
            by_cases c7:0 ≤ x5_1
            · rw [if_pos c7] at H
              have c7b0:decide (0 ≤ x5_1)=true:=decide_eq_true c7
              clear c7
              obtain ⟨ji9,hji9⟩:∃ j_:Int,((bt a0 x5_1) / 16)=j_:=⟨_,rfl⟩
              replace H:(if 0 ≤ (ji9) then (if (ji9) < 16 then (if 0 ≤ (Go.bits .and .u8 (bt a0 x5_1) 15) then (if (Go.bits .and .u8 (bt a0 x5_1) 15) < 16 then ((some (([bt (⟨#[48,49,50,51,52,53,54,55,56,57,97,98,99,100,101,102]⟩:ByteArray) (ji9),bt (⟨#[48,49,50,51,52,53,54,55,56,57,97,98,99,100,101,102]⟩:ByteArray) (Go.bits .and .u8 (bt a0 x5_1) 15)]:List Int):List Int)).bind fun y116=> (if x4_1.length + y116.length < 140737488355328 then (spec_HashText.l0 k1 a0 (x4_1 ++ y116) (wrap64 (x5_1 + 1))) else (none))) else (none)) else (none)) else (none)) else (none))=some (r1,r2):=by first|(rw [hji9] at H;exact H)|(simp only [hji9] at H ⊢;exact H)
              by_cases c10:0 ≤ (ji9)
              · rw [if_pos c10] at H
                have c10b0:decide (0 ≤ (ji9))=true:=decide_eq_true c10
                clear c10
                by_cases c11:(ji9) < 16
                · rw [if_pos c11] at H
                  have c11b0:decide ((ji9) < 16)=true:=decide_eq_true c11
                  clear c11
                  by_cases c14:0 ≤ (Go.bits .and .u8 (bt a0 x5_1) 15)
                  · rw [if_pos c14] at H
                    have c14b0:decide (0 ≤ (Go.bits .and .u8 (bt a0 x5_1) 15))=true:=decide_eq_true c14
                    clear c14
                    by_cases c15:(Go.bits .and .u8 (bt a0 x5_1) 15) < 16
                    · rw [if_pos c15] at H
                      have c15b0:decide ((Go.bits .and .u8 (bt a0 x5_1) 15) < 16)=true:=decide_eq_true c15
                      clear c15
                      obtain ⟨y116,hy116⟩:∃ y_:List Int,y_=(([bt (⟨#[48,49,50,51,52,53,54,55,56,57,97,98,99,100,101,102]⟩:ByteArray) (ji9),bt (⟨#[48,49,50,51,52,53,54,55,56,57,97,98,99,100,101,102]⟩:ByteArray) (Go.bits .and .u8 (bt a0 x5_1) 15)]:List Int)):=⟨_,rfl⟩
                      replace H:(if x4_1.length + y116.length < 140737488355328 then (spec_HashText.l0 k1 a0 (x4_1 ++ y116) (wrap64 (x5_1 + 1))) else (none))=some (r1,r2):=by first|(rw [hy116];with_reducible exact H)|(have H2_:=(Option.bind_some _ _).symm.trans H;rw [hy116];with_reducible exact H2_)|(have H2_:=(Option.bind_some _ _).symm.trans H;with_reducible exact H2_)|with_reducible exact H|(rw [hy116];exact H)|exact H
                      have Ny116:=Aside0.mk hy116
                      clear hy116
                      by_cases c17:x4_1.length + y116.length < 140737488355328
                      · rw [if_pos c17] at H
                        have LMc17:=Aside0.mk c17
                        clear c17
                        obtain ⟨y119,hy119⟩:∃ y_:List Int,y_=(x4_1 ++ y116):=⟨_,rfl⟩
                        replace H:(spec_HashText.l0 k1 a0 y119 (wrap64 (x5_1 + 1)))=some (r1,r2):=by first|(rw [hy119];with_reducible exact H)|(have H2_:=(Option.bind_some _ _).symm.trans H;rw [hy119];with_reducible exact H2_)|(have H2_:=(Option.bind_some _ _).symm.trans H;with_reducible exact H2_)|with_reducible exact H|(rw [hy119];exact H)|exact H
                        have Ny119:=Aside0.mk hy119
                        clear hy119
                        have H':=Aside0.mk H
                        clear H
                        try go_wp2
                        have n0_:=Aside0.mk (Kd.R_drew HO_4.out)
                        have n1_:=Aside0.mk (bwD HB.out)
                        clear HO_4
                        clear HB
                        have HO_4:=n0_
                        have HB:=n1_
                        clear n0_ n1_
                        have p8:0 ≤ (x5_1:Int):=of_decide_eq_true (by first|(with_reducible assumption)|assumption)
                        have q8:x5_1 < (a0.size:Int):=of_decide_eq_true (by first|(with_reducible assumption)|assumption)
                        have hx8:=bt_at a0 x5_1
                        replace p8:=eq_true p8
                        replace q8:=eq_true q8
                        have p12:0 ≤ ((ji9):Int):=of_decide_eq_true (by first|(with_reducible assumption)|assumption)
                        have q12:(ji9) < (16:Int):=of_decide_eq_true (by first|(with_reducible assumption)|assumption)
                        have hx12:=bt_at (⟨#[48,49,50,51,52,53,54,55,56,57,97,98,99,100,101,102]⟩:ByteArray) (ji9)
                        replace p12:=eq_true p12
                        replace q12:=eq_true q12
                        have p13:0 ≤ (x5_1:Int):=of_decide_eq_true (by first|(with_reducible assumption)|assumption)
                        have q13:x5_1 < (a0.size:Int):=of_decide_eq_true (by first|(with_reducible assumption)|assumption)
                        have hx13:=bt_at a0 x5_1
                        replace p13:=eq_true p13
                        replace q13:=eq_true q13
                        have p16:0 ≤ ((Go.bits .and .u8 (bt a0 x5_1) 15):Int):=of_decide_eq_true (by first|(with_reducible assumption)|assumption)
                        have q16:(Go.bits .and .u8 (bt a0 x5_1) 15) < (16:Int):=of_decide_eq_true (by first|(with_reducible assumption)|assumption)
                        have hx16:=bt_at (⟨#[48,49,50,51,52,53,54,55,56,57,97,98,99,100,101,102]⟩:ByteArray) (Go.bits .and .u8 (bt a0 x5_1) 15)
                        replace p16:=eq_true p16
                        replace q16:=eq_true q16
                        refine start_ (n:=14) (S:=fun w'=> True) (ds:= []) #[false,false,false,false,false,false,false,false,false,false,false,false,false,false] (by kernel_rfl) rfl rfl trivial (fun hHeld=> ?_);refine with_tabW spec_HashText.tab9 spec_HashText.bits9 (fun HT_ HW_=> ?_)
                        generalize wr.drew=w18 at HO_4 HB hHeld ⊢
                        refine pure_ (i:=0) (N:=some 19) (v:=?_) (a':=?_) #[true,false,false,false,false,false,false,false,false,false,false,false,false,false] rfl rfl (any_of HT_.out (by kernel_rfl)) (fun _ _ _ h=> h) (Or.inl ⟨by rfl,?_⟩) ?_ ?_
                        rotate_left
                        · intro w'
                          go_simp
                          with_reducible rfl
                        rotate_left
                        · simp only [Act.put,List.setIfInBounds_toArray,List.set_cons_zero,List.set_cons_succ,i64_w,i32_w]
                          rfl
                        refine pure_ (i:=1) (N:=some 20) (v:=?_) (a':=?_) #[true,true,false,false,false,false,false,false,false,false,false,false,false,false] rfl rfl (any_of HT_.out (by kernel_rfl)) (fun _ _ _ h=> h) (Or.inl ⟨by rfl,?_⟩) ?_ ?_
                        rotate_left
                        · intro w'
                          go_simp
                          with_reducible rfl
                        rotate_left
                        · simp only [Act.put,List.setIfInBounds_toArray,List.set_cons_zero,List.set_cons_succ,i64_w,i32_w]
                          rfl
                        refine pure_ (i:=2) (N:=some 21) (v:=?_) (a':=?_) #[true,true,true,false,false,false,false,false,false,false,false,false,false,false] rfl rfl (any_of HT_.out (by kernel_rfl)) (fun _ _ _ h=> h) (Or.inl ⟨by rfl,?_⟩) ?_ ?_
                        rotate_left
                        · intro w'
                          go_simp
                          with_reducible rfl
                        rotate_left
                        · simp only [Act.put,List.setIfInBounds_toArray,List.set_cons_zero,List.set_cons_succ,i64_w,i32_w]
                          rfl
                        refine pure_ (i:=6) (N:=some 25) (v:=?_) (a':=?_) #[true,true,true,false,false,false,true,false,false,false,false,false,false,false] rfl rfl (any_of HT_.out (by kernel_rfl)) (fun _ _ _ h=> h) (Or.inl ⟨by rfl,?_⟩) ?_ ?_
                        rotate_left
                        · intro w'
                          go_simp
                          with_reducible rfl
                        rotate_left
                        · simp only [Act.put,List.setIfInBounds_toArray,List.set_cons_zero,List.set_cons_succ,i64_w,i32_w]
                          rfl
                        refine pure_ (i:=7) (N:=some 26) (v:=?_) (a':=?_) #[true,true,true,false,false,false,true,true,false,false,false,false,false,false] rfl rfl (any_of HT_.out (by kernel_rfl)) (fun _ _ _ h=> h) (Or.inl ⟨by rfl,?_⟩) ?_ ?_
                        rotate_left
                        · intro w'
                          go_simp
                          with_reducible rfl
                        rotate_left
                        · simp only [Act.put,List.setIfInBounds_toArray,List.set_cons_zero,List.set_cons_succ,i64_w,i32_w]
                          rfl
                        refine take_ (i:=3) (N:=some 22) (v:=?_) (a':=?_) #[true,true,true,true,false,false,true,true,false,false,false,false,false,false] rfl rfl (take_ofW HT_.out HW_.out (by kernel_rfl)) (fun _ _ _ h=> h) (Or.inl ⟨by rfl,?_⟩) hHeld ?_ ?_
                        rotate_left
                        · intro w' _
                          go_simp
                          with_reducible rfl
                        rotate_left
                        · simp only [Act.put,List.setIfInBounds_toArray,List.set_cons_zero,List.set_cons_succ,i64_w,i32_w]
                          rfl
                        refine pure_ (i:=4) (N:=some 23) (v:=?_) (a':=?_) #[true,true,true,true,true,false,true,true,false,false,false,false,false,false] rfl rfl (any_of HT_.out (by kernel_rfl)) (fun _ _ _ h=> h) (Or.inl ⟨by rfl,?_⟩) ?_ ?_
                        rotate_left
                        · intro w'
                          go_simp
                          with_reducible rfl
                        rotate_left
                        · simp only [Act.put,List.setIfInBounds_toArray,List.set_cons_zero,List.set_cons_succ,i64_w,i32_w]
                          rfl
                        refine take_ (i:=5) (N:=some 24) (v:=?_) (a':=?_) #[true,true,true,true,true,true,true,true,false,false,false,false,false,false] rfl rfl (take_ofW HT_.out HW_.out (by kernel_rfl)) (fun _ _ _ h=> h) (Or.inl ⟨by rfl,?_⟩) hHeld ?_ ?_
                        rotate_left
                        · intro w' _
                          go_simp
                          with_reducible rfl
                        rotate_left
                        · simp only [Act.put,List.setIfInBounds_toArray,List.set_cons_zero,List.set_cons_succ,i64_w,i32_w]
                          rfl
                        refine take_ (i:=8) (N:=some 27) (v:=?_) (a':=?_) #[true,true,true,true,true,true,true,true,true,false,false,false,false,false] rfl rfl (take_ofW HT_.out HW_.out (by kernel_rfl)) (fun _ _ _ h=> h) (Or.inl ⟨by rfl,?_⟩) hHeld ?_ ?_
                        rotate_left
                        · intro w' _
                          go_simp
                          with_reducible rfl
                        rotate_left
                        · simp only [Act.put,List.setIfInBounds_toArray,List.set_cons_zero,List.set_cons_succ,i64_w,i32_w]
                          rfl
                        refine pure_ (i:=9) (N:=some 28) (v:=?_) (a':=?_) #[true,true,true,true,true,true,true,true,true,true,false,false,false,false] rfl rfl (any_of HT_.out (by kernel_rfl)) (fun _ _ _ h=> h) (Or.inl ⟨by rfl,?_⟩) ?_ ?_
                        rotate_left
                        · intro w'
                          go_simp
                          with_reducible rfl
                        rotate_left
                        · simp only [Act.put,List.setIfInBounds_toArray,List.set_cons_zero,List.set_cons_succ,i64_w,i32_w]
                          rfl
                        refine take_ (i:=10) (N:=some 29) (v:=?_) (a':=?_) #[true,true,true,true,true,true,true,true,true,true,true,false,false,false] rfl rfl (take_ofW HT_.out HW_.out (by kernel_rfl)) (fun _ _ _ h=> h) (Or.inl ⟨by rfl,?_⟩) hHeld ?_ ?_
                        rotate_left
                        · intro w' _
                          go_simp
                          with_reducible rfl
                        rotate_left
                        · simp only [Act.put,List.setIfInBounds_toArray,List.set_cons_zero,List.set_cons_succ,i64_w,i32_w]
                          rfl
                        refine one_ (i:=11) (N:=some 30) #[true,true,true,true,true,true,true,true,true,true,true,true,false,false] rfl rfl (one_of HT_.out (by kernel_rfl)) (by decide) (fun K hK=> ?_)
                        refine Kd.R_lit_step (Kd.int .u8) _ 5 ?hg (N:=30) ?hd (xs:=([bt (⟨#[48,49,50,51,52,53,54,55,56,57,97,98,99,100,101,102]⟩:ByteArray) (ji9),bt (⟨#[48,49,50,51,52,53,54,55,56,57,97,98,99,100,101,102]⟩:ByteArray) (Go.bits .and .u8 (bt a0 x5_1) 15)]:List Int)) (inner:= [.int .u8 (bt (⟨#[48,49,50,51,52,53,54,55,56,57,97,98,99,100,101,102]⟩:ByteArray) (ji9)),.int .u8 (bt (⟨#[48,49,50,51,52,53,54,55,56,57,97,98,99,100,101,102]⟩:ByteArray) (Go.bits .and .u8 (bt a0 x5_1) 15))]) (ok:=fun _=> True) (okp:=fun _=> True) ?hr ?hp (fun _ hk=> hk) trivial (Below.refl _ _) (Nat.le_refl _) (by simp) ?_;(case hd=> rfl);(case hg=> rfl);(case hr=> first|(go_simp;done)|(go_simp;rfl));(case hp=> exact (Reps.one (show Kd.M (Kd.int .u8) _ _ _ (bt (⟨#[48,49,50,51,52,53,54,55,56,57,97,98,99,100,101,102]⟩:ByteArray) (ji9)) [.int .u8 (bt (⟨#[48,49,50,51,52,53,54,55,56,57,97,98,99,100,101,102]⟩:ByteArray) (ji9))] from rfl) (Reps.one (show Kd.M (Kd.int .u8) _ _ _ (bt (⟨#[48,49,50,51,52,53,54,55,56,57,97,98,99,100,101,102]⟩:ByteArray) (Go.bits .and .u8 (bt a0 x5_1) 15)) [.int .u8 (bt (⟨#[48,49,50,51,52,53,54,55,56,57,97,98,99,100,101,102]⟩:ByteArray) (Go.bits .and .u8 (bt a0 x5_1) 15))] from rfl) (Reps.none _ _))))
                        intro v117 w19 ho20 hb hg_ hnew_
                        clear hg_ hnew_
                        (first|rw [← Ny116.out] at ho20|(simp only [Int.reduceToNat] at ho20;rw [← Ny116.out] at ho20))
                        have n0_:=Aside0.mk (Kd.R_elder' (by (with_reducible repeat (first|apply Kd.R_alloc|apply Kd.R_drewN|apply Kd.R_drew));exact HO_4.out) (Kd.R_base ho20) hb)
                        have n1_:=Aside0.mk (Kd.R_lower (Kd.R_new' ho20 (Kd.R_lt (by (with_reducible repeat (first|apply Kd.R_alloc|apply Kd.R_drewN|apply Kd.R_drew));exact HO_4.out))) (below_size (by repeat (first|(with_reducible first|exact HB.out|apply bwA|apply bwN|apply bwD)|exact HB.out))))
                        have n2_:=Aside0.mk (below_step (by repeat (first|(with_reducible first|exact HB.out|apply bwA|apply bwN|apply bwD)|exact HB.out)) hb)
                        clear HO_4
                        clear HB
                        have HO_4:=n0_
                        have HO118:=n1_
                        have HB:=n2_
                        clear n0_ n1_ n2_
                        clear hb ho20
                        obtain ⟨Ao22,co22,eo22⟩:=Kd.R_slice HO118.out
                        (first|subst eo22|(injection eo22 with f1_ f2_ f3_;have f4_:=f1_.symm;have f5_:=f3_.symm;clear f1_ f2_ f3_;subst f4_;subst f5_))
                        refine hK.out _ _ trivial (fun hHeld=> ?_)
                        clear hK K
                        refine norm_ (a':=?_) ?_ ?_
                        rotate_left
                        · show Act.put _ (some 30) _=_
                          simp only [Act.put,List.setIfInBounds_toArray,List.set_cons_zero,List.set_cons_succ,i64_w,i32_w]
                          rfl
                        refine one_ (i:=12) (N:=some 31) #[true,true,true,true,true,true,true,true,true,true,true,true,true,false] rfl rfl (one_of HT_.out (by kernel_rfl)) (by decide) (fun K hK=> ?_)
                        refine Kd.R_append_rows_step (Kd.int .u8) (w0:=w) w.heap.size (by rfl) (.tmp 19) (.tmp 30) 25 5 (.int .u8 0) 1 rfl Try.underlying25 info5 rfl (by decide) (by omega) u4 x4_1 y116 _ _ _ (fun k_=> some k_ ≠ (.slice Ao22 y116.length co22:Value).ownBlock) (fun _=> False) rfl rfl ?aO ?aR (fun _ _ h=> h) (fun _ h=> h.elim) ?aF ?aB ?aS ?aL ?_
                        (case aR=> repeat (first|exact (Kd.R_reads' HO118.out).2.2|(with_reducible refine Kd.C_alloc ?_ _)|(with_reducible refine Kd.C_drewN ?_ _)|(with_reducible refine Kd.C_drew ?_)))
                        (case aB=> exact (by repeat (first|(with_reducible first|exact HB.out|apply bwA|apply bwN|apply bwD)|exact HB.out)))
                        (case aF=> exact (fun k_ hk=> Kd.fresh' (Kd.R_lt (by (with_reducible repeat (first|apply Kd.R_alloc|apply Kd.R_drewN|apply Kd.R_drew));exact HO118.out)) k_ hk))
                        (case aO=> exact (by (with_reducible repeat (first|apply Kd.R_alloc|apply Kd.R_drewN|apply Kd.R_drew));exact Kd.R_mono HO_4.out (fun _ hk=> hk.2)))
                        (case aS=> exact (below_size (by repeat (first|(with_reducible first|exact HB.out|apply bwA|apply bwN|apply bwD)|exact HB.out))))
                        (case aL=> have:=LMc17.out;omega)
                        intro v120 w21 ho hb hg hat
                        rw [← Ny119.out] at ho
                        have n0_:=Aside0.mk (Kd.R_after (ok:=(fun _=> True)) (by (with_reducible repeat (first|apply Kd.R_alloc|apply Kd.R_drewN|apply Kd.R_drew));exact HO118.out) hg hat)
                        have n1_:=Aside0.mk (hb)
                        have n2_:=Aside0.mk (ho)
                        clear HO118
                        clear HB
                        clear HO_4
                        have HO118:=n0_
                        have HB:=n1_
                        have HO121:=n2_
                        clear n0_ n1_ n2_
                        clear ho hb hg hat
                        refine hK.out _ _ trivial (fun hHeld=> ?_)
                        clear hK K
                        refine norm_ (a':=?_) ?_ ?_
                        rotate_left
                        · show Act.put _ (some 31) _=_
                          simp only [Act.put,List.setIfInBounds_toArray,List.set_cons_zero,List.set_cons_succ,i64_w,i32_w]
                          rfl
                        refine pure_ (i:=13) (N:=some 4) (v:=?_) (a':=?_) #[true,true,true,true,true,true,true,true,true,true,true,true,true,true] rfl rfl (any_of HT_.out (by kernel_rfl)) (fun _ _ _ h=> h) (Or.inl ⟨by rfl,?_⟩) ?_ ?_
                        rotate_left
                        · intro w'
                          go_simp
                          with_reducible rfl
                        rotate_left
                        · simp only [Act.put,List.setIfInBounds_toArray,List.set_cons_zero,List.set_cons_succ,i64_w,i32_w]
                          rfl
                        refine done_ (done_of HT_.out (by kernel_rfl)) ?_
                        try go_wp2
                        go_roundg k1
                        case measure=> have:=HK1.out;omega
                        case rel=> exact ⟨(y119),(wrap64 (x5_1 + 1)),(by first|rfl|(simp;done)|(simp [*];done)),H',⟨by have:=HK1.out;omega⟩,⟨by (with_reducible repeat (first|apply Kd.R_alloc|apply Kd.R_drewN|apply Kd.R_drew));exact Kd.R_mono HO121.out (fun _ hk=> trivial)⟩,⟨by repeat (first|(with_reducible first|exact HB.out|apply bwA|apply bwN|apply bwD)|exact HB.out)⟩⟩
                      · rw [if_neg c17] at H
                        exact absurd H (by simp)
                    · rw [if_neg c15] at H
                      exact absurd H (by simp)
                  · rw [if_neg c14] at H
                    exact absurd H (by simp)
                · rw [if_neg c11] at H
                  exact absurd H (by simp)
              · rw [if_neg c10] at H
                exact absurd H (by simp)
            · rw [if_neg c7] at H
              exact absurd H (by simp)
          · rw [if_neg c6] at H
            have c6b0:decide (x5_1 < (a0.size:Int))=false:=decide_eq_false c6
            clear c6
            simp only [Option.some.injEq,Prod.mk.injEq] at H
            obtain ⟨rfl,rfl⟩:=H
            have hcv23:=own_string (P:=Try.prog) Try.underlying25 Try.underlying5 Try.underlying9 (Kd.own_of_R HO_4.out)
            go_wp2
            go_ret2
            exact ⟨by first|rfl|(simp [errW_none,errW_some] <;> rfl)|(simp [*,errW_none,errW_some] <;> rfl),by repeat (first|(with_reducible first|exact HB.out|apply bwA|apply bwN|apply bwD)|exact HB.out)⟩
    · rw [if_neg c3] at H
      have c3b0:((a0.size:Int)==32)=false:=beq_eq_false_iff_ne.mpr c3
      have c3b1:((a0.size:Int) !=32)=true:=bne_iff_ne.mpr c3
      simp only [Option.some.injEq,Prod.mk.injEq] at H
      obtain ⟨rfl,rfl⟩:=H
      go_enter Try.func32,Try.ntmps32
      go_wp2
      go_ret2
      exact ⟨by first|rfl|(simp [errW_none,errW_some] <;> rfl)|(simp [*,errW_none,errW_some] <;> rfl),by repeat (first|(with_reducible first|exact HB.out|apply bwA|apply bwN|apply bwD)|exact HB.out)⟩
def impl_KeccakCalls.f (a0:Int):Option (Int × Int):=(impl_in.f a0 0 65536).bind fun t122=> (if t122=true then (some (wrap64 ((wrap64 (Int.tdiv a0 136)) + 1),0)) else (some (0,4)))
set_option maxHeartbeats 8000000 in
set_option maxRecDepth 100000 in
theorem impl_KeccakCalls.calls (a0:Int) (r1:Int) (r2:Int) (w:World) (h:impl_KeccakCalls.f a0=some (r1,r2)):
    Calls Try.prog 33 #[.int .i64 a0] w fun e w'=> e= .returned (.tuple #[.int .i64 r1,.int .i64 r2]) ∧ Drawn0 w w':=by
  have H:((impl_in.f a0 0 65536).bind fun t122=> (if t122=true then (some (wrap64 ((wrap64 (Int.tdiv a0 136)) + 1),0)) else (some (0,4))))=some (r1,r2):=h
  clear h
  replace H:=Option.bind_eq_some_iff.mp H
  obtain ⟨t122,A20,H⟩:=H
  replace H:(if t122=true then (some (wrap64 ((wrap64 (Int.tdiv a0 136)) + 1),0)) else (some (0,4)))=some (r1,r2):=H
  have A2:=Aside0.mk A20
  clear A20
  by_cases c3:t122=true
  · subst c3
    have H1:(some (wrap64 ((wrap64 (Int.tdiv a0 136)) + 1),0))=some (r1,r2):=by rw [if_pos rfl] at H;exact H
    clear H
    have H:=H1
    clear H1
    simp only [Option.some.injEq,Prod.mk.injEq] at H
    obtain ⟨rfl,rfl⟩:=H
    go_enter Try.func33,Try.ntmps33
    go_wp2_with (first|((with_reducible refine gate_callee (f:=95) rfl ?_);refine goesL_ (some 5) rfl rfl Try.func95 (by kernel_rfl) rfl #[.int .i64 a0,.int .i64 0,.int .i64 65536] rfl (by (try simp only [List.map_toArray,List.map_cons,List.map_nil]);first|done|rfl|(simp only [List.length_drop,List.length_take];rfl)) ?_;(with_reducible refine (impl_in.calls a0 0 65536 true _ A2.out).mono ?_);rintro e w' ⟨rfl,⟨nd,rfl⟩⟩;refine ⟨_,rfl,?_⟩))
    go_ret2
    exact ⟨by first|rfl|(simp;done)|(simp [*];done),by repeat (first|exact Drawn0.refl _|apply Drawn0.step)⟩
  · replace c3:=Bool.eq_false_iff.mpr c3
    subst c3
    have H1:(some (0,4))=some (r1,r2):=by rw [if_neg (show ¬ (false=true) by decide)] at H;exact H
    clear H
    have H:=H1
    clear H1
    simp only [Option.some.injEq,Prod.mk.injEq] at H
    obtain ⟨rfl,rfl⟩:=H
    go_enter Try.func33,Try.ntmps33
    go_wp2_with (first|((with_reducible refine gate_callee (f:=95) rfl ?_);refine goesL_ (some 5) rfl rfl Try.func95 (by kernel_rfl) rfl #[.int .i64 a0,.int .i64 0,.int .i64 65536] rfl (by (try simp only [List.map_toArray,List.map_cons,List.map_nil]);first|done|rfl|(simp only [List.length_drop,List.length_take];rfl)) ?_;(with_reducible refine (impl_in.calls a0 0 65536 false _ A2.out).mono ?_);rintro e w' ⟨rfl,⟨nd,rfl⟩⟩;refine ⟨_,rfl,?_⟩))
    go_ret2
    exact ⟨by first|rfl|(simp;done)|(simp [*];done),by repeat (first|exact Drawn0.refl _|apply Drawn0.step)⟩
end Go.Proofs.Ytlogocmojnhpbaa.Print
namespace Go.Proofs.Ytlogocmojnhpbaa.Print
open Go.RowKit Go.Proofs.YtlogocmojnhpbaaW.PrintWords Go.Proofs.YtlogocmojnhpbaaW.PrintLast Go.Proofs.YtlogocmojnhpbaaW.PrintMore
attribute [local go_sem] max2_int min2_int max_two min_two max_three min_three max_four min_four
set_option linter.unusedVariables false
set_option linter.unusedSimpArgs false
def spec_Keccak256.f (l0:List Int):Option (ByteArray):=if (l0.length:Int) > 65536 then (some (⟨#[]⟩:ByteArray)) else ((spec_l03Hash.f (strOfNums l0)).bind fun t105=> (some t105))
set_option maxHeartbeats 8000000 in
set_option maxRecDepth 100000 in
theorem spec_Keccak256.calls (A0:Option Addr) (c0:Nat) (l0:List Int) (r:ByteArray) (w:World) (hr0:Kd.C (Kd.int .u8) w A0 l0.length l0) (hc0:l0.length ≤ c0) (h:spec_Keccak256.f l0=some r):
    Calls Try.prog 23 #[.slice A0 l0.length c0] w fun e w'=> e= .returned (.string r) ∧ Below w.heap.size w w':=by
  have HR0:=Aside0.mk hr0
  have HC0:=Aside0.mk hc0
  clear hr0 hc0
  have HB:=Aside0.mk (Below.refl w.heap.size w)
  have H:(if (l0.length:Int) > 65536 then (some (⟨#[]⟩:ByteArray)) else ((spec_l03Hash.f (strOfNums l0)).bind fun t105=> (some t105)))=some r:=h
  clear h
  by_cases c2:(l0.length:Int) > 65536
  · rw [if_pos c2] at H
    have c2b0:decide (65536 < (l0.length:Int))=true:=decide_eq_true c2
    have c2b1:decide (65536 < l0.length)=true:=decide_eq_true (by omega)
    clear c2
    obtain rfl:=Option.some.inj H
    go_enter Try.func23,Try.ntmps23
    go_wp2
    go_ret
    exact ⟨by first|rfl|(simp [errW_none,errW_some] <;> rfl)|(simp [*,errW_none,errW_some] <;> rfl),by repeat (first|(with_reducible first|exact HB.out|apply bwA|apply bwN|apply bwD)|exact HB.out)⟩
  · rw [if_neg c2] at H
    have c2b0:decide (65536 < (l0.length:Int))=false:=decide_eq_false c2
    have c2b1:decide (65536 < l0.length)=false:=decide_eq_false (by omega)
    clear c2
    replace H:=Option.bind_eq_some_iff.mp H
    obtain ⟨t105,A30,H⟩:=H
    replace H:(some t105)=some r:=H
    have A3:=Aside0.mk A30
    clear A30
    obtain rfl:=Option.some.inj H
    have hcv4:=Kd.C_string (P:=Try.prog) (A:=A0) (c:=c0) Try.underlying25 Try.underlying5 Try.underlying9 HR0.out
    go_enter Try.func23,Try.ntmps23
    go_wp2_with (first|((with_reducible refine gate_callee (f:=87) rfl ?_);refine goesL_ (some 8) rfl rfl Try.func87 (by kernel_rfl) rfl #[.string (strOfNums l0)] rfl (by (try simp only [List.map_toArray,List.map_cons,List.map_nil]);first|done|rfl|(simp only [List.length_drop,List.length_take];rfl)) ?_;(with_reducible refine (spec_l03Hash.calls (strOfNums l0) t105 _ A3.out).mono ?_);rintro e w5 ⟨rfl,hb⟩;refine ⟨_,rfl,?_⟩;have n0_:=Aside0.mk (below_step (by repeat (first|(with_reducible first|exact HB.out|apply bwA|apply bwN|apply bwD)|exact HB.out)) hb);clear HB;have HB:=n0_;clear n0_;(try clear hb);(try clear hb2);(try clear hk);(try clear hi)))
    go_ret
    exact ⟨by first|rfl|(simp [errW_none,errW_some] <;> rfl)|(simp [*,errW_none,errW_some] <;> rfl),by repeat (first|(with_reducible first|exact HB.out|apply bwA|apply bwN|apply bwD)|exact HB.out)⟩
end Go.Proofs.Ytlogocmojnhpbaa.Print
