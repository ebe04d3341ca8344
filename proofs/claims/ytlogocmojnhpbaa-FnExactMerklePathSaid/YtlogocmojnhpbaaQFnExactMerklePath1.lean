-- Packed by a program of this session (slim.py) out of printed texts; not trusted, Lean checks it.
import Derived.Test.YtlogocmojnhpbaaP0
import Derived.Test.YtlogocmojnhpbaaK4
import Derived.Test.YtlogocmojnhpbaaQFnExactMerklePath0
namespace Go.Proofs.Ytlogocmojnhpbaa.Print
open Go.RowKit Go.Proofs.YtlogocmojnhpbaaW.PrintWords Go.Proofs.YtlogocmojnhpbaaW.PrintLast Go.Proofs.YtlogocmojnhpbaaW.PrintMore
attribute [local go_sem] max2_int min2_int max_two min_two max_three min_three max_four min_four
set_option linter.unusedVariables false
set_option linter.unusedSimpArgs false
def impl_in.f (a0:Int) (a1:Int) (a2:Int):Option (Bool):=if a1 ≤ a0 then (some (decide (a0 ≤ a2))) else (some false)
set_option maxHeartbeats 8000000 in
set_option maxRecDepth 100000 in
theorem impl_in.calls (a0:Int) (a1:Int) (a2:Int) (r:Bool) (w:World) (h:impl_in.f a0 a1 a2=some r):
    Calls Try.prog 95 #[.int .i64 a0,.int .i64 a1,.int .i64 a2] w fun e w'=> e= .returned (.bool r) ∧ Drawn0 w w':=by
  have H:(if a1 ≤ a0 then (some (decide (a0 ≤ a2))) else (some false))=some r:=h
  clear h
  by_cases c4:a1 ≤ a0
  · rw [if_pos c4] at H
    have c4b0:decide (a1 ≤ a0)=true:=decide_eq_true c4
    clear c4
    obtain rfl:=Option.some.inj H
    go_enter Try.func95,Try.ntmps95
    go_wp2
    go_ret
    exact ⟨by first|rfl|(simp;done)|(simp [*];done),by repeat (first|exact Drawn0.refl _|apply Drawn0.step)⟩
  · rw [if_neg c4] at H
    have c4b0:decide (a1 ≤ a0)=false:=decide_eq_false c4
    clear c4
    obtain rfl:=Option.some.inj H
    go_enter Try.func95,Try.ntmps95
    go_wp2
    go_ret
    exact ⟨by first|rfl|(simp;done)|(simp [*];done),by repeat (first|exact Drawn0.refl _|apply Drawn0.step)⟩
def impl_FieldOK.f (a0:Int):Option (Bool):=(impl_in.f a0 0 2130706432).bind fun t240=> (some t240)
set_option maxHeartbeats 8000000 in
set_option maxRecDepth 100000 in
theorem impl_FieldOK.calls (a0:Int) (r:Bool) (w:World) (h:impl_FieldOK.f a0=some r):
    Calls Try.prog 154 #[.int .i64 a0] w fun e w'=> e= .returned (.bool r) ∧ Drawn0 w w':=by
  have H:((impl_in.f a0 0 2130706432).bind fun t240=> (some t240))=some r:=h
  clear h
  replace H:=Option.bind_eq_some_iff.mp H
  obtain ⟨t240,A20,H⟩:=H
  replace H:(some t240)=some r:=H
  have A2:=Aside0.mk A20
  clear A20
  obtain rfl:=Option.some.inj H
  go_enter Try.func154,Try.ntmps154
  go_wp2_with (first|((with_reducible refine gate_callee (f:=95) rfl ?_);refine goesL_ (some 4) rfl rfl Try.func95 (by kernel_rfl) rfl #[.int .i64 a0,.int .i64 0,.int .i64 2130706432] rfl (by (try simp only [List.map_toArray,List.map_cons,List.map_nil]);first|done|rfl|(simp only [List.length_drop,List.length_take];rfl)) ?_;(with_reducible refine (impl_in.calls a0 0 2130706432 t240 _ A2.out).mono ?_);rintro e w' ⟨rfl,⟨nd,rfl⟩⟩;refine ⟨_,rfl,?_⟩))
  go_ret
  exact ⟨by first|rfl|(simp;done)|(simp [*];done),by repeat (first|exact Drawn0.refl _|apply Drawn0.step)⟩
def impl_isPower.f (a0:Int) (a1:Int):Option (Bool):=(impl_in.f a0 1 a1).bind fun t1086=> (if t1086=true then (some ((Go.bits .and .i64 a0 (wrap64 (a0 - 1)))==0)) else (some false))
set_option maxHeartbeats 8000000 in
set_option maxRecDepth 100000 in
theorem impl_isPower.calls (a0:Int) (a1:Int) (r:Bool) (w:World) (h:impl_isPower.f a0 a1=some r):
    Calls Try.prog 143 #[.int .i64 a0,.int .i64 a1] w fun e w'=> e= .returned (.bool r) ∧ Drawn0 w w':=by
  have H:((impl_in.f a0 1 a1).bind fun t1086=> (if t1086=true then (some ((Go.bits .and .i64 a0 (wrap64 (a0 - 1)))==0)) else (some false)))=some r:=h
  clear h
  replace H:=Option.bind_eq_some_iff.mp H
  obtain ⟨t1086,A30,H⟩:=H
  replace H:(if t1086=true then (some ((Go.bits .and .i64 a0 (wrap64 (a0 - 1)))==0)) else (some false))=some r:=H
  have A3:=Aside0.mk A30
  clear A30
  by_cases c4:t1086=true
  · subst c4
    have H1:(some ((Go.bits .and .i64 a0 (wrap64 (a0 - 1)))==0))=some r:=by rw [if_pos rfl] at H;exact H
    clear H
    have H:=H1
    clear H1
    obtain rfl:=Option.some.inj H
    go_enter Try.func143,Try.ntmps143
    go_wp2_with (first|((with_reducible refine gate_callee (f:=95) rfl ?_);refine goesL_ (some 7) rfl rfl Try.func95 (by kernel_rfl) rfl #[.int .i64 a0,.int .i64 1,.int .i64 a1] rfl (by (try simp only [List.map_toArray,List.map_cons,List.map_nil]);first|done|rfl|(simp only [List.length_drop,List.length_take];rfl)) ?_;(with_reducible refine (impl_in.calls a0 1 a1 true _ A3.out).mono ?_);rintro e w' ⟨rfl,⟨nd,rfl⟩⟩;refine ⟨_,rfl,?_⟩))
    go_ret
    exact ⟨by first|rfl|(simp;done)|(simp [*];done),by repeat (first|exact Drawn0.refl _|apply Drawn0.step)⟩
  · replace c4:=Bool.eq_false_iff.mpr c4
    subst c4
    have H1:(some false)=some r:=by rw [if_neg (show ¬ (false=true) by decide)] at H;exact H
    clear H
    have H:=H1
    clear H1
    obtain rfl:=Option.some.inj H
    go_enter Try.func143,Try.ntmps143
    go_wp2_with (first|((with_reducible refine gate_callee (f:=95) rfl ?_);refine goesL_ (some 7) rfl rfl Try.func95 (by kernel_rfl) rfl #[.int .i64 a0,.int .i64 1,.int .i64 a1] rfl (by (try simp only [List.map_toArray,List.map_cons,List.map_nil]);first|done|rfl|(simp only [List.length_drop,List.length_take];rfl)) ?_;(with_reducible refine (impl_in.calls a0 1 a1 false _ A3.out).mono ?_);rintro e w' ⟨rfl,⟨nd,rfl⟩⟩;refine ⟨_,rfl,?_⟩))
    go_ret
    exact ⟨by first|rfl|(simp;done)|(simp [*];done),by repeat (first|exact Drawn0.refl _|apply Drawn0.step)⟩
def impl_leavesCode.f (l0:List ByteArray):Option (Int):=if (l0.length:Int) > 4096 then (some 2) else ((impl_isPower.f (l0.length:Int) 256).bind fun t1206=> (if t1206=true then ((con_leaf.f l0).bind fun t1207=> (if t1207=true then (some 4) else (some 0))) else (some 8)))
set_option maxHeartbeats 8000000 in
set_option maxRecDepth 100000 in
theorem impl_leavesCode.calls (A0:Option Addr) (c0:Nat) (l0:List ByteArray) (r:Int) (w:World) (hr0:Kd.C Kd.string w A0 l0.length l0) (hc0:l0.length ≤ c0) (h:impl_leavesCode.f l0=some r):
    Calls Try.prog 100 #[.slice A0 l0.length c0] w fun e w'=> e= .returned (.int .i64 r) ∧ Below w.heap.size w w':=by
  have HR0:=Aside0.mk hr0
  have HC0:=Aside0.mk hc0
  clear hr0 hc0
  have HB:=Aside0.mk (Below.refl w.heap.size w)
  have H:(if (l0.length:Int) > 4096 then (some 2) else ((impl_isPower.f (l0.length:Int) 256).bind fun t1206=> (if t1206=true then ((con_leaf.f l0).bind fun t1207=> (if t1207=true then (some 4) else (some 0))) else (some 8))))=some r:=h
  clear h
  by_cases c2:(l0.length:Int) > 4096
  · rw [if_pos c2] at H
    have c2b0:decide (4096 < (l0.length:Int))=true:=decide_eq_true c2
    have c2b1:decide (4096 < l0.length)=true:=decide_eq_true (by omega)
    clear c2
    obtain rfl:=Option.some.inj H
    go_enter Try.func100,Try.ntmps100
    go_wp2
    go_ret
    exact ⟨by first|rfl|(simp [errW_none,errW_some] <;> rfl)|(simp [*,errW_none,errW_some] <;> rfl),by repeat (first|(with_reducible first|exact HB.out|apply bwA|apply bwN|apply bwD)|exact HB.out)⟩
  · rw [if_neg c2] at H
    have c2b0:decide (4096 < (l0.length:Int))=false:=decide_eq_false c2
    have c2b1:decide (4096 < l0.length)=false:=decide_eq_false (by omega)
    clear c2
    replace H:=Option.bind_eq_some_iff.mp H
    obtain ⟨t1206,A30,H⟩:=H
    replace H:(if t1206=true then ((con_leaf.f l0).bind fun t1207=> (if t1207=true then (some 4) else (some 0))) else (some 8))=some r:=H
    have A3:=Aside0.mk A30
    clear A30
    by_cases c4:t1206=true
    · subst c4
      have H1:((con_leaf.f l0).bind fun t1207=> (if t1207=true then (some 4) else (some 0)))=some r:=by rw [if_pos rfl] at H;exact H
      clear H
      have H:=H1
      clear H1
      replace H:=Option.bind_eq_some_iff.mp H
      obtain ⟨t1207,A50,H⟩:=H
      replace H:(if t1207=true then (some 4) else (some 0))=some r:=H
      have A5:=Aside0.mk A50
      clear A50
      by_cases c6:t1207=true
      · subst c6
        have H1:(some 4)=some r:=by rw [if_pos rfl] at H;exact H
        clear H
        have H:=H1
        clear H1
        obtain rfl:=Option.some.inj H
        go_enter Try.func100,Try.ntmps100
        go_wp2_with (first|((with_reducible refine gate_callee (f:=143) rfl ?_);refine goesL_ (some 10) rfl rfl Try.func143 (by kernel_rfl) rfl #[.int .i64 (l0.length:Int),.int .i64 256] rfl (by (try simp only [List.map_toArray,List.map_cons,List.map_nil]);first|done|rfl|(simp only [List.length_drop,List.length_take];rfl)) ?_;(with_reducible refine (impl_isPower.calls (l0.length:Int) 256 true _ A3.out).mono ?_);rintro e w' ⟨rfl,⟨nd,rfl⟩⟩;refine ⟨_,rfl,?_⟩)|((with_reducible refine gate_callee (f:=144) rfl ?_);refine goesL_ (some 14) rfl rfl Try.func144 (by kernel_rfl) rfl #[.slice A0 l0.length c0,.func (.func 145) #[] #[]] rfl (by (try simp only [List.map_toArray,List.map_cons,List.map_nil]);first|done|rfl|(simp only [List.length_drop,List.length_take];rfl)) ?_;(with_reducible refine (con_leaf.calls _ _ l0 true _ ?side1 ?side2 A5.out).mono ?_);(case side1=> repeat (first|exact HR0.out|(with_reducible refine Kd.C_alloc ?_ _)|(with_reducible refine Kd.C_drewN ?_ _)|(with_reducible refine Kd.C_drew ?_)));(case side2=> exact HC0.out);rintro e w7 ⟨rfl,hb⟩;refine ⟨_,rfl,?_⟩;have n0_:=Aside0.mk (below_step (by repeat (first|(with_reducible first|exact HB.out|apply bwA|apply bwN|apply bwD)|exact HB.out)) hb);clear HB;have HB:=n0_;clear n0_;(try clear hb);(try clear hb2);(try clear hk);(try clear hi)))
        go_ret
        exact ⟨by first|rfl|(simp [errW_none,errW_some] <;> rfl)|(simp [*,errW_none,errW_some] <;> rfl),by repeat (first|(with_reducible first|exact HB.out|apply bwA|apply bwN|apply bwD)|exact HB.out)⟩
      · replace c6:=Bool.eq_false_iff.mpr c6
        subst c6
        have H1:(some 0)=some r:=by rw [if_neg (show ¬ (false=true) by decide)] at H;exact H
        clear H
        have H:=H1
        clear H1
        obtain rfl:=Option.some.inj H
        go_enter Try.func100,Try.ntmps100
        go_wp2_with (first|((with_reducible refine gate_callee (f:=143) rfl ?_);refine goesL_ (some 10) rfl rfl Try.func143 (by kernel_rfl) rfl #[.int .i64 (l0.length:Int),.int .i64 256] rfl (by (try simp only [List.map_toArray,List.map_cons,List.map_nil]);first|done|rfl|(simp only [List.length_drop,List.length_take];rfl)) ?_;(with_reducible refine (impl_isPower.calls (l0.length:Int) 256 true _ A3.out).mono ?_);rintro e w' ⟨rfl,⟨nd,rfl⟩⟩;refine ⟨_,rfl,?_⟩)|((with_reducible refine gate_callee (f:=144) rfl ?_);refine goesL_ (some 14) rfl rfl Try.func144 (by kernel_rfl) rfl #[.slice A0 l0.length c0,.func (.func 145) #[] #[]] rfl (by (try simp only [List.map_toArray,List.map_cons,List.map_nil]);first|done|rfl|(simp only [List.length_drop,List.length_take];rfl)) ?_;(with_reducible refine (con_leaf.calls _ _ l0 false _ ?side1 ?side2 A5.out).mono ?_);(case side1=> repeat (first|exact HR0.out|(with_reducible refine Kd.C_alloc ?_ _)|(with_reducible refine Kd.C_drewN ?_ _)|(with_reducible refine Kd.C_drew ?_)));(case side2=> exact HC0.out);rintro e w8 ⟨rfl,hb⟩;refine ⟨_,rfl,?_⟩;have n0_:=Aside0.mk (below_step (by repeat (first|(with_reducible first|exact HB.out|apply bwA|apply bwN|apply bwD)|exact HB.out)) hb);clear HB;have HB:=n0_;clear n0_;(try clear hb);(try clear hb2);(try clear hk);(try clear hi)))
        go_ret
        exact ⟨by first|rfl|(simp [errW_none,errW_some] <;> rfl)|(simp [*,errW_none,errW_some] <;> rfl),by repeat (first|(with_reducible first|exact HB.out|apply bwA|apply bwN|apply bwD)|exact HB.out)⟩
    · replace c4:=Bool.eq_false_iff.mpr c4
      subst c4
      have H1:(some 8)=some r:=by rw [if_neg (show ¬ (false=true) by decide)] at H;exact H
      clear H
      have H:=H1
      clear H1
      obtain rfl:=Option.some.inj H
      go_enter Try.func100,Try.ntmps100
      go_wp2_with (first|((with_reducible refine gate_callee (f:=143) rfl ?_);refine goesL_ (some 10) rfl rfl Try.func143 (by kernel_rfl) rfl #[.int .i64 (l0.length:Int),.int .i64 256] rfl (by (try simp only [List.map_toArray,List.map_cons,List.map_nil]);first|done|rfl|(simp only [List.length_drop,List.length_take];rfl)) ?_;(with_reducible refine (impl_isPower.calls (l0.length:Int) 256 false _ A3.out).mono ?_);rintro e w' ⟨rfl,⟨nd,rfl⟩⟩;refine ⟨_,rfl,?_⟩))
      go_ret
      exact ⟨by first|rfl|(simp [errW_none,errW_some] <;> rfl)|(simp [*,errW_none,errW_some] <;> rfl),by repeat (first|(with_reducible first|exact HB.out|apply bwA|apply bwN|apply bwD)|exact HB.out)⟩
def impl_pathOf.l0:Nat → Int → List ByteArray → List (List ByteArray) → Int → Int → Option (List ByteArray)
  |0,_,_,_,_,_=> none
  |k + 1,x1,x5,x13,x14,x15=> if x15 < x14 then (if 0 ≤ x15 then (if x15 < (x13.length:Int) then (if 0 ≤ (Go.bits .xor .i64 x1 1) then (if (Go.bits .xor .i64 x1 1) < ((rd_L7 x13 x15).length:Int) then (if x5.length < 8796093022208 then (impl_pathOf.l0 k (wrap64 (Int.tdiv x1 2)) (x5 ++ [rdOf ByteArray.empty (rd_L7 x13 x15) (Go.bits .xor .i64 x1 1)]) x13 x14 (wrap64 (x15 + 1))) else (none)) else (none)) else (none)) else (none)) else (none)) else (some x5)
def impl_pathOf.f (k:Nat) (l0:List (List ByteArray)) (a1:Int):Option (List ByteArray):=if 0 ≤ (wrap64 ((l0.length:Int) - 1)) then (if (wrap64 ((l0.length:Int) - 1)) ≤ (l0.length:Int) then ((some (l0.take ((wrap64 ((l0.length:Int) - 1)):Int).toNat:List (List ByteArray))).bind fun y1258=> (impl_pathOf.l0 k a1 (([]:List ByteArray)) y1258 (y1258.length:Int) 0)) else (none)) else (none)
theorem impl_pathOf.mono_l:∀ k,(∀ y0 y1 y2 y3 y4,LeO (impl_pathOf.l0 k y0 y1 y2 y3 y4) (impl_pathOf.l0 (k + 1) y0 y1 y2 y3 y4))
  |0=> fun _ _ _ _ _ r h=> by simp [impl_pathOf.l0] at h
  |k + 1=> by
    have ih0:=impl_pathOf.mono_l k
    · intro y0 y1 y2 y3 y4
      unfold impl_pathOf.l0
      repeat' first
      |(with_reducible exact ih0 _ _ _ _ _)
      |(with_reducible exact LeO.refl _)
      |(with_reducible exact LeO.none _)
      |(with_reducible refine LeO.ite ?_ ?_)
      |(with_reducible refine LeO.bind ?_ (fun _=> ?_))
      |exact ih0 _ _ _ _ _
      |exact LeO.none _
      |refine LeO.ite ?_ ?_
      |refine LeO.bind ?_ (fun _=> ?_)
theorem impl_pathOf.mono:∀ a0 a1 k,LeO (impl_pathOf.f k a0 a1) (impl_pathOf.f (k + 1) a0 a1):=by
  intro a0 a1 k
  have ih0:=impl_pathOf.mono_l k
  unfold impl_pathOf.f
  repeat' first
      |(with_reducible exact ih0 _ _ _ _ _)
      |(with_reducible exact LeO.refl _)
      |(with_reducible exact LeO.none _)
      |(with_reducible refine LeO.ite ?_ ?_)
      |(with_reducible refine LeO.bind ?_ (fun _=> ?_))
      |exact ih0 _ _ _ _ _
      |exact LeO.none _
      |refine LeO.ite ?_ ?_
      |refine LeO.bind ?_ (fun _=> ?_)
set_option maxHeartbeats 8000000 in
set_option maxRecDepth 100000 in
theorem impl_pathOf.calls (k:Nat) (A0:Option Addr) (c0:Nat) (l0:List (List ByteArray)) (a1:Int) (r:List ByteArray) (w:World) (hr0:Kd.C (Kd.slice 9 Kd.string) w A0 l0.length l0) (hc0:l0.length ≤ c0) (h:impl_pathOf.f k l0 a1=some r):
    Calls Try.prog 106 #[.slice A0 l0.length c0,.int .i64 a1] w fun e w'=> ∃ v0_:Value,e= .returned (v0_) ∧ Kd.R Kd.string 9 w' w.heap.size (fun _=> True) v0_ r ∧ Below w.heap.size w w':=by
  have HR0:=Aside0.mk hr0
  have HC0:=Aside0.mk hc0
  clear hr0 hc0
  have HB:=Aside0.mk (Below.refl w.heap.size w)
  have H:(if 0 ≤ (wrap64 ((l0.length:Int) - 1)) then (if (wrap64 ((l0.length:Int) - 1)) ≤ (l0.length:Int) then ((some (l0.take ((wrap64 ((l0.length:Int) - 1)):Int).toNat:List (List ByteArray))).bind fun y1258=> (impl_pathOf.l0 k a1 (([]:List ByteArray)) y1258 (y1258.length:Int) 0)) else (none)) else (none))=some r:=h
  clear h
  obtain ⟨y1255,hy1255⟩:∃ y_:List ByteArray,y_=(([]:List ByteArray)):=⟨_,rfl⟩
  replace H:(if 0 ≤ (wrap64 ((l0.length:Int) - 1)) then (if (wrap64 ((l0.length:Int) - 1)) ≤ (l0.length:Int) then ((some (l0.take ((wrap64 ((l0.length:Int) - 1)):Int).toNat:List (List ByteArray))).bind fun y1258=> (impl_pathOf.l0 k a1 y1255 y1258 (y1258.length:Int) 0)) else (none)) else (none))=some r:=by first|(rw [hy1255];with_reducible exact H)|(have H2_:=(Option.bind_some _ _).symm.trans H;rw [hy1255];with_reducible exact H2_)|(have H2_:=(Option.bind_some _ _).symm.trans H;with_reducible exact H2_)|with_reducible exact H|(rw [hy1255];exact H)|exact H
  have Ny1255:=Aside0.mk hy1255
  clear hy1255
  obtain ⟨ji3,hji3⟩:∃ j_:Int,(wrap64 ((l0.length:Int) - 1))=j_:=⟨_,rfl⟩
  replace H:(if 0 ≤ (ji3) then (if (ji3) ≤ (l0.length:Int) then ((some (l0.take ((ji3):Int).toNat:List (List ByteArray))).bind fun y1258=> (impl_pathOf.l0 k a1 y1255 y1258 (y1258.length:Int) 0)) else (none)) else (none))=some r:=by first|(rw [hji3] at H;exact H)|(simp only [hji3] at H ⊢;exact H)
  have hji3w:(IntKind.i64.wrap ((l0.length:Int) - 1))=ji3:=(i64_w _).trans hji3
  by_cases c4:0 ≤ (ji3)
  · rw [if_pos c4] at H
    have c4b0:=eq_true c4
    have c4b1:decide (0 ≤ (ji3))=true:=decide_eq_true c4
    clear c4
    by_cases c5:(ji3) ≤ (l0.length:Int)
    · rw [if_pos c5] at H
      have c5b0:=eq_true c5
      have c5b1:decide ((ji3) ≤ (l0.length:Int))=true:=decide_eq_true c5
      clear c5
      obtain ⟨y1258,hy1258⟩:∃ y_:List (List ByteArray),y_=(l0.take ((ji3):Int).toNat):=⟨_,rfl⟩
      replace H:(impl_pathOf.l0 k a1 y1255 y1258 (y1258.length:Int) 0)=some r:=by first|(rw [hy1258];with_reducible exact H)|(have H2_:=(Option.bind_some _ _).symm.trans H;rw [hy1258];with_reducible exact H2_)|(have H2_:=(Option.bind_some _ _).symm.trans H;with_reducible exact H2_)|with_reducible exact H|(rw [hy1258];exact H)|exact H
      have Ny1258:=Aside0.mk hy1258
      clear hy1258
      have H':=Aside0.mk H
      clear H
      go_enter Try.func106,Try.ntmps106
      go_wp2_with (first|((with_reducible refine gate_dst (N:=8) rfl ?_);refine Kd.R_lit Kd.string _ 9 ?hg (N:=8) ?hd (xs:=([]:List ByteArray)) (inner:= []) (ok:=fun _=> True) (okp:=fun _=> True) ?hr ?hp (fun _ hk=> hk) trivial (Below.refl _ _) (Nat.le_refl _) (by simp) ?_;(case hd=> rfl);(case hg=> rfl);(case hr=> first|(go_simp;done)|(go_simp;rfl));(case hp=> exact (Reps.none _ _));intro v1256 w6 ho7 hb hg_ hnew_;clear hg_ hnew_;(first|rw [← Ny1255.out] at ho7|(simp only [Int.reduceToNat] at ho7;rw [← Ny1255.out] at ho7));have n0_:=Aside0.mk (Kd.R_lower ho7 (below_size (by repeat (first|(with_reducible first|exact HB.out|apply bwA|apply bwN|apply bwD)|exact HB.out))));have n1_:=Aside0.mk (below_step (by repeat (first|(with_reducible first|exact HB.out|apply bwA|apply bwN|apply bwD)|exact HB.out)) hb);clear HB;have HO1257:=n0_;have HB:=n1_;clear n0_ n1_;clear hb ho7;have q8:((ji3):Int) ≤ ((l0.length:Int):Int):=of_decide_eq_true (by first|(with_reducible assumption)|assumption);obtain ⟨i08,hi08,_,hsz8,_⟩:=info_parts info41;have hroom8:l0.length ≤ c0:=HC0.out;have hC8:Kd.C (Kd.slice 9 Kd.string) _ A0 l0.length l0:=HR0.out;have hcut8:=cut_to (P:=Try.prog) 108 41 .i64 Try.underlying108 hi08 A0 l0.length c0 (ji3) (of_decide_eq_true (by first|(with_reducible assumption)|assumption)) q8 hroom8;have hr8:=Kd.C_take (m:=((ji3):Int).toNat) hC8 (by omega);have hy8:y1258.length=((ji3):Int).toNat:=(by rw [Ny1258.out,List.length_take];omega);rw [← Ny1258.out] at hr8;rw [← hy8] at hcut8;have HR1261:=Aside0.mk hr8;have HC1261:=Aside0.mk (show y1258.length ≤ c0 from by omega);clear hr8 hC8 hroom8 hi08 hsz8;have KY8:=Aside0.mk hy8;clear hy8;replace q8:=eq_true q8))
      go_loopg [1,5,15] k (fun kq v1 v5 v15 w'=> ∃ (x1_1:Int) (x5_1:List ByteArray) (x15_1:Int),v1= .int .i64 x1_1 ∧ v15= .int .i64 x15_1 ∧ Aside0 (impl_pathOf.l0 kq x1_1 x5_1 y1258 (y1258.length:Int) x15_1=some r) ∧ Aside0 (kq ≤ k) ∧ Aside0 (Kd.R Kd.string 9 w' w.heap.size (fun _=> True) v5 x5_1) ∧ Aside0 (Below w.heap.size w w'))
      case atStart=> exact ⟨(a1),(y1255),(0),(by first|rfl|(simp;done)|(simp [*];done)),(by first|rfl|(simp;done)|(simp [*];done)),H',⟨Nat.le_refl _⟩,⟨by (with_reducible repeat (first|apply Kd.R_alloc|apply Kd.R_drewN|apply Kd.R_drew));exact HO1257.out⟩,⟨by repeat (first|(with_reducible first|exact HB.out|apply bwA|apply bwN|apply bwD)|exact HB.out)⟩⟩
      case round=>
        clear H'
        try clear c1
        try clear p2
        try clear c4
        try clear c4b0
        try clear c4b1
        try clear c5
        try clear c5b0
        try clear c5b1
        try clear p6
        try clear q8
        try clear q8
        obtain ⟨x1_1,x5_1,x15_1,rfl,rfl,HA,HK1,HO_5,HB⟩:=hrel
        cases gk with
        |zero=> exact absurd HA.out (by simp [impl_pathOf.l0])
        |succ k1=>
          have H:=HA.out
          clear HA
          simp only [impl_pathOf.l0] at H
          by_cases c9:x15_1 < (y1258.length:Int)
          · rw [if_pos c9] at H
            have c9b0:decide (x15_1 < (y1258.length:Int))=true:=decide_eq_true c9
            clear c9
            by_cases c10:0 ≤ x15_1
            · rw [if_pos c10] at H
              have c10b0:decide (0 ≤ x15_1)=true:=decide_eq_true c10
              clear c10
              by_cases c11:x15_1 < (y1258.length:Int)
              · rw [if_pos c11] at H
                have c11b0:decide (x15_1 < (y1258.length:Int))=true:=decide_eq_true c11
                clear c11
                by_cases c12:0 ≤ (Go.bits .xor .i64 x1_1 1)
                · rw [if_pos c12] at H
                  have c12b0:decide (0 ≤ (Go.bits .xor .i64 x1_1 1))=true:=decide_eq_true c12
                  clear c12
                  by_cases c13:(Go.bits .xor .i64 x1_1 1) < ((rd_L7 y1258 x15_1).length:Int)
                  · rw [if_pos c13] at H
                    have c13b0:decide ((Go.bits .xor .i64 x1_1 1) < ((rd_L7 y1258 x15_1).length:Int))=true:=decide_eq_true c13
                    clear c13
                    by_cases c14:x5_1.length < 8796093022208
                    · rw [if_pos c14] at H
                      have LMc14:=Aside0.mk c14
                      clear c14
                      obtain ⟨y1264,hy1264⟩:∃ y_:List ByteArray,y_=(x5_1 ++ [rdOf ByteArray.empty (rd_L7 y1258 x15_1) (Go.bits .xor .i64 x1_1 1)]):=⟨_,rfl⟩
                      replace H:(impl_pathOf.l0 k1 (wrap64 (Int.tdiv x1_1 2)) y1264 y1258 (y1258.length:Int) (wrap64 (x15_1 + 1)))=some r:=by first|(rw [hy1264];with_reducible exact H)|(have H2_:=(Option.bind_some _ _).symm.trans H;rw [hy1264];with_reducible exact H2_)|(have H2_:=(Option.bind_some _ _).symm.trans H;with_reducible exact H2_)|with_reducible exact H|(rw [hy1264];exact H)|exact H
                      have Ny1264:=Aside0.mk hy1264
                      clear hy1264
                      have H':=Aside0.mk H
                      clear H
                      have p1262:0 ≤ (x15_1:Int):=of_decide_eq_true (by first|(with_reducible assumption)|assumption)
                      have q1262:x15_1 < (y1258.length:Int):=of_decide_eq_true (by first|(with_reducible assumption)|assumption)
                      obtain ⟨ad1262,A1262_0,c1262_0,e1262,hx1262_0,hl1262_0,hi1262_0⟩:=at_L7 HR1261.out x15_1 p1262 q1262
                      cases e1262
                      replace hx1262_0:=(HB.out.cell (World.block_lt_of_cell? w _ hx1262_0)).trans hx1262_0
                      have HR1262_0:=Aside0.mk hi1262_0
                      have HC1262_0:=Aside0.mk hl1262_0
                      clear hi1262_0 hl1262_0
                      replace p1262:=eq_true p1262
                      replace q1262:=eq_true q1262
                      have p1263:0 ≤ ((Go.bits .xor .i64 x1_1 1):Int):=of_decide_eq_true (by first|(with_reducible assumption)|assumption)
                      have q1263:(Go.bits .xor .i64 x1_1 1) < ((rd_L7 y1258 x15_1).length:Int):=of_decide_eq_true (by first|(with_reducible assumption)|assumption)
                      obtain ⟨ad1263,e1263,hx1263_0⟩:=Kd.at_string HR1262_0.out (Go.bits .xor .i64 x1_1 1) p1263 q1263
                      cases e1263
                      replace hx1263_0:=(HB.out.cell (World.block_lt_of_cell? w _ hx1263_0)).trans hx1263_0
                      replace p1263:=eq_true p1263
                      replace q1263:=eq_true q1263
                      go_wp2_with (first|((with_reducible refine gate_builtin (b:= .append) (xs:= #[.tmp 19,.tmp 25]) rfl ?_);at_builtin;refine Kd.R_append Kd.string (w0:=w) w.heap.size rfl (.tmp 19) (.tmp 25) 41 9 (.string ⟨#[]⟩) 16 rfl Try.underlying41 info9 rfl (by decide) (by omega) u5 x5_1 (rdOf ByteArray.empty (rd_L7 y1258 x15_1) (Go.bits .xor .i64 x1_1 1)) [.string (rdOf ByteArray.empty (rd_L7 y1258 x15_1) (Go.bits .xor .i64 x1_1 1))] (fun _=> True) (fun _=> False) rfl rfl ?aP (fun _ hk=> hk.elim) ?aF ?aO ?aB ?aS ?aL ?_;(case aP=> exact rfl);(case aB=> exact (by repeat (first|(with_reducible first|exact HB.out|apply bwA|apply bwN|apply bwD)|exact HB.out)));(case aF=> exact (fun _ _=> trivial));(case aO=> exact (by (with_reducible repeat (first|apply Kd.R_alloc|apply Kd.R_drewN|apply Kd.R_drew));exact HO_5.out));(case aS=> exact (below_size (by repeat (first|(with_reducible first|exact HB.out|apply bwA|apply bwN|apply bwD)|exact HB.out))));(case aL=> have:=LMc14.out;omega);intro v1265 w15 ho hb hg hat;rw [← Ny1264.out] at ho;have n0_:=Aside0.mk (hb);have n1_:=Aside0.mk (ho);clear HB;clear HO_5;have HB:=n0_;have HO1266:=n1_;clear n0_ n1_;clear ho hb hg hat))
                      go_roundg k1
                      case measure=> have:=HK1.out;omega
                      case rel=> exact ⟨(wrap64 (Int.tdiv x1_1 2)),(y1264),(wrap64 (x15_1 + 1)),(by first|rfl|(simp;done)|(simp [*];done)),(by first|rfl|(simp;done)|(simp [*];done)),H',⟨by have:=HK1.out;omega⟩,⟨by (with_reducible repeat (first|apply Kd.R_alloc|apply Kd.R_drewN|apply Kd.R_drew));exact HO1266.out⟩,⟨by repeat (first|(with_reducible first|exact HB.out|apply bwA|apply bwN|apply bwD)|exact HB.out)⟩⟩
                    · rw [if_neg c14] at H
                      exact absurd H (by simp)
                  · rw [if_neg c13] at H
                    exact absurd H (by simp)
                · rw [if_neg c12] at H
                  exact absurd H (by simp)
              · rw [if_neg c11] at H
                exact absurd H (by simp)
            · rw [if_neg c10] at H
              exact absurd H (by simp)
          · rw [if_neg c9] at H
            have c9b0:decide (x15_1 < (y1258.length:Int))=false:=decide_eq_false c9
            clear c9
            obtain rfl:=Option.some.inj H
            go_wp2
            go_ret
            exact ⟨_,by first|rfl|(simp [errW_none,errW_some] <;> rfl)|(simp only [← hji3];first|rfl|(simp [errW_none,errW_some] <;> rfl))|(simp [*,errW_none,errW_some] <;> rfl),by (with_reducible repeat (first|apply Kd.R_alloc|apply Kd.R_drewN|apply Kd.R_drew));exact HO_5.out,by repeat (first|(with_reducible first|exact HB.out|apply bwA|apply bwN|apply bwD)|exact HB.out)⟩
    · rw [if_neg c5] at H
      exact absurd H (by simp)
  · rw [if_neg c4] at H
    exact absurd H (by simp)
def impl_MerklePath.f (k:Nat) (l0:List ByteArray) (a1:Int):Option (List ByteArray × Int):=(impl_leavesCode.f l0).bind fun t1267=> (if t1267=0 then ((impl_in.f a1 0 (wrap64 ((l0.length:Int) - 1))).bind fun t1268=> (if t1268=true then ((impl_levels.f l0).bind fun t1269=> ((impl_pathOf.f k t1269 a1).bind fun t1272=> (some (t1272,0)))) else (some (([]:List ByteArray),4)))) else (some (([]:List ByteArray),t1267)))
theorem impl_MerklePath.mono:∀ a0 a1 k,LeO (impl_MerklePath.f k a0 a1) (impl_MerklePath.f (k + 1) a0 a1):=by
  intro a0 a1 k
  unfold impl_MerklePath.f
  repeat' first
      |(with_reducible exact impl_pathOf.mono _ _ _)
      |(with_reducible exact LeO.refl _)
      |(with_reducible exact LeO.none _)
      |(with_reducible refine LeO.ite ?_ ?_)
      |(with_reducible refine LeO.bind ?_ (fun _=> ?_))
      |exact impl_pathOf.mono _ _ _
      |exact LeO.none _
      |refine LeO.ite ?_ ?_
      |refine LeO.bind ?_ (fun _=> ?_)
set_option maxHeartbeats 8000000 in
set_option maxRecDepth 100000 in
theorem impl_MerklePath.calls (k:Nat) (A0:Option Addr) (c0:Nat) (l0:List ByteArray) (a1:Int) (r1:List ByteArray) (r2:Int) (w:World) (hr0:Kd.C Kd.string w A0 l0.length l0) (hc0:l0.length ≤ c0) (h:impl_MerklePath.f k l0 a1=some (r1,r2)):
    Calls Try.prog 45 #[.slice A0 l0.length c0,.int .i64 a1] w fun e w'=> ∃ v0_:Value,e= .returned (.tuple #[v0_,.int .i64 r2]) ∧ Kd.R Kd.string 9 w' w.heap.size (fun _=> True) v0_ r1 ∧ Below w.heap.size w w':=by
  have HR0:=Aside0.mk hr0
  have HC0:=Aside0.mk hc0
  clear hr0 hc0
  have HB:=Aside0.mk (Below.refl w.heap.size w)
  have H:((impl_leavesCode.f l0).bind fun t1267=> (if t1267=0 then ((impl_in.f a1 0 (wrap64 ((l0.length:Int) - 1))).bind fun t1268=> (if t1268=true then ((impl_levels.f l0).bind fun t1269=> ((impl_pathOf.f k t1269 a1).bind fun t1272=> (some (t1272,0)))) else (some (([]:List ByteArray),4)))) else (some (([]:List ByteArray),t1267))))=some (r1,r2):=h
  clear h
  replace H:=Option.bind_eq_some_iff.mp H
  obtain ⟨t1267,A30,H⟩:=H
  replace H:(if t1267=0 then ((impl_in.f a1 0 (wrap64 ((l0.length:Int) - 1))).bind fun t1268=> (if t1268=true then ((impl_levels.f l0).bind fun t1269=> ((impl_pathOf.f k t1269 a1).bind fun t1272=> (some (t1272,0)))) else (some (([]:List ByteArray),4)))) else (some (([]:List ByteArray),t1267)))=some (r1,r2):=H
  have A3:=Aside0.mk A30
  clear A30
  by_cases c4:t1267=0
  · rw [if_pos c4] at H
    have c4b0:(t1267==0)=true:=beq_iff_eq.mpr c4
    have c4b1:(t1267 !=0)=false:=bne_eq_false_iff_eq.mpr c4
    clear c4
    replace H:=Option.bind_eq_some_iff.mp H
    obtain ⟨t1268,A50,H⟩:=H
    replace H:(if t1268=true then ((impl_levels.f l0).bind fun t1269=> ((impl_pathOf.f k t1269 a1).bind fun t1272=> (some (t1272,0)))) else (some (([]:List ByteArray),4)))=some (r1,r2):=H
    have A5:=Aside0.mk A50
    clear A50
    by_cases c6:t1268=true
    · subst c6
      have H1:((impl_levels.f l0).bind fun t1269=> ((impl_pathOf.f k t1269 a1).bind fun t1272=> (some (t1272,0))))=some (r1,r2):=by rw [if_pos rfl] at H;exact H
      clear H
      have H:=H1
      clear H1
      replace H:=Option.bind_eq_some_iff.mp H
      obtain ⟨t1269,A70,H⟩:=H
      replace H:((impl_pathOf.f k t1269 a1).bind fun t1272=> (some (t1272,0)))=some (r1,r2):=H
      have A7:=Aside0.mk A70
      clear A70
      replace H:=Option.bind_eq_some_iff.mp H
      obtain ⟨t1272,A80,H⟩:=H
      replace H:(some (t1272,0))=some (r1,r2):=H
      have A8:=Aside0.mk A80
      clear A80
      simp only [Option.some.injEq,Prod.mk.injEq] at H
      obtain ⟨rfl,rfl⟩:=H
      go_enter Try.func45,Try.ntmps45
      go_wp2_with (first|((with_reducible refine gate_callee (f:=100) rfl ?_);refine goesL_ (some 8) rfl rfl Try.func100 (by kernel_rfl) rfl #[.slice A0 l0.length c0] rfl (by (try simp only [List.map_toArray,List.map_cons,List.map_nil]);first|done|rfl|(simp only [List.length_drop,List.length_take];rfl)) ?_;(with_reducible refine (impl_leavesCode.calls _ _ l0 t1267 _ ?side1 ?side2 A3.out).mono ?_);(case side1=> repeat (first|exact HR0.out|(with_reducible refine Kd.C_alloc ?_ _)|(with_reducible refine Kd.C_drewN ?_ _)|(with_reducible refine Kd.C_drew ?_)));(case side2=> exact HC0.out);rintro e w9 ⟨rfl,hb⟩;refine ⟨_,rfl,?_⟩;have n0_:=Aside0.mk (below_step (by repeat (first|(with_reducible first|exact HB.out|apply bwA|apply bwN|apply bwD)|exact HB.out)) hb);clear HB;have HB:=n0_;clear n0_;(try clear hb);(try clear hb2);(try clear hk);(try clear hi))|((with_reducible refine gate_callee (f:=95) rfl ?_);refine goesL_ (some 16) rfl rfl Try.func95 (by kernel_rfl) rfl #[.int .i64 a1,.int .i64 0,.int .i64 (wrap64 ((l0.length:Int) - 1))] rfl (by (try simp only [List.map_toArray,List.map_cons,List.map_nil]);first|done|rfl|(simp only [List.length_drop,List.length_take];rfl)) ?_;(with_reducible refine (impl_in.calls a1 0 (wrap64 ((l0.length:Int) - 1)) true _ A5.out).mono ?_);rintro e w' ⟨rfl,⟨nd,rfl⟩⟩;refine ⟨_,rfl,?_⟩)|((with_reducible refine gate_callee (f:=102) rfl ?_);refine goesL_ (some 19) rfl rfl Try.func102 (by kernel_rfl) rfl #[.slice A0 l0.length c0] rfl (by (try simp only [List.map_toArray,List.map_cons,List.map_nil]);first|done|rfl|(simp only [List.length_drop,List.length_take];rfl)) ?_;(with_reducible refine (impl_levels.calls _ _ l0 t1269 _ ?side1 ?side2 A7.out).mono ?_);(case side1=> repeat (first|exact (Kd.C_below HR0.out (by repeat (first|(with_reducible first|exact HB.out|apply bwA|apply bwN|apply bwD)|exact HB.out)))|(with_reducible refine Kd.C_alloc ?_ _)|(with_reducible refine Kd.C_drewN ?_ _)|(with_reducible refine Kd.C_drew ?_)));(case side2=> exact HC0.out);rintro e w10 ⟨v1270,rfl,ho0,hb⟩;refine ⟨_,rfl,?_⟩;have n0_:=Aside0.mk (Kd.S_lower ho0 (below_size (by repeat (first|(with_reducible first|exact HB.out|apply bwA|apply bwN|apply bwD)|exact HB.out))));have n1_:=Aside0.mk (below_step (by repeat (first|(with_reducible first|exact HB.out|apply bwA|apply bwN|apply bwD)|exact HB.out)) hb);clear HB;have HO1271:=n0_;have HB:=n1_;clear n0_ n1_;(try clear hb);(try clear hb2);(try clear hk);(try clear hi);(try clear ho0);obtain ⟨Ao11,co11,eo11⟩:=Kd.S_slice HO1271.out;subst eo11)|((with_reducible refine gate_callee (f:=106) rfl ?_);refine goesL_ (some 21) rfl rfl Try.func106 (by kernel_rfl) rfl #[.slice Ao11 t1269.length co11,.int .i64 a1] rfl (by (try simp only [List.map_toArray,List.map_cons,List.map_nil]);first|done|rfl|(simp only [List.length_drop,List.length_take];rfl)) ?_;(with_reducible refine (impl_pathOf.calls k _ _ t1269 a1 t1272 _ ?side1 ?side2 A8.out).mono ?_);(case side1=> repeat (first|exact (Kd.S_reads' HO1271.out).2.2|(with_reducible refine Kd.C_alloc ?_ _)|(with_reducible refine Kd.C_drewN ?_ _)|(with_reducible refine Kd.C_drew ?_)));(case side2=> exact (Kd.S_reads' HO1271.out).2.1);rintro e w12 ⟨v1273,rfl,ho0,hb⟩;refine ⟨_,rfl,?_⟩;have n0_:=Aside0.mk (Kd.S_elder' (by (with_reducible repeat (first|apply Kd.S_alloc|apply Kd.S_drewN|apply Kd.S_drew));exact HO1271.out) (Kd.R_base ho0) hb);have n1_:=Aside0.mk (Kd.R_lower ho0 (below_size (by repeat (first|(with_reducible first|exact HB.out|apply bwA|apply bwN|apply bwD)|exact HB.out))));have n2_:=Aside0.mk (below_step (by repeat (first|(with_reducible first|exact HB.out|apply bwA|apply bwN|apply bwD)|exact HB.out)) hb);clear HO1271;clear HB;have HO1271:=n0_;have HO1274:=n1_;have HB:=n2_;clear n0_ n1_ n2_;(try clear hb);(try clear hb2);(try clear hk);(try clear hi);(try clear ho0)))
      go_ret2
      exact ⟨_,by first|rfl|(simp [errW_none,errW_some] <;> rfl)|(simp [*,errW_none,errW_some] <;> rfl),by (with_reducible repeat (first|apply Kd.R_alloc|apply Kd.R_drewN|apply Kd.R_drew));exact HO1274.out,by repeat (first|(with_reducible first|exact HB.out|apply bwA|apply bwN|apply bwD)|exact HB.out)⟩
    · replace c6:=Bool.eq_false_iff.mpr c6
      subst c6
      have H1:(some (([]:List ByteArray),4))=some (r1,r2):=by rw [if_neg (show ¬ (false=true) by decide)] at H;exact H
      clear H
      have H:=H1
      clear H1
      simp only [Option.some.injEq,Prod.mk.injEq] at H
      obtain ⟨rfl,rfl⟩:=H
      go_enter Try.func45,Try.ntmps45
      go_wp2_with (first|((with_reducible refine gate_callee (f:=100) rfl ?_);refine goesL_ (some 8) rfl rfl Try.func100 (by kernel_rfl) rfl #[.slice A0 l0.length c0] rfl (by (try simp only [List.map_toArray,List.map_cons,List.map_nil]);first|done|rfl|(simp only [List.length_drop,List.length_take];rfl)) ?_;(with_reducible refine (impl_leavesCode.calls _ _ l0 t1267 _ ?side1 ?side2 A3.out).mono ?_);(case side1=> repeat (first|exact HR0.out|(with_reducible refine Kd.C_alloc ?_ _)|(with_reducible refine Kd.C_drewN ?_ _)|(with_reducible refine Kd.C_drew ?_)));(case side2=> exact HC0.out);rintro e w13 ⟨rfl,hb⟩;refine ⟨_,rfl,?_⟩;have n0_:=Aside0.mk (below_step (by repeat (first|(with_reducible first|exact HB.out|apply bwA|apply bwN|apply bwD)|exact HB.out)) hb);clear HB;have HB:=n0_;clear n0_;(try clear hb);(try clear hb2);(try clear hk);(try clear hi))|((with_reducible refine gate_callee (f:=95) rfl ?_);refine goesL_ (some 16) rfl rfl Try.func95 (by kernel_rfl) rfl #[.int .i64 a1,.int .i64 0,.int .i64 (wrap64 ((l0.length:Int) - 1))] rfl (by (try simp only [List.map_toArray,List.map_cons,List.map_nil]);first|done|rfl|(simp only [List.length_drop,List.length_take];rfl)) ?_;(with_reducible refine (impl_in.calls a1 0 (wrap64 ((l0.length:Int) - 1)) false _ A5.out).mono ?_);rintro e w' ⟨rfl,⟨nd,rfl⟩⟩;refine ⟨_,rfl,?_⟩))
      go_ret2
      exact ⟨_,by first|rfl|(simp [errW_none,errW_some] <;> rfl)|(simp [*,errW_none,errW_some] <;> rfl),by first|exact Kd.R_nil _ _ _ _ _|exact Kd.N_nil _ _ _ _ _|exact Kd.V_nil _ _ _ _ _|exact Kd.Q_nil _ _ _ _ _|exact Kd.S_nil _ _ _ _ _,by repeat (first|(with_reducible first|exact HB.out|apply bwA|apply bwN|apply bwD)|exact HB.out)⟩
  · rw [if_neg c4] at H
    have c4b0:(t1267==0)=false:=beq_eq_false_iff_ne.mpr c4
    have c4b1:(t1267 !=0)=true:=bne_iff_ne.mpr c4
    simp only [Option.some.injEq,Prod.mk.injEq] at H
    obtain ⟨rfl,rfl⟩:=H
    go_enter Try.func45,Try.ntmps45
    go_wp2_with (first|((with_reducible refine gate_callee (f:=100) rfl ?_);refine goesL_ (some 8) rfl rfl Try.func100 (by kernel_rfl) rfl #[.slice A0 l0.length c0] rfl (by (try simp only [List.map_toArray,List.map_cons,List.map_nil]);first|done|rfl|(simp only [List.length_drop,List.length_take];rfl)) ?_;(with_reducible refine (impl_leavesCode.calls _ _ l0 t1267 _ ?side1 ?side2 A3.out).mono ?_);(case side1=> repeat (first|exact HR0.out|(with_reducible refine Kd.C_alloc ?_ _)|(with_reducible refine Kd.C_drewN ?_ _)|(with_reducible refine Kd.C_drew ?_)));(case side2=> exact HC0.out);rintro e w14 ⟨rfl,hb⟩;refine ⟨_,rfl,?_⟩;have n0_:=Aside0.mk (below_step (by repeat (first|(with_reducible first|exact HB.out|apply bwA|apply bwN|apply bwD)|exact HB.out)) hb);clear HB;have HB:=n0_;clear n0_;(try clear hb);(try clear hb2);(try clear hk);(try clear hi)))
    go_ret2
    exact ⟨_,by first|rfl|(simp [errW_none,errW_some] <;> rfl)|(simp [*,errW_none,errW_some] <;> rfl),by first|exact Kd.R_nil _ _ _ _ _|exact Kd.N_nil _ _ _ _ _|exact Kd.V_nil _ _ _ _ _|exact Kd.Q_nil _ _ _ _ _|exact Kd.S_nil _ _ _ _ _,by repeat (first|(with_reducible first|exact HB.out|apply bwA|apply bwN|apply bwD)|exact HB.out)⟩
def impl_rootOf.f (l0:List (List ByteArray)):Option (ByteArray):=if 0 ≤ (wrap64 ((l0.length:Int) - 1)) then (if (wrap64 ((l0.length:Int) - 1)) < (l0.length:Int) then (if 0 < ((rd_L7 l0 (wrap64 ((l0.length:Int) - 1))).length:Int) then (some (rdOf ByteArray.empty (rd_L7 l0 (wrap64 ((l0.length:Int) - 1))) 0)) else (none)) else (none)) else (none)
set_option maxHeartbeats 8000000 in
set_option maxRecDepth 100000 in
theorem impl_rootOf.calls (A0:Option Addr) (c0:Nat) (l0:List (List ByteArray)) (r:ByteArray) (w:World) (hr0:Kd.C (Kd.slice 9 Kd.string) w A0 l0.length l0) (hc0:l0.length ≤ c0) (h:impl_rootOf.f l0=some r):
    Calls Try.prog 101 #[.slice A0 l0.length c0] w fun e w'=> e= .returned (.string r) ∧ Drawn0 w w':=by
  have HR0:=Aside0.mk hr0
  have HC0:=Aside0.mk hc0
  clear hr0 hc0
  have H:(if 0 ≤ (wrap64 ((l0.length:Int) - 1)) then (if (wrap64 ((l0.length:Int) - 1)) < (l0.length:Int) then (if 0 < ((rd_L7 l0 (wrap64 ((l0.length:Int) - 1))).length:Int) then (some (rdOf ByteArray.empty (rd_L7 l0 (wrap64 ((l0.length:Int) - 1))) 0)) else (none)) else (none)) else (none))=some r:=h
  clear h
  obtain ⟨ji2,hji2⟩:∃ j_:Int,(wrap64 ((l0.length:Int) - 1))=j_:=⟨_,rfl⟩
  replace H:(if 0 ≤ (ji2) then (if (ji2) < (l0.length:Int) then (if 0 < ((rd_L7 l0 (ji2)).length:Int) then (some (rdOf ByteArray.empty (rd_L7 l0 (ji2)) 0)) else (none)) else (none)) else (none))=some r:=by first|(rw [hji2] at H;exact H)|(simp only [hji2] at H ⊢;exact H)
  have hji2w:(IntKind.i64.wrap ((l0.length:Int) - 1))=ji2:=(i64_w _).trans hji2
  by_cases c3:0 ≤ (ji2)
  · rw [if_pos c3] at H
    have c3b0:decide (0 ≤ (ji2))=true:=decide_eq_true c3
    clear c3
    by_cases c4:(ji2) < (l0.length:Int)
    · rw [if_pos c4] at H
      have c4b0:decide ((ji2) < (l0.length:Int))=true:=decide_eq_true c4
      clear c4
      by_cases c5:0 < ((rd_L7 l0 (ji2)).length:Int)
      · rw [if_pos c5] at H
        have c5b0:decide (0 < ((rd_L7 l0 (ji2)).length:Int))=true:=decide_eq_true c5
        have c5b1:decide (0 < (rd_L7 l0 (ji2)).length)=true:=decide_eq_true (by omega)
        clear c5
        obtain rfl:=Option.some.inj H
        have p1208:0 ≤ ((ji2):Int):=of_decide_eq_true (by first|(with_reducible assumption)|assumption)
        have q1208:(ji2) < (l0.length:Int):=of_decide_eq_true (by first|(with_reducible assumption)|assumption)
        obtain ⟨ad1208,A1208_0,c1208_0,e1208,hx1208_0,hl1208_0,hi1208_0⟩:=at_L7 HR0.out (ji2) p1208 q1208
        cases e1208
        have HR1208_0:=Aside0.mk hi1208_0
        have HC1208_0:=Aside0.mk hl1208_0
        clear hi1208_0 hl1208_0
        replace p1208:=eq_true p1208
        replace q1208:=eq_true q1208
        have p1209:0 ≤ (0:Int):=(by omega)
        have q1209:0 < ((rd_L7 l0 (ji2)).length:Int):=of_decide_eq_true (by first|(with_reducible assumption)|assumption)
        obtain ⟨ad1209,e1209,hx1209_0⟩:=Kd.at_string HR1208_0.out 0 p1209 q1209
        cases e1209
        have qi1209:(0 < (rd_L7 l0 (ji2)).length)=True:=eq_true (by omega)
        (try rw [show ((0:Int)).toNat=0 from rfl] at hx1209_0)
        (try rw [Addr.add_zero'] at hx1209_0)
        replace p1209:=eq_true p1209
        replace q1209:=eq_true q1209
        go_enter Try.func101,Try.ntmps101
        go_wp2
        go_ret
        exact ⟨by first|rfl|(simp;done)|(simp only [← hji2] <;> (first|rfl|simp))|(simp [*];done),by repeat (first|exact Drawn0.refl _|apply Drawn0.step)⟩
      · rw [if_neg c5] at H
        exact absurd H (by simp)
    · rw [if_neg c4] at H
      exact absurd H (by simp)
  · rw [if_neg c3] at H
    exact absurd H (by simp)
def impl_MerkleRoot.f (l0:List ByteArray):Option (ByteArray × Int):=(impl_leavesCode.f l0).bind fun t1210=> (if t1210=0 then ((impl_levels.f l0).bind fun t1211=> ((impl_rootOf.f t1211).bind fun t1214=> (some (t1214,0)))) else (some ((⟨#[]⟩:ByteArray),t1210)))
set_option maxHeartbeats 8000000 in
set_option maxRecDepth 100000 in
theorem impl_MerkleRoot.calls (A0:Option Addr) (c0:Nat) (l0:List ByteArray) (r1:ByteArray) (r2:Int) (w:World) (hr0:Kd.C Kd.string w A0 l0.length l0) (hc0:l0.length ≤ c0) (h:impl_MerkleRoot.f l0=some (r1,r2)):
    Calls Try.prog 42 #[.slice A0 l0.length c0] w fun e w'=> e= .returned (.tuple #[.string r1,.int .i64 r2]) ∧ Below w.heap.size w w':=by
  have HR0:=Aside0.mk hr0
  have HC0:=Aside0.mk hc0
  clear hr0 hc0
  have HB:=Aside0.mk (Below.refl w.heap.size w)
  have H:((impl_leavesCode.f l0).bind fun t1210=> (if t1210=0 then ((impl_levels.f l0).bind fun t1211=> ((impl_rootOf.f t1211).bind fun t1214=> (some (t1214,0)))) else (some ((⟨#[]⟩:ByteArray),t1210))))=some (r1,r2):=h
  clear h
  replace H:=Option.bind_eq_some_iff.mp H
  obtain ⟨t1210,A20,H⟩:=H
  replace H:(if t1210=0 then ((impl_levels.f l0).bind fun t1211=> ((impl_rootOf.f t1211).bind fun t1214=> (some (t1214,0)))) else (some ((⟨#[]⟩:ByteArray),t1210)))=some (r1,r2):=H
  have A2:=Aside0.mk A20
  clear A20
  by_cases c3:t1210=0
  · rw [if_pos c3] at H
    have c3b0:(t1210==0)=true:=beq_iff_eq.mpr c3
    have c3b1:(t1210 !=0)=false:=bne_eq_false_iff_eq.mpr c3
    clear c3
    replace H:=Option.bind_eq_some_iff.mp H
    obtain ⟨t1211,A40,H⟩:=H
    replace H:((impl_rootOf.f t1211).bind fun t1214=> (some (t1214,0)))=some (r1,r2):=H
    have A4:=Aside0.mk A40
    clear A40
    replace H:=Option.bind_eq_some_iff.mp H
    obtain ⟨t1214,A50,H⟩:=H
    replace H:(some (t1214,0))=some (r1,r2):=H
    have A5:=Aside0.mk A50
    clear A50
    simp only [Option.some.injEq,Prod.mk.injEq] at H
    obtain ⟨rfl,rfl⟩:=H
    go_enter Try.func42,Try.ntmps42
    go_wp2_with (first|((with_reducible refine gate_callee (f:=100) rfl ?_);refine goesL_ (some 6) rfl rfl Try.func100 (by kernel_rfl) rfl #[.slice A0 l0.length c0] rfl (by (try simp only [List.map_toArray,List.map_cons,List.map_nil]);first|done|rfl|(simp only [List.length_drop,List.length_take];rfl)) ?_;(with_reducible refine (impl_leavesCode.calls _ _ l0 t1210 _ ?side1 ?side2 A2.out).mono ?_);(case side1=> repeat (first|exact HR0.out|(with_reducible refine Kd.C_alloc ?_ _)|(with_reducible refine Kd.C_drewN ?_ _)|(with_reducible refine Kd.C_drew ?_)));(case side2=> exact HC0.out);rintro e w6 ⟨rfl,hb⟩;refine ⟨_,rfl,?_⟩;have n0_:=Aside0.mk (below_step (by repeat (first|(with_reducible first|exact HB.out|apply bwA|apply bwN|apply bwD)|exact HB.out)) hb);clear HB;have HB:=n0_;clear n0_;(try clear hb);(try clear hb2);(try clear hk);(try clear hi))|((with_reducible refine gate_callee (f:=102) rfl ?_);refine goesL_ (some 11) rfl rfl Try.func102 (by kernel_rfl) rfl #[.slice A0 l0.length c0] rfl (by (try simp only [List.map_toArray,List.map_cons,List.map_nil]);first|done|rfl|(simp only [List.length_drop,List.length_take];rfl)) ?_;(with_reducible refine (impl_levels.calls _ _ l0 t1211 _ ?side1 ?side2 A4.out).mono ?_);(case side1=> repeat (first|exact (Kd.C_below HR0.out HB.out)|(with_reducible refine Kd.C_alloc ?_ _)|(with_reducible refine Kd.C_drewN ?_ _)|(with_reducible refine Kd.C_drew ?_)));(case side2=> exact HC0.out);rintro e w7 ⟨v1212,rfl,ho0,hb⟩;refine ⟨_,rfl,?_⟩;have n0_:=Aside0.mk (Kd.S_lower ho0 (below_size (by repeat (first|(with_reducible first|exact HB.out|apply bwA|apply bwN|apply bwD)|exact HB.out))));have n1_:=Aside0.mk (below_step (by repeat (first|(with_reducible first|exact HB.out|apply bwA|apply bwN|apply bwD)|exact HB.out)) hb);clear HB;have HO1213:=n0_;have HB:=n1_;clear n0_ n1_;(try clear hb);(try clear hb2);(try clear hk);(try clear hi);(try clear ho0);obtain ⟨Ao8,co8,eo8⟩:=Kd.S_slice HO1213.out;subst eo8)|((with_reducible refine gate_callee (f:=101) rfl ?_);refine goesL_ (some 12) rfl rfl Try.func101 (by kernel_rfl) rfl #[.slice Ao8 t1211.length co8] rfl (by (try simp only [List.map_toArray,List.map_cons,List.map_nil]);first|done|rfl|(simp only [List.length_drop,List.length_take];rfl)) ?_;(with_reducible refine (impl_rootOf.calls _ _ t1211 t1214 _ ?side1 ?side2 A5.out).mono ?_);(case side1=> repeat (first|exact (Kd.S_reads' HO1213.out).2.2|(with_reducible refine Kd.C_alloc ?_ _)|(with_reducible refine Kd.C_drewN ?_ _)|(with_reducible refine Kd.C_drew ?_)));(case side2=> exact (Kd.S_reads' HO1213.out).2.1);rintro e w' ⟨rfl,⟨nd,rfl⟩⟩;refine ⟨_,rfl,?_⟩))
    go_ret2
    exact ⟨by first|rfl|(simp [errW_none,errW_some] <;> rfl)|(simp [*,errW_none,errW_some] <;> rfl),by repeat (first|(with_reducible first|exact HB.out|apply bwA|apply bwN|apply bwD)|exact HB.out)⟩
  · rw [if_neg c3] at H
    have c3b0:(t1210==0)=false:=beq_eq_false_iff_ne.mpr c3
    have c3b1:(t1210 !=0)=true:=bne_iff_ne.mpr c3
    simp only [Option.some.injEq,Prod.mk.injEq] at H
    obtain ⟨rfl,rfl⟩:=H
    go_enter Try.func42,Try.ntmps42
    go_wp2_with (first|((with_reducible refine gate_callee (f:=100) rfl ?_);refine goesL_ (some 6) rfl rfl Try.func100 (by kernel_rfl) rfl #[.slice A0 l0.length c0] rfl (by (try simp only [List.map_toArray,List.map_cons,List.map_nil]);first|done|rfl|(simp only [List.length_drop,List.length_take];rfl)) ?_;(with_reducible refine (impl_leavesCode.calls _ _ l0 t1210 _ ?side1 ?side2 A2.out).mono ?_);(case side1=> repeat (first|exact HR0.out|(with_reducible refine Kd.C_alloc ?_ _)|(with_reducible refine Kd.C_drewN ?_ _)|(with_reducible refine Kd.C_drew ?_)));(case side2=> exact HC0.out);rintro e w9 ⟨rfl,hb⟩;refine ⟨_,rfl,?_⟩;have n0_:=Aside0.mk (below_step (by repeat (first|(with_reducible first|exact HB.out|apply bwA|apply bwN|apply bwD)|exact HB.out)) hb);clear HB;have HB:=n0_;clear n0_;(try clear hb);(try clear hb2);(try clear hk);(try clear hi)))
    go_ret2
    exact ⟨by first|rfl|(simp [errW_none,errW_some] <;> rfl)|(simp [*,errW_none,errW_some] <;> rfl),by repeat (first|(with_reducible first|exact HB.out|apply bwA|apply bwN|apply bwD)|exact HB.out)⟩
def impl_texts.l0:Nat → Int → List ByteArray → List ByteArray → Int → Int → Option (List ByteArray)
  |0,_,_,_,_,_=> none
  |k + 1,x0,x7,x14,x15,x16=> if x16 < x15 then (if 0 ≤ x16 then (if x16 < (x14.length:Int) then (if x16 < (x7.length:Int) then ((impl_hashOf.f (rdOf ByteArray.empty x7 x16)).bind fun t1095=> (if (Go.bits .and .i64 (shr .i64 x0 x16) 1)=1 then ((impl_nodeText.f (rdOf ByteArray.empty x14 x16) t1095).bind fun t1096=> (if x7.length < 8796093022208 then (impl_texts.l0 k x0 (x7 ++ [t1096]) x14 x15 (wrap64 (x16 + 1))) else (none))) else ((impl_nodeText.f t1095 (rdOf ByteArray.empty x14 x16)).bind fun t1100=> (if x7.length < 8796093022208 then (impl_texts.l0 k x0 (x7 ++ [t1100]) x14 x15 (wrap64 (x16 + 1))) else (none))))) else (none)) else (none)) else (none)) else (some x7)
def impl_texts.f (k:Nat) (a0:Int) (a1:ByteArray) (l2:List ByteArray):Option (List ByteArray):=(impl_leafText.f a1).bind fun t1089=> (impl_texts.l0 k a0 (([t1089]:List ByteArray)) l2 (l2.length:Int) 0)
theorem impl_texts.mono_l:∀ k,(∀ y0 y1 y2 y3 y4,LeO (impl_texts.l0 k y0 y1 y2 y3 y4) (impl_texts.l0 (k + 1) y0 y1 y2 y3 y4))
  |0=> fun _ _ _ _ _ r h=> by simp [impl_texts.l0] at h
  |k + 1=> by
    have ih0:=impl_texts.mono_l k
    · intro y0 y1 y2 y3 y4
      unfold impl_texts.l0
      repeat' first
      |(with_reducible exact ih0 _ _ _ _ _)
      |(with_reducible exact LeO.refl _)
      |(with_reducible exact LeO.none _)
      |(with_reducible refine LeO.ite ?_ ?_)
      |(with_reducible refine LeO.bind ?_ (fun _=> ?_))
      |exact ih0 _ _ _ _ _
      |exact LeO.none _
      |refine LeO.ite ?_ ?_
      |refine LeO.bind ?_ (fun _=> ?_)
theorem impl_texts.mono:∀ a0 a1 a2 k,LeO (impl_texts.f k a0 a1 a2) (impl_texts.f (k + 1) a0 a1 a2):=by
  intro a0 a1 a2 k
  have ih0:=impl_texts.mono_l k
  unfold impl_texts.f
  repeat' first
      |(with_reducible exact ih0 _ _ _ _ _)
      |(with_reducible exact LeO.refl _)
      |(with_reducible exact LeO.none _)
      |(with_reducible refine LeO.ite ?_ ?_)
      |(with_reducible refine LeO.bind ?_ (fun _=> ?_))
      |exact ih0 _ _ _ _ _
      |exact LeO.none _
      |refine LeO.ite ?_ ?_
      |refine LeO.bind ?_ (fun _=> ?_)
set_option maxHeartbeats 8000000 in
set_option maxRecDepth 100000 in
theorem impl_texts.calls (k:Nat) (a0:Int) (a1:ByteArray) (A2:Option Addr) (c2:Nat) (l2:List ByteArray) (r:List ByteArray) (w:World) (hr2:Kd.C Kd.string w A2 l2.length l2) (hc2:l2.length ≤ c2) (h:impl_texts.f k a0 a1 l2=some r):
    Calls Try.prog 113 #[.int .i64 a0,.string a1,.slice A2 l2.length c2] w fun e w'=> ∃ v0_:Value,e= .returned (v0_) ∧ Kd.R Kd.string 9 w' w.heap.size (fun _=> True) v0_ r ∧ Below w.heap.size w w':=by
  have HR2:=Aside0.mk hr2
  have HC2:=Aside0.mk hc2
  clear hr2 hc2
  have HB:=Aside0.mk (Below.refl w.heap.size w)
  have H:((impl_leafText.f a1).bind fun t1089=> (impl_texts.l0 k a0 (([t1089]:List ByteArray)) l2 (l2.length:Int) 0))=some r:=h
  clear h
  replace H:=Option.bind_eq_some_iff.mp H
  obtain ⟨t1089,A40,H⟩:=H
  replace H:(impl_texts.l0 k a0 (([t1089]:List ByteArray)) l2 (l2.length:Int) 0)=some r:=H
  have A4:=Aside0.mk A40
  clear A40
  obtain ⟨y1090,hy1090⟩:∃ y_:List ByteArray,y_=(([t1089]:List ByteArray)):=⟨_,rfl⟩
  replace H:(impl_texts.l0 k a0 y1090 l2 (l2.length:Int) 0)=some r:=by first|(rw [hy1090];with_reducible exact H)|(have H2_:=(Option.bind_some _ _).symm.trans H;rw [hy1090];with_reducible exact H2_)|(have H2_:=(Option.bind_some _ _).symm.trans H;with_reducible exact H2_)|with_reducible exact H|(rw [hy1090];exact H)|exact H
  have Ny1090:=Aside0.mk hy1090
  clear hy1090
  have H':=Aside0.mk H
  clear H
  go_enter Try.func113,Try.ntmps113
  go_wp2_with (first|((with_reducible refine gate_callee (f:=91) rfl ?_);refine goesL_ (some 12) rfl rfl Try.func91 (by kernel_rfl) rfl #[.string a1] rfl (by (try simp only [List.map_toArray,List.map_cons,List.map_nil]);first|done|rfl|(simp only [List.length_drop,List.length_take];rfl)) ?_;(with_reducible refine (impl_leafText.calls a1 t1089 _ A4.out).mono ?_);rintro e w' ⟨rfl,⟨nd,rfl⟩⟩;refine ⟨_,rfl,?_⟩)|((with_reducible refine gate_dst (N:=13) rfl ?_);refine Kd.R_lit Kd.string _ 9 ?hg (N:=13) ?hd (xs:=([t1089]:List ByteArray)) (inner:= [.string t1089]) (ok:=fun _=> True) (okp:=fun _=> True) ?hr ?hp (fun _ hk=> hk) trivial (Below.refl _ _) (Nat.le_refl _) (by simp) ?_;(case hd=> rfl);(case hg=> rfl);(case hr=> first|(go_simp;done)|(go_simp;rfl));(case hp=> exact (Reps.one (show Kd.M Kd.string _ _ _ t1089 [.string t1089] from rfl) (Reps.none _ _)));intro v1091 w5 ho6 hb hg_ hnew_;clear hg_ hnew_;(first|rw [← Ny1090.out] at ho6|(simp only [Int.reduceToNat] at ho6;rw [← Ny1090.out] at ho6));have n0_:=Aside0.mk (Kd.R_lower ho6 (below_size (by repeat (first|(with_reducible first|exact HB.out|apply bwA|apply bwN|apply bwD)|exact HB.out))));have n1_:=Aside0.mk (below_step (by repeat (first|(with_reducible first|exact HB.out|apply bwA|apply bwN|apply bwD)|exact HB.out)) hb);clear HB;have HO1092:=n0_;have HB:=n1_;clear n0_ n1_;clear hb ho6))
  go_loopg [7,16] k (fun kq v7 v16 w'=> ∃ (x7_1:List ByteArray) (x16_1:Int),v16= .int .i64 x16_1 ∧ Aside0 (impl_texts.l0 kq a0 x7_1 l2 (l2.length:Int) x16_1=some r) ∧ Aside0 (kq ≤ k) ∧ Aside0 (Kd.R Kd.string 9 w' w.heap.size (fun _=> True) v7 x7_1) ∧ Aside0 (Below w.heap.size w w'))
  case atStart=> exact ⟨(y1090),(0),(by first|rfl|(simp;done)|(simp [*];done)),H',⟨Nat.le_refl _⟩,⟨by (with_reducible repeat (first|apply Kd.R_alloc|apply Kd.R_drewN|apply Kd.R_drew));exact HO1092.out⟩,⟨by repeat (first|(with_reducible first|exact HB.out|apply bwA|apply bwN|apply bwD)|exact HB.out)⟩⟩
  case round=>
    clear H'
    try clear c1
    try clear c2
    try clear p2
    obtain ⟨x7_1,x16_1,rfl,HA,HK1,HO_7,HB⟩:=hrel
    cases gk with
    |zero=> exact absurd HA.out (by simp [impl_texts.l0])
    |succ k1=>
      have H:=HA.out
      clear HA
      simp only [impl_texts.l0] at H
      by_cases c7:x16_1 < (l2.length:Int)
      · rw [if_pos c7] at H
        have c7b0:decide (x16_1 < (l2.length:Int))=true:=decide_eq_true c7
        clear c7
        by_cases c8:0 ≤ x16_1
        · rw [if_pos c8] at H
          have c8b0:decide (0 ≤ x16_1)=true:=decide_eq_true c8
          clear c8
          by_cases c9:x16_1 < (l2.length:Int)
          · rw [if_pos c9] at H
            have c9b0:decide (x16_1 < (l2.length:Int))=true:=decide_eq_true c9
            clear c9
            by_cases c10:x16_1 < (x7_1.length:Int)
            · rw [if_pos c10] at H
              have c10b0:decide (x16_1 < (x7_1.length:Int))=true:=decide_eq_true c10
              clear c10
              replace H:=Option.bind_eq_some_iff.mp H
              obtain ⟨t1095,A110,H⟩:=H
              replace H:(if (Go.bits .and .i64 (shr .i64 a0 x16_1) 1)=1 then ((impl_nodeText.f (rdOf ByteArray.empty l2 x16_1) t1095).bind fun t1096=> (if x7_1.length < 8796093022208 then (impl_texts.l0 k1 a0 (x7_1 ++ [t1096]) l2 (l2.length:Int) (wrap64 (x16_1 + 1))) else (none))) else ((impl_nodeText.f t1095 (rdOf ByteArray.empty l2 x16_1)).bind fun t1100=> (if x7_1.length < 8796093022208 then (impl_texts.l0 k1 a0 (x7_1 ++ [t1100]) l2 (l2.length:Int) (wrap64 (x16_1 + 1))) else (none))))=some r:=H
              have A11:=Aside0.mk A110
              clear A110
              have c12b0:=eq_true (of_decide_eq_true (by first|(with_reducible assumption)|assumption):0 ≤ x16_1)
              obtain ⟨ji13,hji13⟩:∃ j_:Int,(shr .i64 a0 x16_1)=j_:=⟨_,rfl⟩
              replace H:(if (Go.bits .and .i64 (ji13) 1)=1 then ((impl_nodeText.f (rdOf ByteArray.empty l2 x16_1) t1095).bind fun t1096=> (if x7_1.length < 8796093022208 then (impl_texts.l0 k1 a0 (x7_1 ++ [t1096]) l2 (l2.length:Int) (wrap64 (x16_1 + 1))) else (none))) else ((impl_nodeText.f t1095 (rdOf ByteArray.empty l2 x16_1)).bind fun t1100=> (if x7_1.length < 8796093022208 then (impl_texts.l0 k1 a0 (x7_1 ++ [t1100]) l2 (l2.length:Int) (wrap64 (x16_1 + 1))) else (none))))=some r:=by first|(rw [hji13] at H;exact H)|(simp only [hji13] at H ⊢;exact H)
              (try rw [hji13] at A11)
              have hji13_:(a0 / 2 ^ min x16_1.toNat 64)=ji13:=hji13
              have hji13z:x16_1 ≤ 64 → (a0 / 2 ^ x16_1.toNat)=ji13:=shr_small hji13
              by_cases c14:(Go.bits .and .i64 (ji13) 1)=1
              · rw [if_pos c14] at H
                have c14b0:((Go.bits .and .i64 (ji13) 1)==1)=true:=beq_iff_eq.mpr c14
                have c14b1:((Go.bits .and .i64 (ji13) 1) !=1)=false:=bne_eq_false_iff_eq.mpr c14
                clear c14
                replace H:=Option.bind_eq_some_iff.mp H
                obtain ⟨t1096,A150,H⟩:=H
                replace H:(if x7_1.length < 8796093022208 then (impl_texts.l0 k1 a0 (x7_1 ++ [t1096]) l2 (l2.length:Int) (wrap64 (x16_1 + 1))) else (none))=some r:=H
                have A15:=Aside0.mk A150
                clear A150
                by_cases c16:x7_1.length < 8796093022208
                · rw [if_pos c16] at H
                  have LMc16:=Aside0.mk c16
                  clear c16
                  obtain ⟨y1097,hy1097⟩:∃ y_:List ByteArray,y_=(x7_1 ++ [t1096]):=⟨_,rfl⟩
                  replace H:(impl_texts.l0 k1 a0 y1097 l2 (l2.length:Int) (wrap64 (x16_1 + 1)))=some r:=by first|(rw [hy1097];with_reducible exact H)|(have H2_:=(Option.bind_some _ _).symm.trans H;rw [hy1097];with_reducible exact H2_)|(have H2_:=(Option.bind_some _ _).symm.trans H;with_reducible exact H2_)|with_reducible exact H|(rw [hy1097];exact H)|exact H
                  have Ny1097:=Aside0.mk hy1097
                  clear hy1097
                  have H':=Aside0.mk H
                  clear H
                  have p1093:0 ≤ (x16_1:Int):=of_decide_eq_true (by first|(with_reducible assumption)|assumption)
                  have q1093:x16_1 < (l2.length:Int):=of_decide_eq_true (by first|(with_reducible assumption)|assumption)
                  obtain ⟨ad1093,e1093,hx1093_0⟩:=Kd.at_string HR2.out x16_1 p1093 q1093
                  cases e1093
                  replace hx1093_0:=(HB.out.cell (World.block_lt_of_cell? w _ hx1093_0)).trans hx1093_0
                  replace p1093:=eq_true p1093
                  replace q1093:=eq_true q1093
                  obtain ⟨Ao17,co17,eo17⟩:=Kd.R_slice HO_7.out
                  subst eo17
                  have p1094:0 ≤ (x16_1:Int):=of_decide_eq_true (by first|(with_reducible assumption)|assumption)
                  have q1094:x16_1 < (x7_1.length:Int):=of_decide_eq_true (by first|(with_reducible assumption)|assumption)
                  obtain ⟨ad1094,e1094,hx1094_0⟩:=Kd.at_string (Kd.R_reads' HO_7.out).2.2 x16_1 p1094 q1094
                  cases e1094
                  replace p1094:=eq_true p1094
                  replace q1094:=eq_true q1094
                  go_wp2_with (first|((with_reducible refine gate_callee (f:=90) rfl ?_);refine goesL_ (some 25) rfl rfl Try.func90 (by kernel_rfl) rfl #[.string (rdOf ByteArray.empty x7_1 x16_1)] rfl (by (try simp only [List.map_toArray,List.map_cons,List.map_nil]);first|done|rfl|(simp only [List.length_drop,List.length_take];rfl)) ?_;(with_reducible refine (impl_hashOf.calls (rdOf ByteArray.empty x7_1 x16_1) t1095 _ A11.out).mono ?_);rintro e w18 ⟨rfl,hb⟩;refine ⟨_,rfl,?_⟩;have n0_:=Aside0.mk (Kd.R_below (by (with_reducible repeat (first|apply Kd.R_alloc|apply Kd.R_drewN|apply Kd.R_drew));exact HO_7.out) hb);have n1_:=Aside0.mk (below_step (by repeat (first|(with_reducible first|exact HB.out|apply bwA|apply bwN|apply bwD)|exact HB.out)) hb);clear HO_7;clear HB;have HO_7:=n0_;have HB:=n1_;clear n0_ n1_;(try clear hb);(try clear hb2);(try clear hk);(try clear hi))|((with_reducible refine gate_callee (f:=94) rfl ?_);refine goesL_ (some 36) rfl rfl Try.func94 (by kernel_rfl) rfl #[.string (rdOf ByteArray.empty l2 x16_1),.string t1095] rfl (by (try simp only [List.map_toArray,List.map_cons,List.map_nil]);first|done|rfl|(simp only [List.length_drop,List.length_take];rfl)) ?_;(with_reducible refine (impl_nodeText.calls (rdOf ByteArray.empty l2 x16_1) t1095 t1096 _ A15.out).mono ?_);rintro e w' ⟨rfl,⟨nd,rfl⟩⟩;refine ⟨_,rfl,?_⟩)|((with_reducible refine gate_builtin (b:= .append) (xs:= #[.tmp 33,.tmp 37]) rfl ?_);at_builtin;refine Kd.R_append Kd.string (w0:=w) w.heap.size rfl (.tmp 33) (.tmp 37) 41 9 (.string ⟨#[]⟩) 16 rfl Try.underlying41 info9 rfl (by decide) (by omega) (.slice (some ad1094) x7_1.length co17) x7_1 t1096 [.string t1096] (fun _=> True) (fun _=> False) rfl rfl ?aP (fun _ hk=> hk.elim) ?aF ?aO ?aB ?aS ?aL ?_;(case aP=> exact rfl);(case aB=> exact (by repeat (first|(with_reducible first|exact HB.out|apply bwA|apply bwN|apply bwD)|exact HB.out)));(case aF=> exact (fun _ _=> trivial));(case aO=> exact (by (with_reducible repeat (first|apply Kd.R_alloc|apply Kd.R_drewN|apply Kd.R_drew));exact HO_7.out));(case aS=> exact (below_size (by repeat (first|(with_reducible first|exact HB.out|apply bwA|apply bwN|apply bwD)|exact HB.out))));(case aL=> have:=LMc16.out;omega);intro v1098 w19 ho hb hg hat;rw [← Ny1097.out] at ho;have n0_:=Aside0.mk (hb);have n1_:=Aside0.mk (ho);clear HB;clear HO_7;have HB:=n0_;have HO1099:=n1_;clear n0_ n1_;clear ho hb hg hat))
                  go_roundg k1
                  case measure=> have:=HK1.out;omega
                  case rel=> exact ⟨(y1097),(wrap64 (x16_1 + 1)),(by first|rfl|(simp;done)|(simp [*];done)),H',⟨by have:=HK1.out;omega⟩,⟨by (with_reducible repeat (first|apply Kd.R_alloc|apply Kd.R_drewN|apply Kd.R_drew));exact HO1099.out⟩,⟨by repeat (first|(with_reducible first|exact HB.out|apply bwA|apply bwN|apply bwD)|exact HB.out)⟩⟩
                · rw [if_neg c16] at H
                  exact absurd H (by simp)
              · rw [if_neg c14] at H
                have c14b0:((Go.bits .and .i64 (ji13) 1)==1)=false:=beq_eq_false_iff_ne.mpr c14
                have c14b1:((Go.bits .and .i64 (ji13) 1) !=1)=true:=bne_iff_ne.mpr c14
                replace H:=Option.bind_eq_some_iff.mp H
                obtain ⟨t1100,A200,H⟩:=H
                replace H:(if x7_1.length < 8796093022208 then (impl_texts.l0 k1 a0 (x7_1 ++ [t1100]) l2 (l2.length:Int) (wrap64 (x16_1 + 1))) else (none))=some r:=H
                have A20:=Aside0.mk A200
                clear A200
                by_cases c21:x7_1.length < 8796093022208
                · rw [if_pos c21] at H
                  have LMc21:=Aside0.mk c21
                  clear c21
                  obtain ⟨y1101,hy1101⟩:∃ y_:List ByteArray,y_=(x7_1 ++ [t1100]):=⟨_,rfl⟩
                  replace H:(impl_texts.l0 k1 a0 y1101 l2 (l2.length:Int) (wrap64 (x16_1 + 1)))=some r:=by first|(rw [hy1101];with_reducible exact H)|(have H2_:=(Option.bind_some _ _).symm.trans H;rw [hy1101];with_reducible exact H2_)|(have H2_:=(Option.bind_some _ _).symm.trans H;with_reducible exact H2_)|with_reducible exact H|(rw [hy1101];exact H)|exact H
                  have Ny1101:=Aside0.mk hy1101
                  clear hy1101
                  have H':=Aside0.mk H
                  clear H
                  have p1093:0 ≤ (x16_1:Int):=of_decide_eq_true (by first|(with_reducible assumption)|assumption)
                  have q1093:x16_1 < (l2.length:Int):=of_decide_eq_true (by first|(with_reducible assumption)|assumption)
                  obtain ⟨ad1093,e1093,hx1093_0⟩:=Kd.at_string HR2.out x16_1 p1093 q1093
                  cases e1093
                  replace hx1093_0:=(HB.out.cell (World.block_lt_of_cell? w _ hx1093_0)).trans hx1093_0
                  replace p1093:=eq_true p1093
                  replace q1093:=eq_true q1093
                  obtain ⟨Ao22,co22,eo22⟩:=Kd.R_slice HO_7.out
                  subst eo22
                  have p1094:0 ≤ (x16_1:Int):=of_decide_eq_true (by first|(with_reducible assumption)|assumption)
                  have q1094:x16_1 < (x7_1.length:Int):=of_decide_eq_true (by first|(with_reducible assumption)|assumption)
                  obtain ⟨ad1094,e1094,hx1094_0⟩:=Kd.at_string (Kd.R_reads' HO_7.out).2.2 x16_1 p1094 q1094
                  cases e1094
                  replace p1094:=eq_true p1094
                  replace q1094:=eq_true q1094
                  go_wp2_with (first|((with_reducible refine gate_callee (f:=90) rfl ?_);refine goesL_ (some 25) rfl rfl Try.func90 (by kernel_rfl) rfl #[.string (rdOf ByteArray.empty x7_1 x16_1)] rfl (by (try simp only [List.map_toArray,List.map_cons,List.map_nil]);first|done|rfl|(simp only [List.length_drop,List.length_take];rfl)) ?_;(with_reducible refine (impl_hashOf.calls (rdOf ByteArray.empty x7_1 x16_1) t1095 _ A11.out).mono ?_);rintro e w23 ⟨rfl,hb⟩;refine ⟨_,rfl,?_⟩;have n0_:=Aside0.mk (Kd.R_below (by (with_reducible repeat (first|apply Kd.R_alloc|apply Kd.R_drewN|apply Kd.R_drew));exact HO_7.out) hb);have n1_:=Aside0.mk (below_step (by repeat (first|(with_reducible first|exact HB.out|apply bwA|apply bwN|apply bwD)|exact HB.out)) hb);clear HO_7;clear HB;have HO_7:=n0_;have HB:=n1_;clear n0_ n1_;(try clear hb);(try clear hb2);(try clear hk);(try clear hi))|((with_reducible refine gate_callee (f:=94) rfl ?_);refine goesL_ (some 36) rfl rfl Try.func94 (by kernel_rfl) rfl #[.string t1095,.string (rdOf ByteArray.empty l2 x16_1)] rfl (by (try simp only [List.map_toArray,List.map_cons,List.map_nil]);first|done|rfl|(simp only [List.length_drop,List.length_take];rfl)) ?_;(with_reducible refine (impl_nodeText.calls t1095 (rdOf ByteArray.empty l2 x16_1) t1100 _ A20.out).mono ?_);rintro e w' ⟨rfl,⟨nd,rfl⟩⟩;refine ⟨_,rfl,?_⟩)|((with_reducible refine gate_builtin (b:= .append) (xs:= #[.tmp 33,.tmp 37]) rfl ?_);at_builtin;refine Kd.R_append Kd.string (w0:=w) w.heap.size rfl (.tmp 33) (.tmp 37) 41 9 (.string ⟨#[]⟩) 16 rfl Try.underlying41 info9 rfl (by decide) (by omega) (.slice (some ad1094) x7_1.length co22) x7_1 t1100 [.string t1100] (fun _=> True) (fun _=> False) rfl rfl ?aP (fun _ hk=> hk.elim) ?aF ?aO ?aB ?aS ?aL ?_;(case aP=> exact rfl);(case aB=> exact (by repeat (first|(with_reducible first|exact HB.out|apply bwA|apply bwN|apply bwD)|exact HB.out)));(case aF=> exact (fun _ _=> trivial));(case aO=> exact (by (with_reducible repeat (first|apply Kd.R_alloc|apply Kd.R_drewN|apply Kd.R_drew));exact HO_7.out));(case aS=> exact (below_size (by repeat (first|(with_reducible first|exact HB.out|apply bwA|apply bwN|apply bwD)|exact HB.out))));(case aL=> have:=LMc21.out;omega);intro v1102 w24 ho hb hg hat;rw [← Ny1101.out] at ho;have n0_:=Aside0.mk (hb);have n1_:=Aside0.mk (ho);clear HB;clear HO_7;have HB:=n0_;have HO1103:=n1_;clear n0_ n1_;clear ho hb hg hat))
                  go_roundg k1
                  case measure=> have:=HK1.out;omega
                  case rel=> exact ⟨(y1101),(wrap64 (x16_1 + 1)),(by first|rfl|(simp;done)|(simp [*];done)),H',⟨by have:=HK1.out;omega⟩,⟨by (with_reducible repeat (first|apply Kd.R_alloc|apply Kd.R_drewN|apply Kd.R_drew));exact HO1103.out⟩,⟨by repeat (first|(with_reducible first|exact HB.out|apply bwA|apply bwN|apply bwD)|exact HB.out)⟩⟩
                · rw [if_neg c21] at H
                  exact absurd H (by simp)
            · rw [if_neg c10] at H
              exact absurd H (by simp)
          · rw [if_neg c9] at H
            exact absurd H (by simp)
        · rw [if_neg c8] at H
          exact absurd H (by simp)
      · rw [if_neg c7] at H
        have c7b0:decide (x16_1 < (l2.length:Int))=false:=decide_eq_false c7
        clear c7
        obtain rfl:=Option.some.inj H
        go_wp2
        go_ret
        exact ⟨_,by first|rfl|(simp [errW_none,errW_some] <;> rfl)|(simp [*,errW_none,errW_some] <;> rfl),by (with_reducible repeat (first|apply Kd.R_alloc|apply Kd.R_drewN|apply Kd.R_drew));exact HO_7.out,by repeat (first|(with_reducible first|exact HB.out|apply bwA|apply bwN|apply bwD)|exact HB.out)⟩
def laws_eqStringS.l0:Nat → List ByteArray → List ByteArray → Int → Option (Bool)
  |0,_,_,_=> none
  |k + 1,x0,x1,x5=> if x5 < (x0.length:Int) then (if 0 ≤ x5 then (if x5 < (x1.length:Int) then (if (rdOf ByteArray.empty x0 x5).toList=(rdOf ByteArray.empty x1 x5).toList then (laws_eqStringS.l0 k x0 x1 (wrap64 (x5 + 1))) else (some false)) else (none)) else (none)) else (some true)
def laws_eqStringS.f (k:Nat) (l0:List ByteArray) (l1:List ByteArray):Option (Bool):=if (l0.length:Int)=(l1.length:Int) then (laws_eqStringS.l0 k l0 l1 0) else (some false)
theorem laws_eqStringS.mono_l:∀ k,(∀ y0 y1 y2,LeO (laws_eqStringS.l0 k y0 y1 y2) (laws_eqStringS.l0 (k + 1) y0 y1 y2))
  |0=> fun _ _ _ r h=> by simp [laws_eqStringS.l0] at h
  |k + 1=> by
    have ih0:=laws_eqStringS.mono_l k
    · intro y0 y1 y2
      unfold laws_eqStringS.l0
      repeat' first
      |(with_reducible exact ih0 _ _ _)
      |(with_reducible exact LeO.refl _)
      |(with_reducible exact LeO.none _)
      |(with_reducible refine LeO.ite ?_ ?_)
      |(with_reducible refine LeO.bind ?_ (fun _=> ?_))
      |exact ih0 _ _ _
      |exact LeO.none _
      |refine LeO.ite ?_ ?_
      |refine LeO.bind ?_ (fun _=> ?_)
theorem laws_eqStringS.mono:∀ a0 a1 k,LeO (laws_eqStringS.f k a0 a1) (laws_eqStringS.f (k + 1) a0 a1):=by
  intro a0 a1 k
  have ih0:=laws_eqStringS.mono_l k
  unfold laws_eqStringS.f
  repeat' first
      |(with_reducible exact ih0 _ _ _)
      |(with_reducible exact LeO.refl _)
      |(with_reducible exact LeO.none _)
      |(with_reducible refine LeO.ite ?_ ?_)
      |(with_reducible refine LeO.bind ?_ (fun _=> ?_))
      |exact ih0 _ _ _
      |exact LeO.none _
      |refine LeO.ite ?_ ?_
      |refine LeO.bind ?_ (fun _=> ?_)
set_option maxHeartbeats 8000000 in
set_option maxRecDepth 100000 in
theorem laws_eqStringS.calls (k:Nat) (A0:Option Addr) (c0:Nat) (l0:List ByteArray) (A1:Option Addr) (c1:Nat) (l1:List ByteArray) (r:Bool) (w:World) (hr0:Kd.C Kd.string w A0 l0.length l0) (hc0:l0.length ≤ c0) (hr1:Kd.C Kd.string w A1 l1.length l1) (hc1:l1.length ≤ c1) (h:laws_eqStringS.f k l0 l1=some r):
    Calls Try.prog 43 #[.slice A0 l0.length c0,.slice A1 l1.length c1] w fun e w'=> e= .returned (.bool r) ∧ Drawn0 w w':=by
  have HR0:=Aside0.mk hr0
  have HC0:=Aside0.mk hc0
  clear hr0 hc0
  have HR1:=Aside0.mk hr1
  have HC1:=Aside0.mk hc1
  clear hr1 hc1
  have H:(if (l0.length:Int)=(l1.length:Int) then (laws_eqStringS.l0 k l0 l1 0) else (some false))=some r:=h
  clear h
  by_cases c3:(l0.length:Int)=(l1.length:Int)
  · rw [if_pos c3] at H
    have c3b0:((l0.length:Int)==(l1.length:Int))=true:=beq_iff_eq.mpr c3
    have c3b1:((l0.length:Int) !=(l1.length:Int))=false:=bne_eq_false_iff_eq.mpr c3
    have c3b2:(l0.length==l1.length)=true:=by first|simpa using c3|(simp at c3 ⊢;omega)
    clear c3
    have H':=Aside0.mk H
    clear H
    go_enter Try.func43,Try.ntmps43
    go_wp2
    repeat (go_quiet (fail);try go_wp2)
    go_loopg [5] k (fun kq v5 w'=> ∃ (x5_1:Int),v5= .int .i64 x5_1 ∧ Aside0 (laws_eqStringS.l0 kq l0 l1 x5_1=some r) ∧ Aside0 (kq ≤ k) ∧ Drawn0 w w')
    case atStart=> exact ⟨(0),(by first|rfl|(simp;done)|(simp [*];done)),H',⟨Nat.le_refl _⟩,by repeat (first|exact Drawn0.refl _|apply Drawn0.step)⟩
    case round=>
      clear H'
      try clear c1
      try clear p2
      try clear c3
      try clear c3b0
      try clear c3b1
      try clear c3b2
      obtain ⟨x5_1,rfl,HA,HK1,⟨m1,rfl⟩⟩:=hrel
      cases gk with
      |zero=> exact absurd HA.out (by simp [laws_eqStringS.l0])
      |succ k1=>
        have H:=HA.out
        clear HA
        simp only [laws_eqStringS.l0] at H
        by_cases c4:x5_1 < (l0.length:Int)
        · rw [if_pos c4] at H
          have c4b0:decide (x5_1 < (l0.length:Int))=true:=decide_eq_true c4
          clear c4
          by_cases c5:0 ≤ x5_1
          · rw [if_pos c5] at H
            have c5b0:decide (0 ≤ x5_1)=true:=decide_eq_true c5
            clear c5
            by_cases c6:x5_1 < (l1.length:Int)
            · rw [if_pos c6] at H
              have c6b0:decide (x5_1 < (l1.length:Int))=true:=decide_eq_true c6
              clear c6
              by_cases c7:(rdOf ByteArray.empty l0 x5_1).toList=(rdOf ByteArray.empty l1 x5_1).toList
              · rw [if_pos c7] at H
                have c7b0:((rdOf ByteArray.empty l0 x5_1).toList==(rdOf ByteArray.empty l1 x5_1).toList)=true:=beq_iff_eq.mpr c7
                have c7b1:((rdOf ByteArray.empty l0 x5_1).toList !=(rdOf ByteArray.empty l1 x5_1).toList)=false:=bne_eq_false_iff_eq.mpr c7
                clear c7
                have H':=Aside0.mk H
                clear H
                have p1061:0 ≤ (x5_1:Int):=of_decide_eq_true (by first|(with_reducible assumption)|assumption)
                have q1061:x5_1 < (l0.length:Int):=of_decide_eq_true (by first|(with_reducible assumption)|assumption)
                obtain ⟨ad1061,e1061,hx1061_0⟩:=Kd.at_string HR0.out x5_1 p1061 q1061
                cases e1061
                replace p1061:=eq_true p1061
                replace q1061:=eq_true q1061
                have p1062:0 ≤ (x5_1:Int):=of_decide_eq_true (by first|(with_reducible assumption)|assumption)
                have q1062:x5_1 < (l1.length:Int):=of_decide_eq_true (by first|(with_reducible assumption)|assumption)
                obtain ⟨ad1062,e1062,hx1062_0⟩:=Kd.at_string HR1.out x5_1 p1062 q1062
                cases e1062
                replace p1062:=eq_true p1062
                replace q1062:=eq_true q1062
                go_wp2
                repeat (go_quiet (fail);try go_wp2)
                go_roundg k1
                case measure=> have:=HK1.out;omega
                case rel=> exact ⟨(wrap64 (x5_1 + 1)),(by first|rfl|(simp;done)|(simp [*];done)),H',⟨by have:=HK1.out;omega⟩,by repeat (first|exact Drawn0.refl _|apply Drawn0.step)⟩
              · rw [if_neg c7] at H
                have c7b0:((rdOf ByteArray.empty l0 x5_1).toList==(rdOf ByteArray.empty l1 x5_1).toList)=false:=beq_eq_false_iff_ne.mpr c7
                have c7b1:((rdOf ByteArray.empty l0 x5_1).toList !=(rdOf ByteArray.empty l1 x5_1).toList)=true:=bne_iff_ne.mpr c7
                obtain rfl:=Option.some.inj H
                have p1061:0 ≤ (x5_1:Int):=of_decide_eq_true (by first|(with_reducible assumption)|assumption)
                have q1061:x5_1 < (l0.length:Int):=of_decide_eq_true (by first|(with_reducible assumption)|assumption)
                obtain ⟨ad1061,e1061,hx1061_0⟩:=Kd.at_string HR0.out x5_1 p1061 q1061
                cases e1061
                replace p1061:=eq_true p1061
                replace q1061:=eq_true q1061
                have p1062:0 ≤ (x5_1:Int):=of_decide_eq_true (by first|(with_reducible assumption)|assumption)
                have q1062:x5_1 < (l1.length:Int):=of_decide_eq_true (by first|(with_reducible assumption)|assumption)
                obtain ⟨ad1062,e1062,hx1062_0⟩:=Kd.at_string HR1.out x5_1 p1062 q1062
                cases e1062
                replace p1062:=eq_true p1062
                replace q1062:=eq_true q1062
                go_wp2
                repeat (go_quiet (fail);try go_wp2)
                go_ret
                exact ⟨by first|rfl|(simp;done)|(simp [*];done),by repeat (first|exact Drawn0.refl _|apply Drawn0.step)⟩
            · rw [if_neg c6] at H
              exact absurd H (by simp)
          · rw [if_neg c5] at H
            exact absurd H (by simp)
        · rw [if_neg c4] at H
          have c4b0:decide (x5_1 < (l0.length:Int))=false:=decide_eq_false c4
          clear c4
          obtain rfl:=Option.some.inj H
          go_wp2
          repeat (go_quiet (fail);try go_wp2)
          go_ret
          exact ⟨by first|rfl|(simp;done)|(simp [*];done),by repeat (first|exact Drawn0.refl _|apply Drawn0.step)⟩
  · rw [if_neg c3] at H
    have c3b0:((l0.length:Int)==(l1.length:Int))=false:=beq_eq_false_iff_ne.mpr c3
    have c3b1:((l0.length:Int) !=(l1.length:Int))=true:=bne_iff_ne.mpr c3
    have c3b2:(l0.length==l1.length)=false:=by first|simpa using c3|(simp at c3 ⊢;omega)
    obtain rfl:=Option.some.inj H
    go_enter Try.func43,Try.ntmps43
    go_wp2
    repeat (go_quiet (fail);try go_wp2)
    go_ret
    exact ⟨by first|rfl|(simp;done)|(simp [*];done),by repeat (first|exact Drawn0.refl _|apply Drawn0.step)⟩
def laws_markText.l0:Nat → Int → ByteArray → Option (ByteArray)
  |0,_,_=> none
  |k + 1,x0,x3=> if x0 > 0 then ((some (([(wrap64 (48 + (Int.tmod x0 10))) % 256]:List Int):List Int)).bind fun y1275=> (if (strOfNums y1275).size + x3.size ≤ 9223372036854775807 then (laws_markText.l0 k (wrap64 (Int.tdiv x0 10)) ((strOfNums y1275) ++ x3)) else (none))) else (if 1 + x3.size ≤ 9223372036854775807 then (some ((⟨#[109]⟩:ByteArray) ++ x3)) else (none))
def laws_markText.f (k:Nat) (a0:Int):Option (ByteArray):=if a0 ≤ 0 then (some (⟨#[109,48]⟩:ByteArray)) else (laws_markText.l0 k a0 (⟨#[]⟩:ByteArray))
theorem laws_markText.mono_l:∀ k,(∀ y0 y1,LeO (laws_markText.l0 k y0 y1) (laws_markText.l0 (k + 1) y0 y1))
  |0=> fun _ _ r h=> by simp [laws_markText.l0] at h
  |k + 1=> by
    have ih0:=laws_markText.mono_l k
    · intro y0 y1
      unfold laws_markText.l0
      repeat' first
      |(with_reducible exact ih0 _ _)
      |(with_reducible exact LeO.refl _)
      |(with_reducible exact LeO.none _)
      |(with_reducible refine LeO.ite ?_ ?_)
      |(with_reducible refine LeO.bind ?_ (fun _=> ?_))
      |exact ih0 _ _
      |exact LeO.none _
      |refine LeO.ite ?_ ?_
      |refine LeO.bind ?_ (fun _=> ?_)
theorem laws_markText.mono:∀ a0 k,LeO (laws_markText.f k a0) (laws_markText.f (k + 1) a0):=by
  intro a0 k
  have ih0:=laws_markText.mono_l k
  unfold laws_markText.f
  repeat' first
      |(with_reducible exact ih0 _ _)
      |(with_reducible exact LeO.refl _)
      |(with_reducible exact LeO.none _)
      |(with_reducible refine LeO.ite ?_ ?_)
      |(with_reducible refine LeO.bind ?_ (fun _=> ?_))
      |exact ih0 _ _
      |exact LeO.none _
      |refine LeO.ite ?_ ?_
      |refine LeO.bind ?_ (fun _=> ?_)
set_option maxHeartbeats 8000000 in
set_option maxRecDepth 100000 in
theorem laws_markText.calls (k:Nat) (a0:Int) (r:ByteArray) (w:World) (h:laws_markText.f k a0=some r):
    Calls Try.prog 107 #[.int .i64 a0] w fun e w'=> e= .returned (.string r) ∧ Below w.heap.size w w':=by
  have HB:=Aside0.mk (Below.refl w.heap.size w)
  have H:(if a0 ≤ 0 then (some (⟨#[109,48]⟩:ByteArray)) else (laws_markText.l0 k a0 (⟨#[]⟩:ByteArray)))=some r:=h
  clear h
  by_cases c2:a0 ≤ 0
  · rw [if_pos c2] at H
    have c2b0:decide (a0 ≤ 0)=true:=decide_eq_true c2
    clear c2
    obtain rfl:=Option.some.inj H
    go_enter Try.func107,Try.ntmps107
    go_wp2
    go_ret
    exact ⟨by first|rfl|(simp [errW_none,errW_some] <;> rfl)|(simp [*,errW_none,errW_some] <;> rfl),by repeat (first|(with_reducible first|exact HB.out|apply bwA|apply bwN|apply bwD)|exact HB.out)⟩
  · rw [if_neg c2] at H
    have c2b0:decide (a0 ≤ 0)=false:=decide_eq_false c2
    clear c2
    have H':=Aside0.mk H
    clear H
    go_enter Try.func107,Try.ntmps107
    go_wp2
    go_loopg [0,3] k (fun kq v0 v3 w'=> ∃ (x0_1:Int) (x3_1:ByteArray),v0= .int .i64 x0_1 ∧ v3= .string x3_1 ∧ Aside0 (laws_markText.l0 kq x0_1 x3_1=some r) ∧ Aside0 (kq ≤ k) ∧ Aside0 (Below w.heap.size w w'))
    case atStart=> exact ⟨(a0),((⟨#[]⟩:ByteArray)),(by first|rfl|(simp;done)|(simp [*];done)),(by first|rfl|(simp;done)|(simp [*];done)),H',⟨Nat.le_refl _⟩,⟨by repeat (first|(with_reducible first|exact HB.out|apply bwA|apply bwN|apply bwD)|exact HB.out)⟩⟩
    case round=>
      clear H'
      try clear c1
      try clear c2
      try clear c2b0
      try clear p2
      obtain ⟨x0_1,x3_1,rfl,rfl,HA,HK1,HB⟩:=hrel
      cases gk with
      |zero=> exact absurd HA.out (by simp [laws_markText.l0])
      |succ k1=>
        have H:=HA.out
        clear HA
        simp only [laws_markText.l0] at H
        by_cases c3:x0_1 > 0
        · rw [if_pos c3] at H
          have c3b0:decide (0 < x0_1)=true:=decide_eq_true c3
          clear c3
          obtain ⟨y1275,hy1275⟩:∃ y_:List Int,y_=(([(wrap64 (48 + (Int.tmod x0_1 10))) % 256]:List Int)):=⟨_,rfl⟩
          replace H:(if (strOfNums y1275).size + x3_1.size ≤ 9223372036854775807 then (laws_markText.l0 k1 (wrap64 (Int.tdiv x0_1 10)) ((strOfNums y1275) ++ x3_1)) else (none))=some r:=by first|(rw [hy1275];with_reducible exact H)|(have H2_:=(Option.bind_some _ _).symm.trans H;rw [hy1275];with_reducible exact H2_)|(have H2_:=(Option.bind_some _ _).symm.trans H;with_reducible exact H2_)|with_reducible exact H|(rw [hy1275];exact H)|exact H
          have Ny1275:=Aside0.mk hy1275
          clear hy1275
          by_cases c4:(strOfNums y1275).size + x3_1.size ≤ 9223372036854775807
          · rw [if_pos c4] at H
            have c4b0:=eq_true c4
            have c4b1:decide ((strOfNums y1275).size + x3_1.size ≤ 9223372036854775807)=true:=decide_eq_true c4
            try have c4b2:(9223372036854775807 < (strOfNums y1275).size + x3_1.size)=False:=eq_false (Nat.not_lt.2 c4)
            have H':=Aside0.mk H
            clear H
            go_wp2_with (first|((with_reducible refine gate_dst (N:=12) rfl ?_);refine Kd.R_lit (Kd.int .u8) _ 5 ?hg (N:=12) ?hd (xs:=([(wrap64 (48 + (Int.tmod x0_1 10))) % 256]:List Int)) (inner:= [.int .u8 ((wrap64 (48 + (Int.tmod x0_1 10))) % 256)]) (ok:=fun _=> True) (okp:=fun _=> True) ?hr ?hp (fun _ hk=> hk) trivial (Below.refl _ _) (Nat.le_refl _) (by simp) ?_;(case hd=> rfl);(case hg=> rfl);(case hr=> first|(go_simp;done)|(go_simp;rfl));(case hp=> exact (Reps.one (show Kd.M (Kd.int .u8) _ _ _ ((wrap64 (48 + (Int.tmod x0_1 10))) % 256) [.int .u8 ((wrap64 (48 + (Int.tmod x0_1 10))) % 256)] from rfl) (Reps.none _ _)));intro v1276 w5 ho6 hb hg_ hnew_;clear hg_ hnew_;(first|rw [← Ny1275.out] at ho6|(simp only [Int.reduceToNat] at ho6;rw [← Ny1275.out] at ho6));have n0_:=Aside0.mk (Kd.R_lower ho6 (below_size (by repeat (first|(with_reducible first|exact HB.out|apply bwA|apply bwN|apply bwD)|exact HB.out))));have n1_:=Aside0.mk (below_step (by repeat (first|(with_reducible first|exact HB.out|apply bwA|apply bwN|apply bwD)|exact HB.out)) hb);clear HB;have HO1277:=n0_;have HB:=n1_;clear n0_ n1_;clear hb ho6;have hcv7:=own_string (P:=Try.prog) Try.underlying25 Try.underlying5 Try.underlying9 (Kd.own_of_R HO1277.out)))
            go_roundg k1
            case measure=> have:=HK1.out;omega
            case rel=> exact ⟨(wrap64 (Int.tdiv x0_1 10)),((strOfNums y1275) ++ x3_1),(by first|rfl|(simp;done)|(simp [*];done)),(by first|rfl|(simp;done)|(simp [*];done)),H',⟨by have:=HK1.out;omega⟩,⟨by repeat (first|(with_reducible first|exact HB.out|apply bwA|apply bwN|apply bwD)|exact HB.out)⟩⟩
          · rw [if_neg c4] at H
            exact absurd H (by simp)
        · rw [if_neg c3] at H
          have c3b0:decide (0 < x0_1)=false:=decide_eq_false c3
          clear c3
          by_cases c8:1 + x3_1.size ≤ 9223372036854775807
          · rw [if_pos c8] at H
            have c8b0:=eq_true c8
            have c8b1:decide (1 + x3_1.size ≤ 9223372036854775807)=true:=decide_eq_true c8
            try have c8b2:(9223372036854775807 < 1 + x3_1.size)=False:=eq_false (Nat.not_lt.2 c8)
            obtain rfl:=Option.some.inj H
            go_wp2
            go_ret
            exact ⟨by first|rfl|(simp [errW_none,errW_some] <;> rfl)|(simp [*,errW_none,errW_some] <;> rfl),by repeat (first|(with_reducible first|exact HB.out|apply bwA|apply bwN|apply bwD)|exact HB.out)⟩
          · rw [if_neg c8] at H
            exact absurd H (by simp)
def laws_heldStringS.l0:Nat → List ByteArray → Int → Int → Option (Int)
  |0,_,_,_=> none
  |k + 1,x0,x1,x5=> if x5 < (x0.length:Int) then (if 0 ≤ x5 then ((laws_markText.f k x1).bind fun t1281=> (if (rdOf ByteArray.empty x0 x5).toList=t1281.toList then (laws_heldStringS.l0 k x0 (wrap64 (x1 + 1)) (wrap64 (x5 + 1))) else (some (-1)))) else (none)) else (some x1)
def laws_heldStringS.f (k:Nat) (l0:List ByteArray) (a1:Int):Option (Int):=laws_heldStringS.l0 k l0 a1 0
theorem laws_heldStringS.mono_l:∀ k,(∀ y0 y1 y2,LeO (laws_heldStringS.l0 k y0 y1 y2) (laws_heldStringS.l0 (k + 1) y0 y1 y2))
  |0=> fun _ _ _ r h=> by simp [laws_heldStringS.l0] at h
  |k + 1=> by
    have ih0:=laws_heldStringS.mono_l k
    · intro y0 y1 y2
      unfold laws_heldStringS.l0
      repeat' first
      |(with_reducible exact ih0 _ _ _)
      |(with_reducible exact laws_markText.mono _ _)
      |(with_reducible exact LeO.refl _)
      |(with_reducible exact LeO.none _)
      |(with_reducible refine LeO.ite ?_ ?_)
      |(with_reducible refine LeO.bind ?_ (fun _=> ?_))
      |exact ih0 _ _ _
      |exact laws_markText.mono _ _
      |exact LeO.none _
      |refine LeO.ite ?_ ?_
      |refine LeO.bind ?_ (fun _=> ?_)
theorem laws_heldStringS.mono:∀ a0 a1 k,LeO (laws_heldStringS.f k a0 a1) (laws_heldStringS.f (k + 1) a0 a1):=by
  intro a0 a1 k
  have ih0:=laws_heldStringS.mono_l k
  unfold laws_heldStringS.f
  repeat' first
      |(with_reducible exact ih0 _ _ _)
      |(with_reducible exact laws_markText.mono _ _)
      |(with_reducible exact LeO.refl _)
      |(with_reducible exact LeO.none _)
      |(with_reducible refine LeO.ite ?_ ?_)
      |(with_reducible refine LeO.bind ?_ (fun _=> ?_))
      |exact ih0 _ _ _
      |exact laws_markText.mono _ _
      |exact LeO.none _
      |refine LeO.ite ?_ ?_
      |refine LeO.bind ?_ (fun _=> ?_)
set_option maxHeartbeats 8000000 in
set_option maxRecDepth 100000 in
theorem laws_heldStringS.calls (k:Nat) (A0:Option Addr) (c0:Nat) (l0:List ByteArray) (a1:Int) (r:Int) (w:World) (hr0:Kd.C Kd.string w A0 l0.length l0) (hc0:l0.length ≤ c0) (h:laws_heldStringS.f k l0 a1=some r):
    Calls Try.prog 47 #[.slice A0 l0.length c0,.int .i64 a1] w fun e w'=> e= .returned (.int .i64 r) ∧ Below w.heap.size w w':=by
  have HR0:=Aside0.mk hr0
  have HC0:=Aside0.mk hc0
  clear hr0 hc0
  have HB:=Aside0.mk (Below.refl w.heap.size w)
  have H:(laws_heldStringS.l0 k l0 a1 0)=some r:=h
  clear h
  have H':=Aside0.mk H
  clear H
  go_enter Try.func47,Try.ntmps47
  go_wp2
  go_loopg [1,5] k (fun kq v1 v5 w'=> ∃ (x1_1:Int) (x5_1:Int),v1= .int .i64 x1_1 ∧ v5= .int .i64 x5_1 ∧ Aside0 (laws_heldStringS.l0 kq l0 x1_1 x5_1=some r) ∧ Aside0 (kq ≤ k) ∧ Aside0 (Below w.heap.size w w'))
  case atStart=> exact ⟨(a1),(0),(by first|rfl|(simp;done)|(simp [*];done)),(by first|rfl|(simp;done)|(simp [*];done)),H',⟨Nat.le_refl _⟩,⟨by repeat (first|(with_reducible first|exact HB.out|apply bwA|apply bwN|apply bwD)|exact HB.out)⟩⟩
  case round=>
    clear H'
    try clear p2
    obtain ⟨x1_1,x5_1,rfl,rfl,HA,HK1,HB⟩:=hrel
    cases gk with
    |zero=> exact absurd HA.out (by simp [laws_heldStringS.l0])
    |succ k1=>
      have H:=HA.out
      clear HA
      simp only [laws_heldStringS.l0] at H
      by_cases c3:x5_1 < (l0.length:Int)
      · rw [if_pos c3] at H
        have c3b0:decide (x5_1 < (l0.length:Int))=true:=decide_eq_true c3
        clear c3
        by_cases c4:0 ≤ x5_1
        · rw [if_pos c4] at H
          have c4b0:decide (0 ≤ x5_1)=true:=decide_eq_true c4
          clear c4
          replace H:=Option.bind_eq_some_iff.mp H
          obtain ⟨t1281,A50,H⟩:=H
          replace H:(if (rdOf ByteArray.empty l0 x5_1).toList=t1281.toList then (laws_heldStringS.l0 k1 l0 (wrap64 (x1_1 + 1)) (wrap64 (x5_1 + 1))) else (some (-1)))=some r:=H
          have A5:=Aside0.mk A50
          clear A50
          by_cases c6:(rdOf ByteArray.empty l0 x5_1).toList=t1281.toList
          · rw [if_pos c6] at H
            have c6b0:((rdOf ByteArray.empty l0 x5_1).toList==t1281.toList)=true:=beq_iff_eq.mpr c6
            have c6b1:((rdOf ByteArray.empty l0 x5_1).toList !=t1281.toList)=false:=bne_eq_false_iff_eq.mpr c6
            clear c6
            have H':=Aside0.mk H
            clear H
            try go_wp2
            have n0_:=Aside0.mk (bwD HB.out)
            clear HB
            have HB:=n0_
            clear n0_
            have p1280:0 ≤ (x5_1:Int):=of_decide_eq_true (by first|(with_reducible assumption)|assumption)
            have q1280:x5_1 < (l0.length:Int):=of_decide_eq_true (by first|(with_reducible assumption)|assumption)
            obtain ⟨ad1280,e1280,hx1280_0⟩:=Kd.at_string HR0.out x5_1 p1280 q1280
            have hw1280_0:=hx1280_0
            cases e1280
            replace hx1280_0:=(HB.out.cell (World.block_lt_of_cell? w _ hx1280_0)).trans hx1280_0
            replace p1280:=eq_true p1280
            replace q1280:=eq_true q1280
            refine start_ (n:=7) (S:=fun w'=> w'.cell? (ad1280.add (x5_1).toNat)=some (.string (rdOf ByteArray.empty l0 x5_1))) (ds:= []) #[false,false,false,false,false,false,false] (by kernel_rfl) rfl rfl (((HB.out.cell (World.block_lt_of_cell? w _ hw1280_0)).trans hw1280_0)) (fun hHeld=> ?_)
            generalize wr.drew=w7 at HB hx1280_0 hHeld ⊢
            refine pure_ (i:=0) (N:=some 12) (v:=?_) (a':=?_) #[true,false,false,false,false,false,false] rfl rfl (by kernel_rfl) (fun _ _ _ h=> h) (Or.inl ⟨by rfl,?_⟩) ?_ ?_
            rotate_left
            · intro w'
              go_simp
              with_reducible rfl
            rotate_left
            · simp only [Act.put,List.setIfInBounds_toArray,List.set_cons_zero,List.set_cons_succ,i64_w,i32_w]
              rfl
            refine pure_ (i:=1) (N:=some 13) (v:=?_) (a':=?_) #[true,true,false,false,false,false,false] rfl rfl (by kernel_rfl) (fun _ _ _ h=> h) (Or.inl ⟨by rfl,?_⟩) ?_ ?_
            rotate_left
            · intro w'
              go_simp
              with_reducible rfl
            rotate_left
            · simp only [Act.put,List.setIfInBounds_toArray,List.set_cons_zero,List.set_cons_succ,i64_w,i32_w]
              rfl
            refine pure_ (i:=2) (N:=some 14) (v:=?_) (a':=?_) #[true,true,true,false,false,false,false] rfl rfl (by kernel_rfl) (fun _ _ _ h=> h) (Or.inl ⟨by rfl,?_⟩) ?_ ?_
            rotate_left
            · intro w'
              go_simp
              with_reducible rfl
            rotate_left
            · simp only [Act.put,List.setIfInBounds_toArray,List.set_cons_zero,List.set_cons_succ,i64_w,i32_w]
              rfl
            refine pure_ (i:=4) (N:=some 16) (v:=?_) (a':=?_) #[true,true,true,false,true,false,false] rfl rfl (by kernel_rfl) (fun _ _ _ h=> h) (Or.inl ⟨by rfl,?_⟩) ?_ ?_
            rotate_left
            · intro w'
              go_simp
              with_reducible rfl
            rotate_left
            · simp only [Act.put,List.setIfInBounds_toArray,List.set_cons_zero,List.set_cons_succ,i64_w,i32_w]
              rfl
            refine take_ (i:=3) (N:=some 15) (v:=?_) (a':=?_) #[true,true,true,true,true,false,false] rfl rfl (by kernel_rfl) (fun _ _ _ h=> h) (Or.inl ⟨by rfl,?_⟩) hHeld ?_ ?_
            rotate_left
            · intro w' s0
              go_simp
              with_reducible rfl
            rotate_left
            · simp only [Act.put,List.setIfInBounds_toArray,List.set_cons_zero,List.set_cons_succ,i64_w,i32_w]
              rfl
            refine one_ (i:=5) (N:=some 17) #[true,true,true,true,true,true,false] rfl rfl (by kernel_rfl) (by decide) (fun K hK=> ?_)
            refine goes_ Try.func107 (by kernel_rfl) rfl #[.int .i64 x1_1] (by rfl) rfl rfl (by (try simp only [List.map_toArray,List.map_cons,List.map_nil]);first|done|rfl|(simp only [List.length_drop,List.length_take];rfl)) ?_
            with_reducible refine (laws_markText.calls k1 x1_1 t1281 _ A5.out).mono ?_
            rintro e w8 ⟨rfl,hb⟩
            refine ⟨_,rfl,?_⟩
            have n0_:=Aside0.mk (below_step (by repeat (first|(with_reducible first|exact HB.out|apply bwA|apply bwN|apply bwD)|exact HB.out)) hb)
            clear HB
            have HB:=n0_
            clear n0_
            (try clear hb)
            (try clear hb2)
            (try clear hk)
            (try clear hi)
            refine hK.out _ _ (((HB.out.cell (World.block_lt_of_cell? w _ hw1280_0)).trans hw1280_0)) (fun hHeld=> ?_)
            clear hK K
            refine norm_ (a':=?_) ?_ ?_
            rotate_left
            · show Act.put _ (some 17) _=_
              simp only [Act.put,List.setIfInBounds_toArray,List.set_cons_zero,List.set_cons_succ,i64_w,i32_w]
              rfl
            refine pure_ (i:=6) (N:=some 18) (v:=?_) (a':=?_) #[true,true,true,true,true,true,true] rfl rfl (by kernel_rfl) (fun _ _ _ h=> h) (Or.inl ⟨by rfl,?_⟩) ?_ ?_
            rotate_left
            · intro w'
              go_simp
              with_reducible rfl
            rotate_left
            · simp only [Act.put,List.setIfInBounds_toArray,List.set_cons_zero,List.set_cons_succ,i64_w,i32_w]
              rfl
            refine done_ (by kernel_rfl) ?_
            try go_wp2
            go_roundg k1
            case measure=> have:=HK1.out;omega
            case rel=> exact ⟨(wrap64 (x1_1 + 1)),(wrap64 (x5_1 + 1)),(by first|rfl|(simp;done)|(simp [*];done)),(by first|rfl|(simp;done)|(simp [*];done)),H',⟨by have:=HK1.out;omega⟩,⟨by repeat (first|(with_reducible first|exact HB.out|apply bwA|apply bwN|apply bwD)|exact HB.out)⟩⟩
          · rw [if_neg c6] at H
            have c6b0:((rdOf ByteArray.empty l0 x5_1).toList==t1281.toList)=false:=beq_eq_false_iff_ne.mpr c6
            have c6b1:((rdOf ByteArray.empty l0 x5_1).toList !=t1281.toList)=true:=bne_iff_ne.mpr c6
            obtain rfl:=Option.some.inj H
            try go_wp2
            have n0_:=Aside0.mk (bwD HB.out)
            clear HB
            have HB:=n0_
            clear n0_
            have p1280:0 ≤ (x5_1:Int):=of_decide_eq_true (by first|(with_reducible assumption)|assumption)
            have q1280:x5_1 < (l0.length:Int):=of_decide_eq_true (by first|(with_reducible assumption)|assumption)
            obtain ⟨ad1280,e1280,hx1280_0⟩:=Kd.at_string HR0.out x5_1 p1280 q1280
            have hw1280_0:=hx1280_0
            cases e1280
            replace hx1280_0:=(HB.out.cell (World.block_lt_of_cell? w _ hx1280_0)).trans hx1280_0
            replace p1280:=eq_true p1280
            replace q1280:=eq_true q1280
            refine start_ (n:=7) (S:=fun w'=> w'.cell? (ad1280.add (x5_1).toNat)=some (.string (rdOf ByteArray.empty l0 x5_1))) (ds:= []) #[false,false,false,false,false,false,false] (by kernel_rfl) rfl rfl (((HB.out.cell (World.block_lt_of_cell? w _ hw1280_0)).trans hw1280_0)) (fun hHeld=> ?_)
            generalize wr.drew=w9 at HB hx1280_0 hHeld ⊢
            refine pure_ (i:=0) (N:=some 12) (v:=?_) (a':=?_) #[true,false,false,false,false,false,false] rfl rfl (by kernel_rfl) (fun _ _ _ h=> h) (Or.inl ⟨by rfl,?_⟩) ?_ ?_
            rotate_left
            · intro w'
              go_simp
              with_reducible rfl
            rotate_left
            · simp only [Act.put,List.setIfInBounds_toArray,List.set_cons_zero,List.set_cons_succ,i64_w,i32_w]
              rfl
            refine pure_ (i:=1) (N:=some 13) (v:=?_) (a':=?_) #[true,true,false,false,false,false,false] rfl rfl (by kernel_rfl) (fun _ _ _ h=> h) (Or.inl ⟨by rfl,?_⟩) ?_ ?_
            rotate_left
            · intro w'
              go_simp
              with_reducible rfl
            rotate_left
            · simp only [Act.put,List.setIfInBounds_toArray,List.set_cons_zero,List.set_cons_succ,i64_w,i32_w]
              rfl
            refine pure_ (i:=2) (N:=some 14) (v:=?_) (a':=?_) #[true,true,true,false,false,false,false] rfl rfl (by kernel_rfl) (fun _ _ _ h=> h) (Or.inl ⟨by rfl,?_⟩) ?_ ?_
            rotate_left
            · intro w'
              go_simp
              with_reducible rfl
            rotate_left
            · simp only [Act.put,List.setIfInBounds_toArray,List.set_cons_zero,List.set_cons_succ,i64_w,i32_w]
              rfl
            refine pure_ (i:=4) (N:=some 16) (v:=?_) (a':=?_) #[true,true,true,false,true,false,false] rfl rfl (by kernel_rfl) (fun _ _ _ h=> h) (Or.inl ⟨by rfl,?_⟩) ?_ ?_
            rotate_left
            · intro w'
              go_simp
              with_reducible rfl
            rotate_left
            · simp only [Act.put,List.setIfInBounds_toArray,List.set_cons_zero,List.set_cons_succ,i64_w,i32_w]
              rfl
            refine take_ (i:=3) (N:=some 15) (v:=?_) (a':=?_) #[true,true,true,true,true,false,false] rfl rfl (by kernel_rfl) (fun _ _ _ h=> h) (Or.inl ⟨by rfl,?_⟩) hHeld ?_ ?_
            rotate_left
            · intro w' s0
              go_simp
              with_reducible rfl
            rotate_left
            · simp only [Act.put,List.setIfInBounds_toArray,List.set_cons_zero,List.set_cons_succ,i64_w,i32_w]
              rfl
            refine one_ (i:=5) (N:=some 17) #[true,true,true,true,true,true,false] rfl rfl (by kernel_rfl) (by decide) (fun K hK=> ?_)
            refine goes_ Try.func107 (by kernel_rfl) rfl #[.int .i64 x1_1] (by rfl) rfl rfl (by (try simp only [List.map_toArray,List.map_cons,List.map_nil]);first|done|rfl|(simp only [List.length_drop,List.length_take];rfl)) ?_
            with_reducible refine (laws_markText.calls k1 x1_1 t1281 _ A5.out).mono ?_
            rintro e w10 ⟨rfl,hb⟩
            refine ⟨_,rfl,?_⟩
            have n0_:=Aside0.mk (below_step (by repeat (first|(with_reducible first|exact HB.out|apply bwA|apply bwN|apply bwD)|exact HB.out)) hb)
            clear HB
            have HB:=n0_
            clear n0_
            (try clear hb)
            (try clear hb2)
            (try clear hk)
            (try clear hi)
            refine hK.out _ _ (((HB.out.cell (World.block_lt_of_cell? w _ hw1280_0)).trans hw1280_0)) (fun hHeld=> ?_)
            clear hK K
            refine norm_ (a':=?_) ?_ ?_
            rotate_left
            · show Act.put _ (some 17) _=_
              simp only [Act.put,List.setIfInBounds_toArray,List.set_cons_zero,List.set_cons_succ,i64_w,i32_w]
              rfl
            refine pure_ (i:=6) (N:=some 18) (v:=?_) (a':=?_) #[true,true,true,true,true,true,true] rfl rfl (by kernel_rfl) (fun _ _ _ h=> h) (Or.inl ⟨by rfl,?_⟩) ?_ ?_
            rotate_left
            · intro w'
              go_simp
              with_reducible rfl
            rotate_left
            · simp only [Act.put,List.setIfInBounds_toArray,List.set_cons_zero,List.set_cons_succ,i64_w,i32_w]
              rfl
            refine done_ (by kernel_rfl) ?_
            try go_wp2
            go_ret
            exact ⟨by first|rfl|(simp [errW_none,errW_some] <;> rfl)|(simp [*,errW_none,errW_some] <;> rfl),by repeat (first|(with_reducible first|exact HB.out|apply bwA|apply bwN|apply bwD)|exact HB.out)⟩
        · rw [if_neg c4] at H
          exact absurd H (by simp)
      · rw [if_neg c3] at H
        have c3b0:decide (x5_1 < (l0.length:Int))=false:=decide_eq_false c3
        clear c3
        obtain rfl:=Option.some.inj H
        go_wp2
        go_ret
        exact ⟨by first|rfl|(simp [errW_none,errW_some] <;> rfl)|(simp [*,errW_none,errW_some] <;> rfl),by repeat (first|(with_reducible first|exact HB.out|apply bwA|apply bwN|apply bwD)|exact HB.out)⟩
end Go.Proofs.Ytlogocmojnhpbaa.Print
