-- Packed by a program of this session (slim.py) out of printed texts; not trusted, Lean checks it.
import Derived.Test.YtlogocmojnhpbaaP0
import Derived.Test.YtlogocmojnhpbaaK4
import Derived.Test.YtlogocmojnhpbaaQFnExactMerkleRoot0
import Derived.Test.YtlogocmojnhpbaaQFnExactMerkleRoot1
namespace Go.Proofs.Ytlogocmojnhpbaa.Print
open Go.RowKit Go.Proofs.YtlogocmojnhpbaaW.PrintWords Go.Proofs.YtlogocmojnhpbaaW.PrintLast Go.Proofs.YtlogocmojnhpbaaW.PrintMore
attribute [local go_sem] max2_int min2_int max_two min_two max_three min_three max_four min_four
set_option linter.unusedVariables false
set_option linter.unusedSimpArgs false
def spec_l04Leaves.l0:Nat → List ByteArray → Int → Option (Int)
  |0,_,_=> none
  |k + 1,x0,x3=> if x3 < (x0.length:Int) then (if 0 ≤ x3 then (if ((rdOf ByteArray.empty x0 x3).size:Int) > 64 then (some 4) else (spec_l04Leaves.l0 k x0 (wrap64 (x3 + 1)))) else (none)) else (some 0)
def spec_l04Leaves.f (k:Nat) (l0:List ByteArray):Option (Int):=if (l0.length:Int) > 4096 then (some 2) else ((spec_l04Power.f k (l0.length:Int) 256).bind fun t1197=> (if t1197=true then (spec_l04Leaves.l0 k l0 0) else (some 8)))
theorem spec_l04Leaves.mono_l:∀ k,(∀ y0 y1,LeO (spec_l04Leaves.l0 k y0 y1) (spec_l04Leaves.l0 (k + 1) y0 y1))
  |0=> fun _ _ r h=> by simp [spec_l04Leaves.l0] at h
  |k + 1=> by
    have ih0:=spec_l04Leaves.mono_l k
    · intro y0 y1
      unfold spec_l04Leaves.l0
      repeat' first
      |(with_reducible exact ih0 _ _)
      |(with_reducible exact spec_l04Power.mono _ _ _)
      |(with_reducible exact LeO.refl _)
      |(with_reducible exact LeO.none _)
      |(with_reducible refine LeO.ite ?_ ?_)
      |(with_reducible refine LeO.bind ?_ (fun _=> ?_))
      |exact ih0 _ _
      |exact spec_l04Power.mono _ _ _
      |exact LeO.none _
      |refine LeO.ite ?_ ?_
      |refine LeO.bind ?_ (fun _=> ?_)
theorem spec_l04Leaves.mono:∀ a0 k,LeO (spec_l04Leaves.f k a0) (spec_l04Leaves.f (k + 1) a0):=by
  intro a0 k
  have ih0:=spec_l04Leaves.mono_l k
  unfold spec_l04Leaves.f
  repeat' first
      |(with_reducible exact ih0 _ _)
      |(with_reducible exact spec_l04Power.mono _ _ _)
      |(with_reducible exact LeO.refl _)
      |(with_reducible exact LeO.none _)
      |(with_reducible refine LeO.ite ?_ ?_)
      |(with_reducible refine LeO.bind ?_ (fun _=> ?_))
      |exact ih0 _ _
      |exact spec_l04Power.mono _ _ _
      |exact LeO.none _
      |refine LeO.ite ?_ ?_
      |refine LeO.bind ?_ (fun _=> ?_)
set_option maxHeartbeats 8000000 in
set_option maxRecDepth 100000 in
theorem spec_l04Leaves.calls (k:Nat) (A0:Option Addr) (c0:Nat) (l0:List ByteArray) (r:Int) (w:World) (hr0:Kd.C Kd.string w A0 l0.length l0) (hc0:l0.length ≤ c0) (h:spec_l04Leaves.f k l0=some r):
    Calls Try.prog 98 #[.slice A0 l0.length c0] w fun e w'=> e= .returned (.int .i64 r) ∧ Drawn0 w w':=by
  have HR0:=Aside0.mk hr0
  have HC0:=Aside0.mk hc0
  clear hr0 hc0
  have H:(if (l0.length:Int) > 4096 then (some 2) else ((spec_l04Power.f k (l0.length:Int) 256).bind fun t1197=> (if t1197=true then (spec_l04Leaves.l0 k l0 0) else (some 8))))=some r:=h
  clear h
  by_cases c2:(l0.length:Int) > 4096
  · rw [if_pos c2] at H
    have c2b0:decide (4096 < (l0.length:Int))=true:=decide_eq_true c2
    have c2b1:decide (4096 < l0.length)=true:=decide_eq_true (by omega)
    clear c2
    obtain rfl:=Option.some.inj H
    go_enter Try.func98,Try.ntmps98
    go_wp2
    go_ret
    exact ⟨by first|rfl|(simp;done)|(simp [*];done),by repeat (first|exact Drawn0.refl _|apply Drawn0.step)⟩
  · rw [if_neg c2] at H
    have c2b0:decide (4096 < (l0.length:Int))=false:=decide_eq_false c2
    have c2b1:decide (4096 < l0.length)=false:=decide_eq_false (by omega)
    clear c2
    replace H:=Option.bind_eq_some_iff.mp H
    obtain ⟨t1197,A30,H⟩:=H
    replace H:(if t1197=true then (spec_l04Leaves.l0 k l0 0) else (some 8))=some r:=H
    have A3:=Aside0.mk A30
    clear A30
    by_cases c4:t1197=true
    · subst c4
      have H1:(spec_l04Leaves.l0 k l0 0)=some r:=by rw [if_pos rfl] at H;exact H
      clear H
      have H:=H1
      clear H1
      have H':=Aside0.mk H
      clear H
      go_enter Try.func98,Try.ntmps98
      go_wp2_with (first|((with_reducible refine gate_callee (f:=142) rfl ?_);refine goesL_ (some 9) rfl rfl Try.func142 (by kernel_rfl) rfl #[.int .i64 (l0.length:Int),.int .i64 256] rfl (by (try simp only [List.map_toArray,List.map_cons,List.map_nil]);first|done|rfl|(simp only [List.length_drop,List.length_take];rfl)) ?_;(with_reducible refine (spec_l04Power.calls k (l0.length:Int) 256 true _ A3.out).mono ?_);rintro e w' ⟨rfl,⟨nd,rfl⟩⟩;refine ⟨_,rfl,?_⟩))
      go_loopg [3] k (fun kq v3 w'=> ∃ (x3_1:Int),v3= .int .i64 x3_1 ∧ Aside0 (spec_l04Leaves.l0 kq l0 x3_1=some r) ∧ Aside0 (kq ≤ k) ∧ Drawn0 w w')
      case atStart=> exact ⟨(0),(by first|rfl|(simp;done)|(simp [*];done)),H',⟨Nat.le_refl _⟩,by repeat (first|exact Drawn0.refl _|apply Drawn0.step)⟩
      case round=>
        clear H'
        try clear c1
        try clear c2
        try clear c2b0
        try clear c2b1
        try clear p2
        try clear c4
        obtain ⟨x3_1,rfl,HA,HK1,⟨m1,rfl⟩⟩:=hrel
        cases gk with
        |zero=> exact absurd HA.out (by simp [spec_l04Leaves.l0])
        |succ k1=>
          have H:=HA.out
          clear HA
          simp only [spec_l04Leaves.l0] at H
          by_cases c5:x3_1 < (l0.length:Int)
          · rw [if_pos c5] at H
            have c5b0:decide (x3_1 < (l0.length:Int))=true:=decide_eq_true c5
            clear c5
            by_cases c6:0 ≤ x3_1
            · rw [if_pos c6] at H
              have c6b0:decide (0 ≤ x3_1)=true:=decide_eq_true c6
              clear c6
              by_cases c7:((rdOf ByteArray.empty l0 x3_1).size:Int) > 64
              · rw [if_pos c7] at H
                have c7b0:decide (64 < ((rdOf ByteArray.empty l0 x3_1).size:Int))=true:=decide_eq_true c7
                have c7b1:decide (64 < (rdOf ByteArray.empty l0 x3_1).size)=true:=decide_eq_true (by omega)
                clear c7
                obtain rfl:=Option.some.inj H
                have p1198:0 ≤ (x3_1:Int):=of_decide_eq_true (by first|(with_reducible assumption)|assumption)
                have q1198:x3_1 < (l0.length:Int):=of_decide_eq_true (by first|(with_reducible assumption)|assumption)
                obtain ⟨ad1198,e1198,hx1198_0⟩:=Kd.at_string HR0.out x3_1 p1198 q1198
                cases e1198
                replace p1198:=eq_true p1198
                replace q1198:=eq_true q1198
                go_wp2
                go_ret
                exact ⟨by first|rfl|(simp;done)|(simp [*];done),by repeat (first|exact Drawn0.refl _|apply Drawn0.step)⟩
              · rw [if_neg c7] at H
                have c7b0:decide (64 < ((rdOf ByteArray.empty l0 x3_1).size:Int))=false:=decide_eq_false c7
                have c7b1:decide (64 < (rdOf ByteArray.empty l0 x3_1).size)=false:=decide_eq_false (by omega)
                clear c7
                have H':=Aside0.mk H
                clear H
                have p1198:0 ≤ (x3_1:Int):=of_decide_eq_true (by first|(with_reducible assumption)|assumption)
                have q1198:x3_1 < (l0.length:Int):=of_decide_eq_true (by first|(with_reducible assumption)|assumption)
                obtain ⟨ad1198,e1198,hx1198_0⟩:=Kd.at_string HR0.out x3_1 p1198 q1198
                cases e1198
                replace p1198:=eq_true p1198
                replace q1198:=eq_true q1198
                go_wp2
                go_roundg k1
                case measure=> have:=HK1.out;omega
                case rel=> exact ⟨(wrap64 (x3_1 + 1)),(by first|rfl|(simp;done)|(simp [*];done)),H',⟨by have:=HK1.out;omega⟩,by repeat (first|exact Drawn0.refl _|apply Drawn0.step)⟩
            · rw [if_neg c6] at H
              exact absurd H (by simp)
          · rw [if_neg c5] at H
            have c5b0:decide (x3_1 < (l0.length:Int))=false:=decide_eq_false c5
            clear c5
            obtain rfl:=Option.some.inj H
            go_wp2
            go_ret
            exact ⟨by first|rfl|(simp;done)|(simp [*];done),by repeat (first|exact Drawn0.refl _|apply Drawn0.step)⟩
    · replace c4:=Bool.eq_false_iff.mpr c4
      subst c4
      have H1:(some 8)=some r:=by rw [if_neg (show ¬ (false=true) by decide)] at H;exact H
      clear H
      have H:=H1
      clear H1
      obtain rfl:=Option.some.inj H
      go_enter Try.func98,Try.ntmps98
      go_wp2_with (first|((with_reducible refine gate_callee (f:=142) rfl ?_);refine goesL_ (some 9) rfl rfl Try.func142 (by kernel_rfl) rfl #[.int .i64 (l0.length:Int),.int .i64 256] rfl (by (try simp only [List.map_toArray,List.map_cons,List.map_nil]);first|done|rfl|(simp only [List.length_drop,List.length_take];rfl)) ?_;(with_reducible refine (spec_l04Power.calls k (l0.length:Int) 256 false _ A3.out).mono ?_);rintro e w' ⟨rfl,⟨nd,rfl⟩⟩;refine ⟨_,rfl,?_⟩))
      go_ret
      exact ⟨by first|rfl|(simp;done)|(simp [*];done),by repeat (first|exact Drawn0.refl _|apply Drawn0.step)⟩
def spec_l04Root.f (l0:List ByteArray):Option (ByteArray):=(spec_l04Levels.f l0).bind fun t1199=> (if 0 ≤ (wrap64 ((t1199.length:Int) - 1)) then (if (wrap64 ((t1199.length:Int) - 1)) < (t1199.length:Int) then (if 0 < ((rd_L7 t1199 (wrap64 ((t1199.length:Int) - 1))).length:Int) then (some (rdOf ByteArray.empty (rd_L7 t1199 (wrap64 ((t1199.length:Int) - 1))) 0)) else (none)) else (none)) else (none))
set_option maxHeartbeats 8000000 in
set_option maxRecDepth 100000 in
theorem spec_l04Root.calls (A0:Option Addr) (c0:Nat) (l0:List ByteArray) (r:ByteArray) (w:World) (hr0:Kd.C Kd.string w A0 l0.length l0) (hc0:l0.length ≤ c0) (h:spec_l04Root.f l0=some r):
    Calls Try.prog 99 #[.slice A0 l0.length c0] w fun e w'=> e= .returned (.string r) ∧ Below w.heap.size w w':=by
  have HR0:=Aside0.mk hr0
  have HC0:=Aside0.mk hc0
  clear hr0 hc0
  have HB:=Aside0.mk (Below.refl w.heap.size w)
  have H:((spec_l04Levels.f l0).bind fun t1199=> (if 0 ≤ (wrap64 ((t1199.length:Int) - 1)) then (if (wrap64 ((t1199.length:Int) - 1)) < (t1199.length:Int) then (if 0 < ((rd_L7 t1199 (wrap64 ((t1199.length:Int) - 1))).length:Int) then (some (rdOf ByteArray.empty (rd_L7 t1199 (wrap64 ((t1199.length:Int) - 1))) 0)) else (none)) else (none)) else (none)))=some r:=h
  clear h
  replace H:=Option.bind_eq_some_iff.mp H
  obtain ⟨t1199,A20,H⟩:=H
  replace H:(if 0 ≤ (wrap64 ((t1199.length:Int) - 1)) then (if (wrap64 ((t1199.length:Int) - 1)) < (t1199.length:Int) then (if 0 < ((rd_L7 t1199 (wrap64 ((t1199.length:Int) - 1))).length:Int) then (some (rdOf ByteArray.empty (rd_L7 t1199 (wrap64 ((t1199.length:Int) - 1))) 0)) else (none)) else (none)) else (none))=some r:=H
  have A2:=Aside0.mk A20
  clear A20
  obtain ⟨ji3,hji3⟩:∃ j_:Int,(wrap64 ((t1199.length:Int) - 1))=j_:=⟨_,rfl⟩
  replace H:(if 0 ≤ (ji3) then (if (ji3) < (t1199.length:Int) then (if 0 < ((rd_L7 t1199 (ji3)).length:Int) then (some (rdOf ByteArray.empty (rd_L7 t1199 (ji3)) 0)) else (none)) else (none)) else (none))=some r:=by first|(rw [hji3] at H;exact H)|(simp only [hji3] at H ⊢;exact H)
  (try rw [hji3] at A2)
  have hji3w:(IntKind.i64.wrap ((t1199.length:Int) - 1))=ji3:=(i64_w _).trans hji3
  by_cases c4:0 ≤ (ji3)
  · rw [if_pos c4] at H
    have c4b0:decide (0 ≤ (ji3))=true:=decide_eq_true c4
    clear c4
    by_cases c5:(ji3) < (t1199.length:Int)
    · rw [if_pos c5] at H
      have c5b0:decide ((ji3) < (t1199.length:Int))=true:=decide_eq_true c5
      clear c5
      by_cases c6:0 < ((rd_L7 t1199 (ji3)).length:Int)
      · rw [if_pos c6] at H
        have c6b0:decide (0 < ((rd_L7 t1199 (ji3)).length:Int))=true:=decide_eq_true c6
        have c6b1:decide (0 < (rd_L7 t1199 (ji3)).length)=true:=decide_eq_true (by omega)
        clear c6
        obtain rfl:=Option.some.inj H
        go_enter Try.func99,Try.ntmps99
        go_wp2_with (first|((with_reducible refine gate_callee (f:=105) rfl ?_);refine goesL_ (some 5) rfl rfl Try.func105 (by kernel_rfl) rfl #[.slice A0 l0.length c0] rfl (by (try simp only [List.map_toArray,List.map_cons,List.map_nil]);first|done|rfl|(simp only [List.length_drop,List.length_take];rfl)) ?_;(with_reducible refine (spec_l04Levels.calls _ _ l0 t1199 _ ?side1 ?side2 A2.out).mono ?_);(case side1=> repeat (first|exact HR0.out|(with_reducible refine Kd.C_alloc ?_ _)|(with_reducible refine Kd.C_drewN ?_ _)|(with_reducible refine Kd.C_drew ?_)));(case side2=> exact HC0.out);rintro e w7 ⟨v1200,rfl,ho0,hb⟩;refine ⟨_,rfl,?_⟩;have n0_:=Aside0.mk (Kd.S_lower ho0 (below_size (by repeat (first|(with_reducible first|exact HB.out|apply bwA|apply bwN|apply bwD)|exact HB.out))));have n1_:=Aside0.mk (below_step (by repeat (first|(with_reducible first|exact HB.out|apply bwA|apply bwN|apply bwD)|exact HB.out)) hb);clear HB;have HO1201:=n0_;have HB:=n1_;clear n0_ n1_;(try clear hb);(try clear hb2);(try clear hk);(try clear hi);(try clear ho0);obtain ⟨Ao8,co8,eo8⟩:=Kd.S_slice HO1201.out;subst eo8;have p1202:0 ≤ ((ji3):Int):=of_decide_eq_true (by first|(with_reducible assumption)|assumption);have q1202:(ji3) < (t1199.length:Int):=of_decide_eq_true (by first|(with_reducible assumption)|assumption);obtain ⟨ad1202,A1202_0,c1202_0,e1202,hx1202_0,hl1202_0,hi1202_0⟩:=at_L7 (Kd.S_reads' HO1201.out).2.2 (ji3) p1202 q1202;cases e1202;obtain ⟨ce1202,hce1202,hMe1202,hcc1202⟩:=Kd.S_get HO1201.out [] (ji3) p1202 (by first|exact q1202|exact of_decide_eq_true (by first|(with_reducible assumption)|assumption)|(have e_:=(Kd.S_reads' HO1201.out).1;omega));obtain ⟨ve1202_0,rfl,ge1202_0⟩:=hMe1202;have hv1202_0:=hcc1202 0 _ rfl;rw [Nat.add_zero,show ((Kd.slice 9 Kd.string)).sz=1 from rfl,Nat.mul_one] at hv1202_0;replace hv1202_0:=Option.some.inj (hv1202_0.symm.trans hx1202_0);rw [hv1202_0] at ge1202_0;have HL1202_0:=Aside0.mk (show Kd.R Kd.string 9 _ _ _ _ (rd_L7 t1199 (ji3)) from ge1202_0);clear hv1202_0 ge1202_0;clear hcc1202 hce1202;have HR1202_0:=Aside0.mk hi1202_0;have HC1202_0:=Aside0.mk hl1202_0;clear hi1202_0 hl1202_0;replace p1202:=eq_true p1202;replace q1202:=eq_true q1202;have p1203:0 ≤ (0:Int):=(by omega);have q1203:0 < ((rd_L7 t1199 (ji3)).length:Int):=of_decide_eq_true (by first|(with_reducible assumption)|assumption);obtain ⟨ad1203,e1203,hx1203_0⟩:=Kd.at_string (by repeat (first|(with_reducible exact HR1202_0.out)|(with_reducible refine Kd.C_alloc ?_ _)|(with_reducible refine Kd.C_drewN ?_ _)|(with_reducible refine Kd.C_drew ?_)|exact HR1202_0.out)) 0 p1203 q1203;cases e1203;have qi1203:(0 < (rd_L7 t1199 (ji3)).length)=True:=eq_true (by omega);(try rw [show ((0:Int)).toNat=0 from rfl] at hx1203_0);(try rw [Addr.add_zero'] at hx1203_0);replace p1203:=eq_true p1203;replace q1203:=eq_true q1203))
        go_ret
        exact ⟨by first|rfl|(simp [errW_none,errW_some] <;> rfl)|(simp only [← hji3];first|rfl|(simp [errW_none,errW_some] <;> rfl))|(simp [*,errW_none,errW_some] <;> rfl),by repeat (first|(with_reducible first|exact HB.out|apply bwA|apply bwN|apply bwD)|exact HB.out)⟩
      · rw [if_neg c6] at H
        exact absurd H (by simp)
    · rw [if_neg c5] at H
      exact absurd H (by simp)
  · rw [if_neg c4] at H
    exact absurd H (by simp)
def spec_MerkleRoot.f (k:Nat) (l0:List ByteArray):Option (ByteArray × Int):=if (l0.length:Int) > 4096 then (some ((⟨#[]⟩:ByteArray),2)) else ((spec_l04Leaves.f k l0).bind fun t1204=> (if t1204=0 then ((spec_l04Root.f l0).bind fun t1205=> (some (t1205,0))) else (some ((⟨#[]⟩:ByteArray),t1204))))
theorem spec_MerkleRoot.mono:∀ a0 k,LeO (spec_MerkleRoot.f k a0) (spec_MerkleRoot.f (k + 1) a0):=by
  intro a0 k
  unfold spec_MerkleRoot.f
  repeat' first
      |(with_reducible exact spec_l04Leaves.mono _ _)
      |(with_reducible exact LeO.refl _)
      |(with_reducible exact LeO.none _)
      |(with_reducible refine LeO.ite ?_ ?_)
      |(with_reducible refine LeO.bind ?_ (fun _=> ?_))
      |exact spec_l04Leaves.mono _ _
      |exact LeO.none _
      |refine LeO.ite ?_ ?_
      |refine LeO.bind ?_ (fun _=> ?_)
set_option maxHeartbeats 8000000 in
set_option maxRecDepth 100000 in
theorem spec_MerkleRoot.calls (k:Nat) (A0:Option Addr) (c0:Nat) (l0:List ByteArray) (r1:ByteArray) (r2:Int) (w:World) (hr0:Kd.C Kd.string w A0 l0.length l0) (hc0:l0.length ≤ c0) (h:spec_MerkleRoot.f k l0=some (r1,r2)):
    Calls Try.prog 40 #[.slice A0 l0.length c0] w fun e w'=> e= .returned (.tuple #[.string r1,.int .i64 r2]) ∧ Below w.heap.size w w':=by
  have HR0:=Aside0.mk hr0
  have HC0:=Aside0.mk hc0
  clear hr0 hc0
  have HB:=Aside0.mk (Below.refl w.heap.size w)
  have H:(if (l0.length:Int) > 4096 then (some ((⟨#[]⟩:ByteArray),2)) else ((spec_l04Leaves.f k l0).bind fun t1204=> (if t1204=0 then ((spec_l04Root.f l0).bind fun t1205=> (some (t1205,0))) else (some ((⟨#[]⟩:ByteArray),t1204)))))=some (r1,r2):=h
  clear h
  by_cases c2:(l0.length:Int) > 4096
  · rw [if_pos c2] at H
    have c2b0:decide (4096 < (l0.length:Int))=true:=decide_eq_true c2
    have c2b1:decide (4096 < l0.length)=true:=decide_eq_true (by omega)
    clear c2
    simp only [Option.some.injEq,Prod.mk.injEq] at H
    obtain ⟨rfl,rfl⟩:=H
    go_enter Try.func40,Try.ntmps40
    go_wp2
    go_ret2
    exact ⟨by first|rfl|(simp [errW_none,errW_some] <;> rfl)|(simp [*,errW_none,errW_some] <;> rfl),by repeat (first|(with_reducible first|exact HB.out|apply bwA|apply bwN|apply bwD)|exact HB.out)⟩
  · rw [if_neg c2] at H
    have c2b0:decide (4096 < (l0.length:Int))=false:=decide_eq_false c2
    have c2b1:decide (4096 < l0.length)=false:=decide_eq_false (by omega)
    clear c2
    replace H:=Option.bind_eq_some_iff.mp H
    obtain ⟨t1204,A30,H⟩:=H
    replace H:(if t1204=0 then ((spec_l04Root.f l0).bind fun t1205=> (some (t1205,0))) else (some ((⟨#[]⟩:ByteArray),t1204)))=some (r1,r2):=H
    have A3:=Aside0.mk A30
    clear A30
    by_cases c4:t1204=0
    · rw [if_pos c4] at H
      have c4b0:(t1204==0)=true:=beq_iff_eq.mpr c4
      have c4b1:(t1204 !=0)=false:=bne_eq_false_iff_eq.mpr c4
      clear c4
      replace H:=Option.bind_eq_some_iff.mp H
      obtain ⟨t1205,A50,H⟩:=H
      replace H:(some (t1205,0))=some (r1,r2):=H
      have A5:=Aside0.mk A50
      clear A50
      simp only [Option.some.injEq,Prod.mk.injEq] at H
      obtain ⟨rfl,rfl⟩:=H
      go_enter Try.func40,Try.ntmps40
      go_wp2_with (first|((with_reducible refine gate_callee (f:=98) rfl ?_);refine goesL_ (some 9) rfl rfl Try.func98 (by kernel_rfl) rfl #[.slice A0 l0.length c0] rfl (by (try simp only [List.map_toArray,List.map_cons,List.map_nil]);first|done|rfl|(simp only [List.length_drop,List.length_take];rfl)) ?_;(with_reducible refine (spec_l04Leaves.calls k _ _ l0 t1204 _ ?side1 ?side2 A3.out).mono ?_);(case side1=> repeat (first|exact HR0.out|(with_reducible refine Kd.C_alloc ?_ _)|(with_reducible refine Kd.C_drewN ?_ _)|(with_reducible refine Kd.C_drew ?_)));(case side2=> exact HC0.out);rintro e w' ⟨rfl,⟨nd,rfl⟩⟩;refine ⟨_,rfl,?_⟩)|((with_reducible refine gate_callee (f:=99) rfl ?_);refine goesL_ (some 14) rfl rfl Try.func99 (by kernel_rfl) rfl #[.slice A0 l0.length c0] rfl (by (try simp only [List.map_toArray,List.map_cons,List.map_nil]);first|done|rfl|(simp only [List.length_drop,List.length_take];rfl)) ?_;(with_reducible refine (spec_l04Root.calls _ _ l0 t1205 _ ?side1 ?side2 A5.out).mono ?_);(case side1=> repeat (first|exact HR0.out|(with_reducible refine Kd.C_alloc ?_ _)|(with_reducible refine Kd.C_drewN ?_ _)|(with_reducible refine Kd.C_drew ?_)));(case side2=> exact HC0.out);rintro e w6 ⟨rfl,hb⟩;refine ⟨_,rfl,?_⟩;have n0_:=Aside0.mk (below_step (by repeat (first|(with_reducible first|exact HB.out|apply bwA|apply bwN|apply bwD)|exact HB.out)) hb);clear HB;have HB:=n0_;clear n0_;(try clear hb);(try clear hb2);(try clear hk);(try clear hi)))
      go_ret2
      exact ⟨by first|rfl|(simp [errW_none,errW_some] <;> rfl)|(simp [*,errW_none,errW_some] <;> rfl),by repeat (first|(with_reducible first|exact HB.out|apply bwA|apply bwN|apply bwD)|exact HB.out)⟩
    · rw [if_neg c4] at H
      have c4b0:(t1204==0)=false:=beq_eq_false_iff_ne.mpr c4
      have c4b1:(t1204 !=0)=true:=bne_iff_ne.mpr c4
      simp only [Option.some.injEq,Prod.mk.injEq] at H
      obtain ⟨rfl,rfl⟩:=H
      go_enter Try.func40,Try.ntmps40
      go_wp2_with (first|((with_reducible refine gate_callee (f:=98) rfl ?_);refine goesL_ (some 9) rfl rfl Try.func98 (by kernel_rfl) rfl #[.slice A0 l0.length c0] rfl (by (try simp only [List.map_toArray,List.map_cons,List.map_nil]);first|done|rfl|(simp only [List.length_drop,List.length_take];rfl)) ?_;(with_reducible refine (spec_l04Leaves.calls k _ _ l0 t1204 _ ?side1 ?side2 A3.out).mono ?_);(case side1=> repeat (first|exact HR0.out|(with_reducible refine Kd.C_alloc ?_ _)|(with_reducible refine Kd.C_drewN ?_ _)|(with_reducible refine Kd.C_drew ?_)));(case side2=> exact HC0.out);rintro e w' ⟨rfl,⟨nd,rfl⟩⟩;refine ⟨_,rfl,?_⟩))
      go_ret2
      exact ⟨by first|rfl|(simp [errW_none,errW_some] <;> rfl)|(simp [*,errW_none,errW_some] <;> rfl),by repeat (first|(with_reducible first|exact HB.out|apply bwA|apply bwN|apply bwD)|exact HB.out)⟩
def laws_FnExactMerkleRoot.j0:Nat → List ByteArray → List ByteArray → Bool → Option (Bool)
  |0,_,_,_=> none
  |k + 1,x0,x6,x34=> if x34=true then (none) else ((laws_toStringS.f k x0).bind fun t1226=> ((laws_eqStringS.f k x6 t1226).bind fun t1229=> (if t1229=true then (some true) else (none))))
def laws_FnExactMerkleRoot.f (k:Nat) (l0:List ByteArray):Option (Bool):=(laws_szStringS.f k l0 1048576).bind fun t1215=> (if t1215 < 0 then (some true) else ((laws_toStringS.f k l0).bind fun t1216=> ((spec_MerkleRoot.f k t1216).bind fun bt1219=> ((laws_toStringS.f k l0).bind fun t1221=> ((impl_MerkleRoot.f t1221).bind fun bt1224=> (if bt1224.1.toList=bt1219.1.toList then (laws_FnExactMerkleRoot.j0 k l0 t1221 (bt1224.2 !=bt1219.2)) else (none)))))))
theorem laws_FnExactMerkleRoot.mono_l:∀ k,(∀ y0 y1 y2,LeO (laws_FnExactMerkleRoot.j0 k y0 y1 y2) (laws_FnExactMerkleRoot.j0 (k + 1) y0 y1 y2))
  |0=> fun _ _ _ r h=> by simp [laws_FnExactMerkleRoot.j0] at h
  |k + 1=> by
    have ih0:=laws_FnExactMerkleRoot.mono_l k
    · intro y0 y1 y2
      unfold laws_FnExactMerkleRoot.j0
      repeat' first
      |(with_reducible exact ih0 _ _ _)
      |(with_reducible exact laws_eqStringS.mono _ _ _)
      |(with_reducible exact laws_szStringS.mono _ _ _)
      |(with_reducible exact laws_toStringS.mono _ _)
      |(with_reducible exact spec_MerkleRoot.mono _ _)
      |(with_reducible exact LeO.refl _)
      |(with_reducible exact LeO.none _)
      |(with_reducible refine LeO.ite ?_ ?_)
      |(with_reducible refine LeO.bind ?_ (fun _=> ?_))
      |exact ih0 _ _ _
      |exact laws_eqStringS.mono _ _ _
      |exact laws_szStringS.mono _ _ _
      |exact laws_toStringS.mono _ _
      |exact spec_MerkleRoot.mono _ _
      |exact LeO.none _
      |refine LeO.ite ?_ ?_
      |refine LeO.bind ?_ (fun _=> ?_)
theorem laws_FnExactMerkleRoot.mono:∀ a0 k,LeO (laws_FnExactMerkleRoot.f k a0) (laws_FnExactMerkleRoot.f (k + 1) a0):=by
  intro a0 k
  have ih0:=laws_FnExactMerkleRoot.mono_l k
  unfold laws_FnExactMerkleRoot.f
  repeat' first
      |(with_reducible exact ih0 _ _ _)
      |(with_reducible exact laws_eqStringS.mono _ _ _)
      |(with_reducible exact laws_szStringS.mono _ _ _)
      |(with_reducible exact laws_toStringS.mono _ _)
      |(with_reducible exact spec_MerkleRoot.mono _ _)
      |(with_reducible exact LeO.refl _)
      |(with_reducible exact LeO.none _)
      |(with_reducible refine LeO.ite ?_ ?_)
      |(with_reducible refine LeO.bind ?_ (fun _=> ?_))
      |exact ih0 _ _ _
      |exact laws_eqStringS.mono _ _ _
      |exact laws_szStringS.mono _ _ _
      |exact laws_toStringS.mono _ _
      |exact spec_MerkleRoot.mono _ _
      |exact LeO.none _
      |refine LeO.ite ?_ ?_
      |refine LeO.bind ?_ (fun _=> ?_)
set_option maxHeartbeats 8000000 in
set_option maxRecDepth 100000 in
theorem laws_FnExactMerkleRoot.calls (k:Nat) (A0:Option Addr) (c0:Nat) (l0:List ByteArray) (r:Bool) (w:World) (hr0:Kd.C Kd.string w A0 l0.length l0) (hc0:l0.length ≤ c0) (h:laws_FnExactMerkleRoot.f k l0=some r):
    Calls Try.prog 9 #[.slice A0 l0.length c0] w fun e w'=> e= .returned (.bool r) ∧ Below w.heap.size w w':=by
  have HR0:=Aside0.mk hr0
  have HC0:=Aside0.mk hc0
  clear hr0 hc0
  have HB:=Aside0.mk (Below.refl w.heap.size w)
  have H:((laws_szStringS.f k l0 1048576).bind fun t1215=> (if t1215 < 0 then (some true) else ((laws_toStringS.f k l0).bind fun t1216=> ((spec_MerkleRoot.f k t1216).bind fun bt1219=> ((laws_toStringS.f k l0).bind fun t1221=> ((impl_MerkleRoot.f t1221).bind fun bt1224=> (if bt1224.1.toList=bt1219.1.toList then (laws_FnExactMerkleRoot.j0 k l0 t1221 (bt1224.2 !=bt1219.2)) else (none))))))))=some r:=h
  clear h
  replace H:=Option.bind_eq_some_iff.mp H
  obtain ⟨t1215,A20,H⟩:=H
  replace H:(if t1215 < 0 then (some true) else ((laws_toStringS.f k l0).bind fun t1216=> ((spec_MerkleRoot.f k t1216).bind fun bt1219=> ((laws_toStringS.f k l0).bind fun t1221=> ((impl_MerkleRoot.f t1221).bind fun bt1224=> (if bt1224.1.toList=bt1219.1.toList then (laws_FnExactMerkleRoot.j0 k l0 t1221 (bt1224.2 !=bt1219.2)) else (none)))))))=some r:=H
  have A2:=Aside0.mk A20
  clear A20
  by_cases c3:t1215 < 0
  · rw [if_pos c3] at H
    have c3b0:decide (t1215 < 0)=true:=decide_eq_true c3
    clear c3
    obtain rfl:=Option.some.inj H
    go_enter Try.func9,Try.ntmps9
    go_wp2_with (first|((with_reducible refine gate_callee (f:=39) rfl ?_);refine goesL_ (some 11) rfl rfl Try.func39 (by kernel_rfl) rfl #[.slice A0 l0.length c0,.int .i64 1048576] rfl (by (try simp only [List.map_toArray,List.map_cons,List.map_nil]);first|done|rfl|(simp only [List.length_drop,List.length_take];rfl)) ?_;(with_reducible refine (laws_szStringS.calls k _ _ l0 1048576 t1215 _ ?side1 ?side2 A2.out).mono ?_);(case side1=> repeat (first|exact HR0.out|(with_reducible refine Kd.C_alloc ?_ _)|(with_reducible refine Kd.C_drewN ?_ _)|(with_reducible refine Kd.C_drew ?_)));(case side2=> exact HC0.out);rintro e w' ⟨rfl,⟨nd,rfl⟩⟩;refine ⟨_,rfl,?_⟩))
    go_ret
    exact ⟨by first|rfl|(simp [errW_none,errW_some] <;> rfl)|(simp [*,errW_none,errW_some] <;> rfl),by repeat (first|(with_reducible first|exact HB.out|apply bwA|apply bwN|apply bwD)|exact HB.out)⟩
  · rw [if_neg c3] at H
    have c3b0:decide (t1215 < 0)=false:=decide_eq_false c3
    clear c3
    replace H:=Option.bind_eq_some_iff.mp H
    obtain ⟨t1216,A40,H⟩:=H
    replace H:((spec_MerkleRoot.f k t1216).bind fun bt1219=> ((laws_toStringS.f k l0).bind fun t1221=> ((impl_MerkleRoot.f t1221).bind fun bt1224=> (if bt1224.1.toList=bt1219.1.toList then (laws_FnExactMerkleRoot.j0 k l0 t1221 (bt1224.2 !=bt1219.2)) else (none)))))=some r:=H
    have A4:=Aside0.mk A40
    clear A40
    replace H:=Option.bind_eq_some_iff.mp H
    obtain ⟨⟨t1219,t1220⟩,A50,H⟩:=H
    replace H:((laws_toStringS.f k l0).bind fun t1221=> ((impl_MerkleRoot.f t1221).bind fun bt1224=> (if bt1224.1.toList=t1219.toList then (laws_FnExactMerkleRoot.j0 k l0 t1221 (bt1224.2 !=t1220)) else (none))))=some r:=H
    have A5:=Aside0.mk A50
    clear A50
    replace H:=Option.bind_eq_some_iff.mp H
    obtain ⟨t1221,A60,H⟩:=H
    replace H:((impl_MerkleRoot.f t1221).bind fun bt1224=> (if bt1224.1.toList=t1219.toList then (laws_FnExactMerkleRoot.j0 k l0 t1221 (bt1224.2 !=t1220)) else (none)))=some r:=H
    have A6:=Aside0.mk A60
    clear A60
    replace H:=Option.bind_eq_some_iff.mp H
    obtain ⟨⟨t1224,t1225⟩,A70,H⟩:=H
    replace H:(if t1224.toList=t1219.toList then (laws_FnExactMerkleRoot.j0 k l0 t1221 (t1225 !=t1220)) else (none))=some r:=H
    have A7:=Aside0.mk A70
    clear A70
    have HC8:=Aside0.mk H
    clear H
    go_enter Try.func9,Try.ntmps9
    go_upto_region 8 with (first|((with_reducible refine gate_callee (f:=39) rfl ?_);refine goesL_ (some 11) rfl rfl Try.func39 (by kernel_rfl) rfl #[.slice A0 l0.length c0,.int .i64 1048576] rfl (by (try simp only [List.map_toArray,List.map_cons,List.map_nil]);first|done|rfl|(simp only [List.length_drop,List.length_take];rfl)) ?_;(with_reducible refine (laws_szStringS.calls k _ _ l0 1048576 t1215 _ ?side1 ?side2 A2.out).mono ?_);(case side1=> repeat (first|exact HR0.out|(with_reducible refine Kd.C_alloc ?_ _)|(with_reducible refine Kd.C_drewN ?_ _)|(with_reducible refine Kd.C_drew ?_)));(case side2=> exact HC0.out);rintro e w' ⟨rfl,⟨nd,rfl⟩⟩;refine ⟨_,rfl,?_⟩)|((with_reducible refine gate_callee (f:=41) rfl ?_);refine goesL_ (some 16) rfl rfl Try.func41 (by kernel_rfl) rfl #[.slice A0 l0.length c0] rfl (by (try simp only [List.map_toArray,List.map_cons,List.map_nil]);first|done|rfl|(simp only [List.length_drop,List.length_take];rfl)) ?_;(with_reducible refine (laws_toStringS.calls k _ _ l0 t1216 _ ?side1 ?side2 A4.out).mono ?_);(case side1=> repeat (first|exact HR0.out|(with_reducible refine Kd.C_alloc ?_ _)|(with_reducible refine Kd.C_drewN ?_ _)|(with_reducible refine Kd.C_drew ?_)));(case side2=> exact HC0.out);rintro e w9 ⟨v1217,rfl,ho0,hb⟩;refine ⟨_,rfl,?_⟩;have n0_:=Aside0.mk (Kd.R_lower ho0 (below_size (by repeat (first|(with_reducible first|exact HB.out|apply bwA|apply bwN|apply bwD)|exact HB.out))));have n1_:=Aside0.mk (below_step (by repeat (first|(with_reducible first|exact HB.out|apply bwA|apply bwN|apply bwD)|exact HB.out)) hb);clear HB;have HO1218:=n0_;have HB:=n1_;clear n0_ n1_;(try clear hb);(try clear hb2);(try clear hk);(try clear hi);(try clear ho0);obtain ⟨Ao10,co10,eo10⟩:=Kd.R_slice HO1218.out;subst eo10)|((with_reducible refine gate_callee (f:=40) rfl ?_);refine goesL_ (some 17) rfl rfl Try.func40 (by kernel_rfl) rfl #[.slice Ao10 t1216.length co10] rfl (by (try simp only [List.map_toArray,List.map_cons,List.map_nil]);first|done|rfl|(simp only [List.length_drop,List.length_take];rfl)) ?_;(with_reducible refine (spec_MerkleRoot.calls k _ _ t1216 t1219 t1220 _ ?side1 ?side2 A5.out).mono ?_);(case side1=> repeat (first|exact (Kd.R_reads' HO1218.out).2.2|(with_reducible refine Kd.C_alloc ?_ _)|(with_reducible refine Kd.C_drewN ?_ _)|(with_reducible refine Kd.C_drew ?_)));(case side2=> exact (Kd.R_reads' HO1218.out).2.1);rintro e w11 ⟨rfl,hb⟩;refine ⟨_,rfl,?_⟩;have n0_:=Aside0.mk (Kd.R_below (by (with_reducible repeat (first|apply Kd.R_alloc|apply Kd.R_drewN|apply Kd.R_drew));exact HO1218.out) hb);have n1_:=Aside0.mk (below_step (by repeat (first|(with_reducible first|exact HB.out|apply bwA|apply bwN|apply bwD)|exact HB.out)) hb);clear HO1218;clear HB;have HO1218:=n0_;have HB:=n1_;clear n0_ n1_;(try clear hb);(try clear hb2);(try clear hk);(try clear hi))|((with_reducible refine gate_callee (f:=41) rfl ?_);refine goesL_ (some 21) rfl rfl Try.func41 (by kernel_rfl) rfl #[.slice A0 l0.length c0] rfl (by (try simp only [List.map_toArray,List.map_cons,List.map_nil]);first|done|rfl|(simp only [List.length_drop,List.length_take];rfl)) ?_;(with_reducible refine (laws_toStringS.calls k _ _ l0 t1221 _ ?side1 ?side2 A6.out).mono ?_);(case side1=> repeat (first|exact (Kd.C_below HR0.out HB.out)|(with_reducible refine Kd.C_alloc ?_ _)|(with_reducible refine Kd.C_drewN ?_ _)|(with_reducible refine Kd.C_drew ?_)));(case side2=> exact HC0.out);rintro e w12 ⟨v1222,rfl,ho0,hb⟩;refine ⟨_,rfl,?_⟩;have n0_:=Aside0.mk (Kd.R_elder' (by (with_reducible repeat (first|apply Kd.R_alloc|apply Kd.R_drewN|apply Kd.R_drew));exact HO1218.out) (Kd.R_base ho0) hb);have n1_:=Aside0.mk (Kd.R_lower (Kd.R_new' ho0 (Kd.R_lt (by (with_reducible repeat (first|apply Kd.R_alloc|apply Kd.R_drewN|apply Kd.R_drew));exact HO1218.out))) (below_size (by repeat (first|(with_reducible first|exact HB.out|apply bwA|apply bwN|apply bwD)|exact HB.out))));have n2_:=Aside0.mk (below_step (by repeat (first|(with_reducible first|exact HB.out|apply bwA|apply bwN|apply bwD)|exact HB.out)) hb);clear HO1218;clear HB;have HO1218:=n0_;have HO1223:=n1_;have HB:=n2_;clear n0_ n1_ n2_;(try clear hb);(try clear hb2);(try clear hk);(try clear hi);(try clear ho0);obtain ⟨Ao13,co13,eo13⟩:=Kd.R_slice HO1223.out;subst eo13)|((with_reducible refine gate_callee (f:=42) rfl ?_);refine goesL_ (some 24) rfl rfl Try.func42 (by kernel_rfl) rfl #[.slice Ao13 t1221.length co13] rfl (by (try simp only [List.map_toArray,List.map_cons,List.map_nil]);first|done|rfl|(simp only [List.length_drop,List.length_take];rfl)) ?_;(with_reducible refine (impl_MerkleRoot.calls _ _ t1221 t1224 t1225 _ ?side1 ?side2 A7.out).mono ?_);(case side1=> repeat (first|exact (Kd.R_reads' HO1223.out).2.2|(with_reducible refine Kd.C_alloc ?_ _)|(with_reducible refine Kd.C_drewN ?_ _)|(with_reducible refine Kd.C_drew ?_)));(case side2=> exact (Kd.R_reads' HO1223.out).2.1);rintro e w14 ⟨rfl,hb⟩;refine ⟨_,rfl,?_⟩;have n0_:=Aside0.mk (Kd.R_below (by (with_reducible repeat (first|apply Kd.R_alloc|apply Kd.R_drewN|apply Kd.R_drew));exact HO1218.out) hb);have n1_:=Aside0.mk (Kd.R_below (by (with_reducible repeat (first|apply Kd.R_alloc|apply Kd.R_drewN|apply Kd.R_drew));exact HO1223.out) hb);have n2_:=Aside0.mk (below_step (by repeat (first|(with_reducible first|exact HB.out|apply bwA|apply bwN|apply bwD)|exact HB.out)) hb);clear HO1218;clear HO1223;clear HB;have HO1218:=n0_;have HO1223:=n1_;have HB:=n2_;clear n0_ n1_ n2_;(try clear hb);(try clear hb2);(try clear hk);(try clear hi)))
    (try simp only [Act.put,List.setIfInBounds_toArray,List.set_cons_zero,List.set_cons_succ])
    go_cut [34] (fun v34 wc=> ∃ (kq:Nat) (x34_7:Bool),v34= .bool x34_7 ∧ Aside0 (laws_FnExactMerkleRoot.j0 kq l0 t1221 x34_7=some r) ∧ Aside0 (kq ≤ k) ∧ Aside0 (Kd.R Kd.string 9 wc w.heap.size (fun _=> True) (.slice Ao13 t1221.length co13) t1221) ∧ Aside0 (Below w.heap.size w wc))
    case first=>
      have H:=HC8.out
      clear HC8
      by_cases c15:t1224.toList=t1219.toList
      · rw [if_pos c15] at H
        have c15b0:(t1224.toList==t1219.toList)=true:=beq_iff_eq.mpr c15
        have c15b1:(t1224.toList !=t1219.toList)=false:=bne_eq_false_iff_eq.mpr c15
        clear c15
        (first|rw [c15b0]|(simp only [i64_w,i32_w];rw [c15b0])|skip)
        have H':=Aside0.mk H
        clear H
        go_wp2
        go_meet
        case rel=> exact ⟨_,((t1225 !=t1220)),(by first|rfl|(simp;done)|(simp [*];done)),H',⟨by first|omega|exact Nat.le_refl _⟩,⟨by (with_reducible repeat (first|apply Kd.R_alloc|apply Kd.R_drewN|apply Kd.R_drew));exact Kd.R_mono HO1223.out (fun _ hk=> trivial)⟩,⟨by repeat (first|(with_reducible first|exact HB.out|apply bwA|apply bwN|apply bwD)|exact HB.out)⟩⟩
      · rw [if_neg c15] at H
        exact absurd H (by simp)
    case rest=>
      clear HC8
      try clear c1
      try clear p2
      try clear c3
      try clear c3b0
      try clear c4
      try clear c9
      try clear c15
      try clear c15b0
      try clear c15b1
      obtain ⟨kq,x34_7,rfl,HA,HJ7,HO_6,HB⟩:=hcut
      cases kq with
      |zero=> exact absurd HA.out (by simp [laws_FnExactMerkleRoot.j0])
      |succ kj7=>
        have H:=HA.out
        clear HA
        simp only [laws_FnExactMerkleRoot.j0] at H
        by_cases c16:x34_7=true
        · subst c16
          have H1:(none)=some r:=by rw [if_pos rfl] at H;exact H
          clear H
          have H:=H1
          clear H1
          exact absurd H (by simp)
        · replace c16:=Bool.eq_false_iff.mpr c16
          subst c16
          have H1:((laws_toStringS.f kj7 l0).bind fun t1226=> ((laws_eqStringS.f kj7 t1221 t1226).bind fun t1229=> (if t1229=true then (some true) else (none))))=some r:=by rw [if_neg (show ¬ (false=true) by decide)] at H;exact H
          clear H
          have H:=H1
          clear H1
          replace H:=Option.bind_eq_some_iff.mp H
          obtain ⟨t1226,A170,H⟩:=H
          replace H:((laws_eqStringS.f kj7 t1221 t1226).bind fun t1229=> (if t1229=true then (some true) else (none)))=some r:=H
          have A17:=Aside0.mk A170
          clear A170
          replace H:=Option.bind_eq_some_iff.mp H
          obtain ⟨t1229,A180,H⟩:=H
          replace H:(if t1229=true then (some true) else (none))=some r:=H
          have A18:=Aside0.mk A180
          clear A180
          by_cases c19:t1229=true
          · subst c19
            have H1:(some true)=some r:=by rw [if_pos rfl] at H;exact H
            clear H
            have H:=H1
            clear H1
            obtain rfl:=Option.some.inj H
            go_wp2_with (first|((with_reducible refine gate_callee (f:=41) rfl ?_);refine goesL_ (some 37) rfl rfl Try.func41 (by kernel_rfl) rfl #[.slice A0 l0.length c0] rfl (by (try simp only [List.map_toArray,List.map_cons,List.map_nil]);first|done|rfl|(simp only [List.length_drop,List.length_take];rfl)) ?_;(with_reducible refine (laws_toStringS.calls kj7 _ _ l0 t1226 _ ?side1 ?side2 A17.out).mono ?_);(case side1=> repeat (first|exact (Kd.C_below HR0.out HB.out)|(with_reducible refine Kd.C_alloc ?_ _)|(with_reducible refine Kd.C_drewN ?_ _)|(with_reducible refine Kd.C_drew ?_)));(case side2=> exact HC0.out);rintro e w20 ⟨v1227,rfl,ho0,hb⟩;refine ⟨_,rfl,?_⟩;have n0_:=Aside0.mk (Kd.R_elder' (by (with_reducible repeat (first|apply Kd.R_alloc|apply Kd.R_drewN|apply Kd.R_drew));exact HO_6.out) (Kd.R_base ho0) hb);have n1_:=Aside0.mk (Kd.R_lower (Kd.R_new' ho0 (Kd.R_lt (by (with_reducible repeat (first|apply Kd.R_alloc|apply Kd.R_drewN|apply Kd.R_drew));exact HO_6.out))) (below_size (by repeat (first|(with_reducible first|exact HB.out|apply bwA|apply bwN|apply bwD)|exact HB.out))));have n2_:=Aside0.mk (below_step (by repeat (first|(with_reducible first|exact HB.out|apply bwA|apply bwN|apply bwD)|exact HB.out)) hb);clear HO_6;clear HB;have HO_6:=n0_;have HO1228:=n1_;have HB:=n2_;clear n0_ n1_ n2_;(try clear hb);(try clear hb2);(try clear hk);(try clear hi);(try clear ho0);obtain ⟨Ao21,co21,eo21⟩:=Kd.R_slice HO1228.out;subst eo21)|((with_reducible refine gate_callee (f:=43) rfl ?_);refine goesL_ (some 38) rfl rfl Try.func43 (by kernel_rfl) rfl #[.slice Ao13 t1221.length co13,.slice Ao21 t1226.length co21] rfl (by (try simp only [List.map_toArray,List.map_cons,List.map_nil]);first|done|rfl|(simp only [List.length_drop,List.length_take];rfl)) ?_;(with_reducible refine (laws_eqStringS.calls kj7 _ _ t1221 _ _ t1226 true _ ?side1 ?side2 ?side3 ?side4 A18.out).mono ?_);(case side1=> repeat (first|exact (Kd.R_reads' HO_6.out).2.2|(with_reducible refine Kd.C_alloc ?_ _)|(with_reducible refine Kd.C_drewN ?_ _)|(with_reducible refine Kd.C_drew ?_)));(case side2=> exact (Kd.R_reads' HO_6.out).2.1);(case side3=> repeat (first|exact (Kd.R_reads' HO1228.out).2.2|(with_reducible refine Kd.C_alloc ?_ _)|(with_reducible refine Kd.C_drewN ?_ _)|(with_reducible refine Kd.C_drew ?_)));(case side4=> exact (Kd.R_reads' HO1228.out).2.1);rintro e w' ⟨rfl,⟨nd,rfl⟩⟩;refine ⟨_,rfl,?_⟩))
            go_ret
            exact ⟨by first|rfl|(simp [errW_none,errW_some] <;> rfl)|(simp [*,errW_none,errW_some] <;> rfl),by repeat (first|(with_reducible first|exact HB.out|apply bwA|apply bwN|apply bwD)|exact HB.out)⟩
          · replace c19:=Bool.eq_false_iff.mpr c19
            subst c19
            have H1:(none)=some r:=by rw [if_neg (show ¬ (false=true) by decide)] at H;exact H
            clear H
            have H:=H1
            clear H1
            exact absurd H (by simp)
def spec_l01In.f (a0:Int) (a1:Int) (a2:Int):Option (Bool):=if a1 ≤ a0 then (some (decide (a0 ≤ a2))) else (some false)
set_option maxHeartbeats 8000000 in
set_option maxRecDepth 100000 in
theorem spec_l01In.calls (a0:Int) (a1:Int) (a2:Int) (r:Bool) (w:World) (h:spec_l01In.f a0 a1 a2=some r):
    Calls Try.prog 103 #[.int .i64 a0,.int .i64 a1,.int .i64 a2] w fun e w'=> e= .returned (.bool r) ∧ Drawn0 w w':=by
  have H:(if a1 ≤ a0 then (some (decide (a0 ≤ a2))) else (some false))=some r:=h
  clear h
  by_cases c4:a1 ≤ a0
  · rw [if_pos c4] at H
    have c4b0:decide (a1 ≤ a0)=true:=decide_eq_true c4
    clear c4
    obtain rfl:=Option.some.inj H
    go_enter Try.func103,Try.ntmps103
    go_wp2
    go_ret
    exact ⟨by first|rfl|(simp;done)|(simp [*];done),by repeat (first|exact Drawn0.refl _|apply Drawn0.step)⟩
  · rw [if_neg c4] at H
    have c4b0:decide (a1 ≤ a0)=false:=decide_eq_false c4
    clear c4
    obtain rfl:=Option.some.inj H
    go_enter Try.func103,Try.ntmps103
    go_wp2
    go_ret
    exact ⟨by first|rfl|(simp;done)|(simp [*];done),by repeat (first|exact Drawn0.refl _|apply Drawn0.step)⟩
def spec_FieldOK.f (a0:Int):Option (Bool):=(spec_l01In.f a0 0 2130706432).bind fun t209=> (some t209)
set_option maxHeartbeats 8000000 in
set_option maxRecDepth 100000 in
theorem spec_FieldOK.calls (a0:Int) (r:Bool) (w:World) (h:spec_FieldOK.f a0=some r):
    Calls Try.prog 161 #[.int .i64 a0] w fun e w'=> e= .returned (.bool r) ∧ Drawn0 w w':=by
  have H:((spec_l01In.f a0 0 2130706432).bind fun t209=> (some t209))=some r:=h
  clear h
  replace H:=Option.bind_eq_some_iff.mp H
  obtain ⟨t209,A20,H⟩:=H
  replace H:(some t209)=some r:=H
  have A2:=Aside0.mk A20
  clear A20
  obtain rfl:=Option.some.inj H
  go_enter Try.func161,Try.ntmps161
  go_wp2_with (first|((with_reducible refine gate_callee (f:=103) rfl ?_);refine goesL_ (some 4) rfl rfl Try.func103 (by kernel_rfl) rfl #[.int .i64 a0,.int .i64 0,.int .i64 2130706432] rfl (by (try simp only [List.map_toArray,List.map_cons,List.map_nil]);first|done|rfl|(simp only [List.length_drop,List.length_take];rfl)) ?_;(with_reducible refine (spec_l01In.calls a0 0 2130706432 t209 _ A2.out).mono ?_);rintro e w' ⟨rfl,⟨nd,rfl⟩⟩;refine ⟨_,rfl,?_⟩))
  go_ret
  exact ⟨by first|rfl|(simp;done)|(simp [*];done),by repeat (first|exact Drawn0.refl _|apply Drawn0.step)⟩
def spec_l04Path.l0:Nat → List (List ByteArray) → Int → List ByteArray → Int → Option (List ByteArray)
  |0,_,_,_,_=> none
  |k + 1,x0,x1,x5,x6=> if (wrap64 (x6 + 1)) < (x0.length:Int) then (if 0 ≤ x6 then (if x6 < (x0.length:Int) then (if 0 ≤ (Go.bits .xor .i64 x1 1) then (if (Go.bits .xor .i64 x1 1) < ((rd_L7 x0 x6).length:Int) then (if x5.length < 8796093022208 then (spec_l04Path.l0 k x0 (wrap64 (Int.tdiv x1 2)) (x5 ++ [rdOf ByteArray.empty (rd_L7 x0 x6) (Go.bits .xor .i64 x1 1)]) (wrap64 (x6 + 1))) else (none)) else (none)) else (none)) else (none)) else (none)) else (some x5)
def spec_l04Path.f (k:Nat) (l0:List (List ByteArray)) (a1:Int):Option (List ByteArray):=spec_l04Path.l0 k l0 a1 (([]:List ByteArray)) 0
theorem spec_l04Path.mono_l:∀ k,(∀ y0 y1 y2 y3,LeO (spec_l04Path.l0 k y0 y1 y2 y3) (spec_l04Path.l0 (k + 1) y0 y1 y2 y3))
  |0=> fun _ _ _ _ r h=> by simp [spec_l04Path.l0] at h
  |k + 1=> by
    have ih0:=spec_l04Path.mono_l k
    · intro y0 y1 y2 y3
      unfold spec_l04Path.l0
      repeat' first
      |(with_reducible exact ih0 _ _ _ _)
      |(with_reducible exact LeO.refl _)
      |(with_reducible exact LeO.none _)
      |(with_reducible refine LeO.ite ?_ ?_)
      |(with_reducible refine LeO.bind ?_ (fun _=> ?_))
      |exact ih0 _ _ _ _
      |exact LeO.none _
      |refine LeO.ite ?_ ?_
      |refine LeO.bind ?_ (fun _=> ?_)
theorem spec_l04Path.mono:∀ a0 a1 k,LeO (spec_l04Path.f k a0 a1) (spec_l04Path.f (k + 1) a0 a1):=by
  intro a0 a1 k
  have ih0:=spec_l04Path.mono_l k
  unfold spec_l04Path.f
  repeat' first
      |(with_reducible exact ih0 _ _ _ _)
      |(with_reducible exact LeO.refl _)
      |(with_reducible exact LeO.none _)
      |(with_reducible refine LeO.ite ?_ ?_)
      |(with_reducible refine LeO.bind ?_ (fun _=> ?_))
      |exact ih0 _ _ _ _
      |exact LeO.none _
      |refine LeO.ite ?_ ?_
      |refine LeO.bind ?_ (fun _=> ?_)
set_option maxHeartbeats 8000000 in
set_option maxRecDepth 100000 in
theorem spec_l04Path.calls (k:Nat) (A0:Option Addr) (c0:Nat) (l0:List (List ByteArray)) (a1:Int) (r:List ByteArray) (w:World) (hr0:Kd.C (Kd.slice 9 Kd.string) w A0 l0.length l0) (hc0:l0.length ≤ c0) (h:spec_l04Path.f k l0 a1=some r):
    Calls Try.prog 104 #[.slice A0 l0.length c0,.int .i64 a1] w fun e w'=> ∃ v0_:Value,e= .returned (v0_) ∧ Kd.R Kd.string 9 w' w.heap.size (fun _=> True) v0_ r ∧ Below w.heap.size w w':=by
  have HR0:=Aside0.mk hr0
  have HC0:=Aside0.mk hc0
  clear hr0 hc0
  have HB:=Aside0.mk (Below.refl w.heap.size w)
  have H:(spec_l04Path.l0 k l0 a1 (([]:List ByteArray)) 0)=some r:=h
  clear h
  obtain ⟨y1230,hy1230⟩:∃ y_:List ByteArray,y_=(([]:List ByteArray)):=⟨_,rfl⟩
  replace H:(spec_l04Path.l0 k l0 a1 y1230 0)=some r:=by first|(rw [hy1230];with_reducible exact H)|(have H2_:=(Option.bind_some _ _).symm.trans H;rw [hy1230];with_reducible exact H2_)|(have H2_:=(Option.bind_some _ _).symm.trans H;with_reducible exact H2_)|with_reducible exact H|(rw [hy1230];exact H)|exact H
  have Ny1230:=Aside0.mk hy1230
  clear hy1230
  have H':=Aside0.mk H
  clear H
  go_enter Try.func104,Try.ntmps104
  go_wp2_with (first|((with_reducible refine gate_dst (N:=7) rfl ?_);refine Kd.R_lit Kd.string _ 9 ?hg (N:=7) ?hd (xs:=([]:List ByteArray)) (inner:= []) (ok:=fun _=> True) (okp:=fun _=> True) ?hr ?hp (fun _ hk=> hk) trivial (Below.refl _ _) (Nat.le_refl _) (by simp) ?_;(case hd=> rfl);(case hg=> rfl);(case hr=> first|(go_simp;done)|(go_simp;rfl));(case hp=> exact (Reps.none _ _));intro v1231 w3 ho4 hb hg_ hnew_;clear hg_ hnew_;(first|rw [← Ny1230.out] at ho4|(simp only [Int.reduceToNat] at ho4;rw [← Ny1230.out] at ho4));have n0_:=Aside0.mk (Kd.R_lower ho4 (below_size (by repeat (first|(with_reducible first|exact HB.out|apply bwA|apply bwN|apply bwD)|exact HB.out))));have n1_:=Aside0.mk (below_step (by repeat (first|(with_reducible first|exact HB.out|apply bwA|apply bwN|apply bwD)|exact HB.out)) hb);clear HB;have HO1232:=n0_;have HB:=n1_;clear n0_ n1_;clear hb ho4))
  go_loopg [1,5,6] k (fun kq v1 v5 v6 w'=> ∃ (x1_1:Int) (x5_1:List ByteArray) (x6_1:Int),v1= .int .i64 x1_1 ∧ v6= .int .i64 x6_1 ∧ Aside0 (spec_l04Path.l0 kq l0 x1_1 x5_1 x6_1=some r) ∧ Aside0 (kq ≤ k) ∧ Aside0 (Kd.R Kd.string 9 w' w.heap.size (fun _=> True) v5 x5_1) ∧ Aside0 (Below w.heap.size w w'))
  case atStart=> exact ⟨(a1),(y1230),(0),(by first|rfl|(simp;done)|(simp [*];done)),(by first|rfl|(simp;done)|(simp [*];done)),H',⟨Nat.le_refl _⟩,⟨by (with_reducible repeat (first|apply Kd.R_alloc|apply Kd.R_drewN|apply Kd.R_drew));exact HO1232.out⟩,⟨by repeat (first|(with_reducible first|exact HB.out|apply bwA|apply bwN|apply bwD)|exact HB.out)⟩⟩
  case round=>
    clear H'
    try clear c1
    try clear p2
    obtain ⟨x1_1,x5_1,x6_1,rfl,rfl,HA,HK1,HO_5,HB⟩:=hrel
    cases gk with
    |zero=> exact absurd HA.out (by simp [spec_l04Path.l0])
    |succ k1=>
      have H:=HA.out
      clear HA
      simp only [spec_l04Path.l0] at H
      by_cases c5:(wrap64 (x6_1 + 1)) < (l0.length:Int)
      · rw [if_pos c5] at H
        have c5b0:decide ((wrap64 (x6_1 + 1)) < (l0.length:Int))=true:=decide_eq_true c5
        clear c5
        by_cases c6:0 ≤ x6_1
        · rw [if_pos c6] at H
          have c6b0:decide (0 ≤ x6_1)=true:=decide_eq_true c6
          clear c6
          by_cases c7:x6_1 < (l0.length:Int)
          · rw [if_pos c7] at H
            have c7b0:decide (x6_1 < (l0.length:Int))=true:=decide_eq_true c7
            clear c7
            by_cases c8:0 ≤ (Go.bits .xor .i64 x1_1 1)
            · rw [if_pos c8] at H
              have c8b0:decide (0 ≤ (Go.bits .xor .i64 x1_1 1))=true:=decide_eq_true c8
              clear c8
              by_cases c9:(Go.bits .xor .i64 x1_1 1) < ((rd_L7 l0 x6_1).length:Int)
              · rw [if_pos c9] at H
                have c9b0:decide ((Go.bits .xor .i64 x1_1 1) < ((rd_L7 l0 x6_1).length:Int))=true:=decide_eq_true c9
                clear c9
                by_cases c10:x5_1.length < 8796093022208
                · rw [if_pos c10] at H
                  have LMc10:=Aside0.mk c10
                  clear c10
                  obtain ⟨y1235,hy1235⟩:∃ y_:List ByteArray,y_=(x5_1 ++ [rdOf ByteArray.empty (rd_L7 l0 x6_1) (Go.bits .xor .i64 x1_1 1)]):=⟨_,rfl⟩
                  replace H:(spec_l04Path.l0 k1 l0 (wrap64 (Int.tdiv x1_1 2)) y1235 (wrap64 (x6_1 + 1)))=some r:=by first|(rw [hy1235];with_reducible exact H)|(have H2_:=(Option.bind_some _ _).symm.trans H;rw [hy1235];with_reducible exact H2_)|(have H2_:=(Option.bind_some _ _).symm.trans H;with_reducible exact H2_)|with_reducible exact H|(rw [hy1235];exact H)|exact H
                  have Ny1235:=Aside0.mk hy1235
                  clear hy1235
                  have H':=Aside0.mk H
                  clear H
                  have p1233:0 ≤ (x6_1:Int):=of_decide_eq_true (by first|(with_reducible assumption)|assumption)
                  have q1233:x6_1 < (l0.length:Int):=of_decide_eq_true (by first|(with_reducible assumption)|assumption)
                  obtain ⟨ad1233,A1233_0,c1233_0,e1233,hx1233_0,hl1233_0,hi1233_0⟩:=at_L7 HR0.out x6_1 p1233 q1233
                  cases e1233
                  replace hx1233_0:=(HB.out.cell (World.block_lt_of_cell? w _ hx1233_0)).trans hx1233_0
                  have HR1233_0:=Aside0.mk hi1233_0
                  have HC1233_0:=Aside0.mk hl1233_0
                  clear hi1233_0 hl1233_0
                  replace p1233:=eq_true p1233
                  replace q1233:=eq_true q1233
                  have p1234:0 ≤ ((Go.bits .xor .i64 x1_1 1):Int):=of_decide_eq_true (by first|(with_reducible assumption)|assumption)
                  have q1234:(Go.bits .xor .i64 x1_1 1) < ((rd_L7 l0 x6_1).length:Int):=of_decide_eq_true (by first|(with_reducible assumption)|assumption)
                  obtain ⟨ad1234,e1234,hx1234_0⟩:=Kd.at_string HR1233_0.out (Go.bits .xor .i64 x1_1 1) p1234 q1234
                  cases e1234
                  replace hx1234_0:=(HB.out.cell (World.block_lt_of_cell? w _ hx1234_0)).trans hx1234_0
                  replace p1234:=eq_true p1234
                  replace q1234:=eq_true q1234
                  go_wp2_with (first|((with_reducible refine gate_builtin (b:= .append) (xs:= #[.tmp 15,.tmp 24]) rfl ?_);at_builtin;refine Kd.R_append Kd.string (w0:=w) w.heap.size rfl (.tmp 15) (.tmp 24) 41 9 (.string ⟨#[]⟩) 16 rfl Try.underlying41 info9 rfl (by decide) (by omega) u5 x5_1 (rdOf ByteArray.empty (rd_L7 l0 x6_1) (Go.bits .xor .i64 x1_1 1)) [.string (rdOf ByteArray.empty (rd_L7 l0 x6_1) (Go.bits .xor .i64 x1_1 1))] (fun _=> True) (fun _=> False) rfl rfl ?aP (fun _ hk=> hk.elim) ?aF ?aO ?aB ?aS ?aL ?_;(case aP=> exact rfl);(case aB=> exact (by repeat (first|(with_reducible first|exact HB.out|apply bwA|apply bwN|apply bwD)|exact HB.out)));(case aF=> exact (fun _ _=> trivial));(case aO=> exact (by (with_reducible repeat (first|apply Kd.R_alloc|apply Kd.R_drewN|apply Kd.R_drew));exact HO_5.out));(case aS=> exact (below_size (by repeat (first|(with_reducible first|exact HB.out|apply bwA|apply bwN|apply bwD)|exact HB.out))));(case aL=> have:=LMc10.out;omega);intro v1236 w11 ho hb hg hat;rw [← Ny1235.out] at ho;have n0_:=Aside0.mk (hb);have n1_:=Aside0.mk (ho);clear HB;clear HO_5;have HB:=n0_;have HO1237:=n1_;clear n0_ n1_;clear ho hb hg hat))
                  go_roundg k1
                  case measure=> have:=HK1.out;omega
                  case rel=> exact ⟨(wrap64 (Int.tdiv x1_1 2)),(y1235),(wrap64 (x6_1 + 1)),(by first|rfl|(simp;done)|(simp [*];done)),(by first|rfl|(simp;done)|(simp [*];done)),H',⟨by have:=HK1.out;omega⟩,⟨by (with_reducible repeat (first|apply Kd.R_alloc|apply Kd.R_drewN|apply Kd.R_drew));exact HO1237.out⟩,⟨by repeat (first|(with_reducible first|exact HB.out|apply bwA|apply bwN|apply bwD)|exact HB.out)⟩⟩
                · rw [if_neg c10] at H
                  exact absurd H (by simp)
              · rw [if_neg c9] at H
                exact absurd H (by simp)
            · rw [if_neg c8] at H
              exact absurd H (by simp)
          · rw [if_neg c7] at H
            exact absurd H (by simp)
        · rw [if_neg c6] at H
          exact absurd H (by simp)
      · rw [if_neg c5] at H
        have c5b0:decide ((wrap64 (x6_1 + 1)) < (l0.length:Int))=false:=decide_eq_false c5
        clear c5
        obtain rfl:=Option.some.inj H
        go_wp2
        go_ret
        exact ⟨_,by first|rfl|(simp [errW_none,errW_some] <;> rfl)|(simp [*,errW_none,errW_some] <;> rfl),by (with_reducible repeat (first|apply Kd.R_alloc|apply Kd.R_drewN|apply Kd.R_drew));exact HO_5.out,by repeat (first|(with_reducible first|exact HB.out|apply bwA|apply bwN|apply bwD)|exact HB.out)⟩
def spec_MerklePath.f (k:Nat) (l0:List ByteArray) (a1:Int):Option (List ByteArray × Int):=if (l0.length:Int) > 4096 then (some ((([]:List ByteArray)),2)) else ((spec_l04Leaves.f k l0).bind fun t1241=> (if t1241=0 then ((spec_l01In.f a1 0 (wrap64 ((l0.length:Int) - 1))).bind fun t1245=> (if t1245=true then ((spec_l04Levels.f l0).bind fun t1246=> ((spec_l04Path.f k t1246 a1).bind fun t1249=> (some (t1249,0)))) else (some ((([]:List ByteArray)),4)))) else (some ((([]:List ByteArray)),t1241))))
theorem spec_MerklePath.mono:∀ a0 a1 k,LeO (spec_MerklePath.f k a0 a1) (spec_MerklePath.f (k + 1) a0 a1):=by
  intro a0 a1 k
  unfold spec_MerklePath.f
  repeat' first
      |(with_reducible exact spec_l04Leaves.mono _ _)
      |(with_reducible exact spec_l04Path.mono _ _ _)
      |(with_reducible exact LeO.refl _)
      |(with_reducible exact LeO.none _)
      |(with_reducible refine LeO.ite ?_ ?_)
      |(with_reducible refine LeO.bind ?_ (fun _=> ?_))
      |exact spec_l04Leaves.mono _ _
      |exact spec_l04Path.mono _ _ _
      |exact LeO.none _
      |refine LeO.ite ?_ ?_
      |refine LeO.bind ?_ (fun _=> ?_)
set_option maxHeartbeats 8000000 in
set_option maxRecDepth 100000 in
theorem spec_MerklePath.calls (k:Nat) (A0:Option Addr) (c0:Nat) (l0:List ByteArray) (a1:Int) (r1:List ByteArray) (r2:Int) (w:World) (hr0:Kd.C Kd.string w A0 l0.length l0) (hc0:l0.length ≤ c0) (h:spec_MerklePath.f k l0 a1=some (r1,r2)):
    Calls Try.prog 44 #[.slice A0 l0.length c0,.int .i64 a1] w fun e w'=> ∃ v0_:Value,e= .returned (.tuple #[v0_,.int .i64 r2]) ∧ Kd.R Kd.string 9 w' w.heap.size (fun _=> True) v0_ r1 ∧ Below w.heap.size w w':=by
  have HR0:=Aside0.mk hr0
  have HC0:=Aside0.mk hc0
  clear hr0 hc0
  have HB:=Aside0.mk (Below.refl w.heap.size w)
  have H:(if (l0.length:Int) > 4096 then (some ((([]:List ByteArray)),2)) else ((spec_l04Leaves.f k l0).bind fun t1241=> (if t1241=0 then ((spec_l01In.f a1 0 (wrap64 ((l0.length:Int) - 1))).bind fun t1245=> (if t1245=true then ((spec_l04Levels.f l0).bind fun t1246=> ((spec_l04Path.f k t1246 a1).bind fun t1249=> (some (t1249,0)))) else (some ((([]:List ByteArray)),4)))) else (some ((([]:List ByteArray)),t1241)))))=some (r1,r2):=h
  clear h
  by_cases c3:(l0.length:Int) > 4096
  · rw [if_pos c3] at H
    have c3b0:decide (4096 < (l0.length:Int))=true:=decide_eq_true c3
    have c3b1:decide (4096 < l0.length)=true:=decide_eq_true (by omega)
    clear c3
    obtain ⟨y1238,hy1238⟩:∃ y_:List ByteArray,y_=(([]:List ByteArray)):=⟨_,rfl⟩
    replace H:(some (y1238,2))=some (r1,r2):=by first|(rw [hy1238];with_reducible exact H)|(have H2_:=(Option.bind_some _ _).symm.trans H;rw [hy1238];with_reducible exact H2_)|(have H2_:=(Option.bind_some _ _).symm.trans H;with_reducible exact H2_)|with_reducible exact H|(rw [hy1238];exact H)|exact H
    have Ny1238:=Aside0.mk hy1238
    clear hy1238
    simp only [Option.some.injEq,Prod.mk.injEq] at H
    obtain ⟨rfl,rfl⟩:=H
    go_enter Try.func44,Try.ntmps44
    go_wp2_with (first|((with_reducible refine gate_dst (N:=10) rfl ?_);refine Kd.R_lit Kd.string _ 9 ?hg (N:=10) ?hd (xs:=([]:List ByteArray)) (inner:= []) (ok:=fun _=> True) (okp:=fun _=> True) ?hr ?hp (fun _ hk=> hk) trivial (Below.refl _ _) (Nat.le_refl _) (by simp) ?_;(case hd=> rfl);(case hg=> rfl);(case hr=> first|(go_simp;done)|(go_simp;rfl));(case hp=> exact (Reps.none _ _));intro v1239 w4 ho5 hb hg_ hnew_;clear hg_ hnew_;(first|rw [← Ny1238.out] at ho5|(simp only [Int.reduceToNat] at ho5;rw [← Ny1238.out] at ho5));have n0_:=Aside0.mk (Kd.R_lower ho5 (below_size (by repeat (first|(with_reducible first|exact HB.out|apply bwA|apply bwN|apply bwD)|exact HB.out))));have n1_:=Aside0.mk (below_step (by repeat (first|(with_reducible first|exact HB.out|apply bwA|apply bwN|apply bwD)|exact HB.out)) hb);clear HB;have HO1240:=n0_;have HB:=n1_;clear n0_ n1_;clear hb ho5))
    go_ret2
    exact ⟨_,by first|rfl|(simp [errW_none,errW_some] <;> rfl)|(simp [*,errW_none,errW_some] <;> rfl),by (with_reducible repeat (first|apply Kd.R_alloc|apply Kd.R_drewN|apply Kd.R_drew));exact HO1240.out,by repeat (first|(with_reducible first|exact HB.out|apply bwA|apply bwN|apply bwD)|exact HB.out)⟩
  · rw [if_neg c3] at H
    have c3b0:decide (4096 < (l0.length:Int))=false:=decide_eq_false c3
    have c3b1:decide (4096 < l0.length)=false:=decide_eq_false (by omega)
    clear c3
    replace H:=Option.bind_eq_some_iff.mp H
    obtain ⟨t1241,A60,H⟩:=H
    replace H:(if t1241=0 then ((spec_l01In.f a1 0 (wrap64 ((l0.length:Int) - 1))).bind fun t1245=> (if t1245=true then ((spec_l04Levels.f l0).bind fun t1246=> ((spec_l04Path.f k t1246 a1).bind fun t1249=> (some (t1249,0)))) else (some ((([]:List ByteArray)),4)))) else (some ((([]:List ByteArray)),t1241)))=some (r1,r2):=H
    have A6:=Aside0.mk A60
    clear A60
    by_cases c7:t1241=0
    · rw [if_pos c7] at H
      have c7b0:(t1241==0)=true:=beq_iff_eq.mpr c7
      have c7b1:(t1241 !=0)=false:=bne_eq_false_iff_eq.mpr c7
      clear c7
      replace H:=Option.bind_eq_some_iff.mp H
      obtain ⟨t1245,A80,H⟩:=H
      replace H:(if t1245=true then ((spec_l04Levels.f l0).bind fun t1246=> ((spec_l04Path.f k t1246 a1).bind fun t1249=> (some (t1249,0)))) else (some ((([]:List ByteArray)),4)))=some (r1,r2):=H
      have A8:=Aside0.mk A80
      clear A80
      by_cases c9:t1245=true
      · subst c9
        have H1:((spec_l04Levels.f l0).bind fun t1246=> ((spec_l04Path.f k t1246 a1).bind fun t1249=> (some (t1249,0))))=some (r1,r2):=by rw [if_pos rfl] at H;exact H
        clear H
        have H:=H1
        clear H1
        replace H:=Option.bind_eq_some_iff.mp H
        obtain ⟨t1246,A100,H⟩:=H
        replace H:((spec_l04Path.f k t1246 a1).bind fun t1249=> (some (t1249,0)))=some (r1,r2):=H
        have A10:=Aside0.mk A100
        clear A100
        replace H:=Option.bind_eq_some_iff.mp H
        obtain ⟨t1249,A110,H⟩:=H
        replace H:(some (t1249,0))=some (r1,r2):=H
        have A11:=Aside0.mk A110
        clear A110
        simp only [Option.some.injEq,Prod.mk.injEq] at H
        obtain ⟨rfl,rfl⟩:=H
        go_enter Try.func44,Try.ntmps44
        go_wp2_with (first|((with_reducible refine gate_callee (f:=98) rfl ?_);refine goesL_ (some 12) rfl rfl Try.func98 (by kernel_rfl) rfl #[.slice A0 l0.length c0] rfl (by (try simp only [List.map_toArray,List.map_cons,List.map_nil]);first|done|rfl|(simp only [List.length_drop,List.length_take];rfl)) ?_;(with_reducible refine (spec_l04Leaves.calls k _ _ l0 t1241 _ ?side1 ?side2 A6.out).mono ?_);(case side1=> repeat (first|exact HR0.out|(with_reducible refine Kd.C_alloc ?_ _)|(with_reducible refine Kd.C_drewN ?_ _)|(with_reducible refine Kd.C_drew ?_)));(case side2=> exact HC0.out);rintro e w' ⟨rfl,⟨nd,rfl⟩⟩;refine ⟨_,rfl,?_⟩)|((with_reducible refine gate_callee (f:=103) rfl ?_);refine goesL_ (some 21) rfl rfl Try.func103 (by kernel_rfl) rfl #[.int .i64 a1,.int .i64 0,.int .i64 (wrap64 ((l0.length:Int) - 1))] rfl (by (try simp only [List.map_toArray,List.map_cons,List.map_nil]);first|done|rfl|(simp only [List.length_drop,List.length_take];rfl)) ?_;(with_reducible refine (spec_l01In.calls a1 0 (wrap64 ((l0.length:Int) - 1)) true _ A8.out).mono ?_);rintro e w' ⟨rfl,⟨nd,rfl⟩⟩;refine ⟨_,rfl,?_⟩)|((with_reducible refine gate_callee (f:=105) rfl ?_);refine goesL_ (some 25) rfl rfl Try.func105 (by kernel_rfl) rfl #[.slice A0 l0.length c0] rfl (by (try simp only [List.map_toArray,List.map_cons,List.map_nil]);first|done|rfl|(simp only [List.length_drop,List.length_take];rfl)) ?_;(with_reducible refine (spec_l04Levels.calls _ _ l0 t1246 _ ?side1 ?side2 A10.out).mono ?_);(case side1=> repeat (first|exact HR0.out|(with_reducible refine Kd.C_alloc ?_ _)|(with_reducible refine Kd.C_drewN ?_ _)|(with_reducible refine Kd.C_drew ?_)));(case side2=> exact HC0.out);rintro e w12 ⟨v1247,rfl,ho0,hb⟩;refine ⟨_,rfl,?_⟩;have n0_:=Aside0.mk (Kd.S_lower ho0 (below_size (by repeat (first|(with_reducible first|exact HB.out|apply bwA|apply bwN|apply bwD)|exact HB.out))));have n1_:=Aside0.mk (below_step (by repeat (first|(with_reducible first|exact HB.out|apply bwA|apply bwN|apply bwD)|exact HB.out)) hb);clear HB;have HO1248:=n0_;have HB:=n1_;clear n0_ n1_;(try clear hb);(try clear hb2);(try clear hk);(try clear hi);(try clear ho0);obtain ⟨Ao13,co13,eo13⟩:=Kd.S_slice HO1248.out;subst eo13)|((with_reducible refine gate_callee (f:=104) rfl ?_);refine goesL_ (some 27) rfl rfl Try.func104 (by kernel_rfl) rfl #[.slice Ao13 t1246.length co13,.int .i64 a1] rfl (by (try simp only [List.map_toArray,List.map_cons,List.map_nil]);first|done|rfl|(simp only [List.length_drop,List.length_take];rfl)) ?_;(with_reducible refine (spec_l04Path.calls k _ _ t1246 a1 t1249 _ ?side1 ?side2 A11.out).mono ?_);(case side1=> repeat (first|exact (Kd.S_reads' HO1248.out).2.2|(with_reducible refine Kd.C_alloc ?_ _)|(with_reducible refine Kd.C_drewN ?_ _)|(with_reducible refine Kd.C_drew ?_)));(case side2=> exact (Kd.S_reads' HO1248.out).2.1);rintro e w14 ⟨v1250,rfl,ho0,hb⟩;refine ⟨_,rfl,?_⟩;have n0_:=Aside0.mk (Kd.S_elder' (by (with_reducible repeat (first|apply Kd.S_alloc|apply Kd.S_drewN|apply Kd.S_drew));exact HO1248.out) (Kd.R_base ho0) hb);have n1_:=Aside0.mk (Kd.R_lower ho0 (below_size (by repeat (first|(with_reducible first|exact HB.out|apply bwA|apply bwN|apply bwD)|exact HB.out))));have n2_:=Aside0.mk (below_step (by repeat (first|(with_reducible first|exact HB.out|apply bwA|apply bwN|apply bwD)|exact HB.out)) hb);clear HO1248;clear HB;have HO1248:=n0_;have HO1251:=n1_;have HB:=n2_;clear n0_ n1_ n2_;(try clear hb);(try clear hb2);(try clear hk);(try clear hi);(try clear ho0)))
        go_ret2
        exact ⟨_,by first|rfl|(simp [errW_none,errW_some] <;> rfl)|(simp [*,errW_none,errW_some] <;> rfl),by (with_reducible repeat (first|apply Kd.R_alloc|apply Kd.R_drewN|apply Kd.R_drew));exact HO1251.out,by repeat (first|(with_reducible first|exact HB.out|apply bwA|apply bwN|apply bwD)|exact HB.out)⟩
      · replace c9:=Bool.eq_false_iff.mpr c9
        subst c9
        have H1:(some ((([]:List ByteArray)),4))=some (r1,r2):=by rw [if_neg (show ¬ (false=true) by decide)] at H;exact H
        clear H
        have H:=H1
        clear H1
        obtain ⟨y1252,hy1252⟩:∃ y_:List ByteArray,y_=(([]:List ByteArray)):=⟨_,rfl⟩
        replace H:(some (y1252,4))=some (r1,r2):=by first|(rw [hy1252];with_reducible exact H)|(have H2_:=(Option.bind_some _ _).symm.trans H;rw [hy1252];with_reducible exact H2_)|(have H2_:=(Option.bind_some _ _).symm.trans H;with_reducible exact H2_)|with_reducible exact H|(rw [hy1252];exact H)|exact H
        have Ny1252:=Aside0.mk hy1252
        clear hy1252
        simp only [Option.some.injEq,Prod.mk.injEq] at H
        obtain ⟨rfl,rfl⟩:=H
        go_enter Try.func44,Try.ntmps44
        go_wp2_with (first|((with_reducible refine gate_callee (f:=98) rfl ?_);refine goesL_ (some 12) rfl rfl Try.func98 (by kernel_rfl) rfl #[.slice A0 l0.length c0] rfl (by (try simp only [List.map_toArray,List.map_cons,List.map_nil]);first|done|rfl|(simp only [List.length_drop,List.length_take];rfl)) ?_;(with_reducible refine (spec_l04Leaves.calls k _ _ l0 t1241 _ ?side1 ?side2 A6.out).mono ?_);(case side1=> repeat (first|exact HR0.out|(with_reducible refine Kd.C_alloc ?_ _)|(with_reducible refine Kd.C_drewN ?_ _)|(with_reducible refine Kd.C_drew ?_)));(case side2=> exact HC0.out);rintro e w' ⟨rfl,⟨nd,rfl⟩⟩;refine ⟨_,rfl,?_⟩)|((with_reducible refine gate_callee (f:=103) rfl ?_);refine goesL_ (some 21) rfl rfl Try.func103 (by kernel_rfl) rfl #[.int .i64 a1,.int .i64 0,.int .i64 (wrap64 ((l0.length:Int) - 1))] rfl (by (try simp only [List.map_toArray,List.map_cons,List.map_nil]);first|done|rfl|(simp only [List.length_drop,List.length_take];rfl)) ?_;(with_reducible refine (spec_l01In.calls a1 0 (wrap64 ((l0.length:Int) - 1)) false _ A8.out).mono ?_);rintro e w' ⟨rfl,⟨nd,rfl⟩⟩;refine ⟨_,rfl,?_⟩)|((with_reducible refine gate_dst (N:=23) rfl ?_);refine Kd.R_lit Kd.string _ 9 ?hg (N:=23) ?hd (xs:=([]:List ByteArray)) (inner:= []) (ok:=fun _=> True) (okp:=fun _=> True) ?hr ?hp (fun _ hk=> hk) trivial (Below.refl _ _) (Nat.le_refl _) (by simp) ?_;(case hd=> rfl);(case hg=> rfl);(case hr=> first|(go_simp;done)|(go_simp;rfl));(case hp=> exact (Reps.none _ _));intro v1253 w15 ho16 hb hg_ hnew_;clear hg_ hnew_;(first|rw [← Ny1252.out] at ho16|(simp only [Int.reduceToNat] at ho16;rw [← Ny1252.out] at ho16));have n0_:=Aside0.mk (Kd.R_lower ho16 (below_size (by repeat (first|(with_reducible first|exact HB.out|apply bwA|apply bwN|apply bwD)|exact HB.out))));have n1_:=Aside0.mk (below_step (by repeat (first|(with_reducible first|exact HB.out|apply bwA|apply bwN|apply bwD)|exact HB.out)) hb);clear HB;have HO1254:=n0_;have HB:=n1_;clear n0_ n1_;clear hb ho16))
        go_ret2
        exact ⟨_,by first|rfl|(simp [errW_none,errW_some] <;> rfl)|(simp [*,errW_none,errW_some] <;> rfl),by (with_reducible repeat (first|apply Kd.R_alloc|apply Kd.R_drewN|apply Kd.R_drew));exact HO1254.out,by repeat (first|(with_reducible first|exact HB.out|apply bwA|apply bwN|apply bwD)|exact HB.out)⟩
    · rw [if_neg c7] at H
      have c7b0:(t1241==0)=false:=beq_eq_false_iff_ne.mpr c7
      have c7b1:(t1241 !=0)=true:=bne_iff_ne.mpr c7
      obtain ⟨y1242,hy1242⟩:∃ y_:List ByteArray,y_=(([]:List ByteArray)):=⟨_,rfl⟩
      replace H:(some (y1242,t1241))=some (r1,r2):=by first|(rw [hy1242];with_reducible exact H)|(have H2_:=(Option.bind_some _ _).symm.trans H;rw [hy1242];with_reducible exact H2_)|(have H2_:=(Option.bind_some _ _).symm.trans H;with_reducible exact H2_)|with_reducible exact H|(rw [hy1242];exact H)|exact H
      have Ny1242:=Aside0.mk hy1242
      clear hy1242
      simp only [Option.some.injEq,Prod.mk.injEq] at H
      obtain ⟨rfl,rfl⟩:=H
      go_enter Try.func44,Try.ntmps44
      go_wp2_with (first|((with_reducible refine gate_callee (f:=98) rfl ?_);refine goesL_ (some 12) rfl rfl Try.func98 (by kernel_rfl) rfl #[.slice A0 l0.length c0] rfl (by (try simp only [List.map_toArray,List.map_cons,List.map_nil]);first|done|rfl|(simp only [List.length_drop,List.length_take];rfl)) ?_;(with_reducible refine (spec_l04Leaves.calls k _ _ l0 t1241 _ ?side1 ?side2 A6.out).mono ?_);(case side1=> repeat (first|exact HR0.out|(with_reducible refine Kd.C_alloc ?_ _)|(with_reducible refine Kd.C_drewN ?_ _)|(with_reducible refine Kd.C_drew ?_)));(case side2=> exact HC0.out);rintro e w' ⟨rfl,⟨nd,rfl⟩⟩;refine ⟨_,rfl,?_⟩)|((with_reducible refine gate_dst (N:=15) rfl ?_);refine Kd.R_lit Kd.string _ 9 ?hg (N:=15) ?hd (xs:=([]:List ByteArray)) (inner:= []) (ok:=fun _=> True) (okp:=fun _=> True) ?hr ?hp (fun _ hk=> hk) trivial (Below.refl _ _) (Nat.le_refl _) (by simp) ?_;(case hd=> rfl);(case hg=> rfl);(case hr=> first|(go_simp;done)|(go_simp;rfl));(case hp=> exact (Reps.none _ _));intro v1243 w17 ho18 hb hg_ hnew_;clear hg_ hnew_;(first|rw [← Ny1242.out] at ho18|(simp only [Int.reduceToNat] at ho18;rw [← Ny1242.out] at ho18));have n0_:=Aside0.mk (Kd.R_lower ho18 (below_size (by repeat (first|(with_reducible first|exact HB.out|apply bwA|apply bwN|apply bwD)|exact HB.out))));have n1_:=Aside0.mk (below_step (by repeat (first|(with_reducible first|exact HB.out|apply bwA|apply bwN|apply bwD)|exact HB.out)) hb);clear HB;have HO1244:=n0_;have HB:=n1_;clear n0_ n1_;clear hb ho18))
      go_ret2
      exact ⟨_,by first|rfl|(simp [errW_none,errW_some] <;> rfl)|(simp [*,errW_none,errW_some] <;> rfl),by (with_reducible repeat (first|apply Kd.R_alloc|apply Kd.R_drewN|apply Kd.R_drew));exact HO1244.out,by repeat (first|(with_reducible first|exact HB.out|apply bwA|apply bwN|apply bwD)|exact HB.out)⟩
def spec_l04Up.l0:Nat → Int → List ByteArray → List ByteArray → ByteArray → Int → Option (List ByteArray × ByteArray)
  |0,_,_,_,_,_=> none
  |k + 1,x0,x2,x8,x9,x10=> if x10 < (x2.length:Int) then (if 1 + x9.size ≤ 9223372036854775807 then (if 0 ≤ x10 then (if ((⟨#[1]⟩:ByteArray) ++ x9).size + (rdOf ByteArray.empty x2 x10).size ≤ 9223372036854775807 then (if (Int.tmod x0 2)=1 then (if 1 + (rdOf ByteArray.empty x2 x10).size ≤ 9223372036854775807 then (if ((⟨#[1]⟩:ByteArray) ++ (rdOf ByteArray.empty x2 x10)).size + x9.size ≤ 9223372036854775807 then (if x8.length < 8796093022208 then ((spec_l03Hash.f (((⟨#[1]⟩:ByteArray) ++ (rdOf ByteArray.empty x2 x10)) ++ x9)).bind fun t1074=> (spec_l04Up.l0 k (wrap64 (Int.tdiv x0 2)) x2 (x8 ++ [((⟨#[1]⟩:ByteArray) ++ (rdOf ByteArray.empty x2 x10)) ++ x9]) t1074 (wrap64 (x10 + 1)))) else (none)) else (none)) else (none)) else (if x8.length < 8796093022208 then ((spec_l03Hash.f (((⟨#[1]⟩:ByteArray) ++ x9) ++ (rdOf ByteArray.empty x2 x10))).bind fun t1078=> (spec_l04Up.l0 k (wrap64 (Int.tdiv x0 2)) x2 (x8 ++ [((⟨#[1]⟩:ByteArray) ++ x9) ++ (rdOf ByteArray.empty x2 x10)]) t1078 (wrap64 (x10 + 1)))) else (none))) else (none)) else (none)) else (none)) else (some (x8,x9))
def spec_l04Up.f (k:Nat) (a0:Int) (a1:ByteArray) (l2:List ByteArray):Option (List ByteArray × ByteArray):=if 1 + a1.size ≤ 9223372036854775807 then ((spec_l04Leaf.f a1).bind fun t1068=> (spec_l04Up.l0 k a0 l2 (([(⟨#[0]⟩:ByteArray) ++ a1]:List ByteArray)) t1068 0)) else (none)
theorem spec_l04Up.mono_l:∀ k,(∀ y0 y1 y2 y3 y4,LeO (spec_l04Up.l0 k y0 y1 y2 y3 y4) (spec_l04Up.l0 (k + 1) y0 y1 y2 y3 y4))
  |0=> fun _ _ _ _ _ r h=> by simp [spec_l04Up.l0] at h
  |k + 1=> by
    have ih0:=spec_l04Up.mono_l k
    · intro y0 y1 y2 y3 y4
      unfold spec_l04Up.l0
      repeat' first
      |(with_reducible exact ih0 _ _ _ _ _)
      |(with_reducible exact LeO.refl _)
      |(with_reducible exact LeO.none _)
      |(with_reducible refine LeO.ite ?_ ?_)
      |(with_reducible refine LeO.bind ?_ (fun _=> ?_))
      |exact ih0 _ _ _ _ _
      |exact LeO.none _
      |refine LeO.ite ?_ ?_
      |refine LeO.bind ?_ (fun _=> ?_)
theorem spec_l04Up.mono:∀ a0 a1 a2 k,LeO (spec_l04Up.f k a0 a1 a2) (spec_l04Up.f (k + 1) a0 a1 a2):=by
  intro a0 a1 a2 k
  have ih0:=spec_l04Up.mono_l k
  unfold spec_l04Up.f
  repeat' first
      |(with_reducible exact ih0 _ _ _ _ _)
      |(with_reducible exact LeO.refl _)
      |(with_reducible exact LeO.none _)
      |(with_reducible refine LeO.ite ?_ ?_)
      |(with_reducible refine LeO.bind ?_ (fun _=> ?_))
      |exact ih0 _ _ _ _ _
      |exact LeO.none _
      |refine LeO.ite ?_ ?_
      |refine LeO.bind ?_ (fun _=> ?_)
set_option maxHeartbeats 8000000 in
set_option maxRecDepth 100000 in
theorem spec_l04Up.calls (k:Nat) (a0:Int) (a1:ByteArray) (A2:Option Addr) (c2:Nat) (l2:List ByteArray) (r1:List ByteArray) (r2:ByteArray) (w:World) (hr2:Kd.C Kd.string w A2 l2.length l2) (hc2:l2.length ≤ c2) (h:spec_l04Up.f k a0 a1 l2=some (r1,r2)):
    Calls Try.prog 112 #[.int .i64 a0,.string a1,.slice A2 l2.length c2] w fun e w'=> ∃ v0_:Value,e= .returned (.tuple #[v0_,.string r2]) ∧ Kd.R Kd.string 9 w' w.heap.size (fun _=> True) v0_ r1 ∧ Below w.heap.size w w':=by
  have HR2:=Aside0.mk hr2
  have HC2:=Aside0.mk hc2
  clear hr2 hc2
  have HB:=Aside0.mk (Below.refl w.heap.size w)
  have H:(if 1 + a1.size ≤ 9223372036854775807 then ((spec_l04Leaf.f a1).bind fun t1068=> (spec_l04Up.l0 k a0 l2 (([(⟨#[0]⟩:ByteArray) ++ a1]:List ByteArray)) t1068 0)) else (none))=some (r1,r2):=h
  clear h
  by_cases c4:1 + a1.size ≤ 9223372036854775807
  · rw [if_pos c4] at H
    have c4b0:=eq_true c4
    have c4b1:decide (1 + a1.size ≤ 9223372036854775807)=true:=decide_eq_true c4
    try have c4b2:(9223372036854775807 < 1 + a1.size)=False:=eq_false (Nat.not_lt.2 c4)
    obtain ⟨y1065,hy1065⟩:∃ y_:List ByteArray,y_=(([(⟨#[0]⟩:ByteArray) ++ a1]:List ByteArray)):=⟨_,rfl⟩
    replace H:((spec_l04Leaf.f a1).bind fun t1068=> (spec_l04Up.l0 k a0 l2 y1065 t1068 0))=some (r1,r2):=by first|(rw [hy1065];with_reducible exact H)|(have H2_:=(Option.bind_some _ _).symm.trans H;rw [hy1065];with_reducible exact H2_)|(have H2_:=(Option.bind_some _ _).symm.trans H;with_reducible exact H2_)|with_reducible exact H|(rw [hy1065];exact H)|exact H
    have Ny1065:=Aside0.mk hy1065
    clear hy1065
    replace H:=Option.bind_eq_some_iff.mp H
    obtain ⟨t1068,A50,H⟩:=H
    replace H:(spec_l04Up.l0 k a0 l2 y1065 t1068 0)=some (r1,r2):=H
    have A5:=Aside0.mk A50
    clear A50
    have H':=Aside0.mk H
    clear H
    go_enter Try.func112,Try.ntmps112
    go_wp2_with (first|((with_reducible refine gate_dst (N:=14) rfl ?_);refine Kd.R_lit Kd.string _ 9 ?hg (N:=14) ?hd (xs:=([(⟨#[0]⟩:ByteArray) ++ a1]:List ByteArray)) (inner:= [.string ((⟨#[0]⟩:ByteArray) ++ a1)]) (ok:=fun _=> True) (okp:=fun _=> True) ?hr ?hp (fun _ hk=> hk) trivial (Below.refl _ _) (Nat.le_refl _) (by simp) ?_;(case hd=> rfl);(case hg=> rfl);(case hr=> first|(go_simp;done)|(go_simp;rfl));(case hp=> exact (Reps.one (show Kd.M Kd.string _ _ _ ((⟨#[0]⟩:ByteArray) ++ a1) [.string ((⟨#[0]⟩:ByteArray) ++ a1)] from rfl) (Reps.none _ _)));intro v1066 w6 ho7 hb hg_ hnew_;clear hg_ hnew_;(first|rw [← Ny1065.out] at ho7|(simp only [Int.reduceToNat] at ho7;rw [← Ny1065.out] at ho7));have n0_:=Aside0.mk (Kd.R_lower ho7 (below_size (by repeat (first|(with_reducible first|exact HB.out|apply bwA|apply bwN|apply bwD)|exact HB.out))));have n1_:=Aside0.mk (below_step (by repeat (first|(with_reducible first|exact HB.out|apply bwA|apply bwN|apply bwD)|exact HB.out)) hb);clear HB;have HO1067:=n0_;have HB:=n1_;clear n0_ n1_;clear hb ho7)|((with_reducible refine gate_callee (f:=89) rfl ?_);refine goesL_ (some 16) rfl rfl Try.func89 (by kernel_rfl) rfl #[.string a1] rfl (by (try simp only [List.map_toArray,List.map_cons,List.map_nil]);first|done|rfl|(simp only [List.length_drop,List.length_take];rfl)) ?_;(with_reducible refine (spec_l04Leaf.calls a1 t1068 _ A5.out).mono ?_);rintro e w8 ⟨rfl,hb⟩;refine ⟨_,rfl,?_⟩;have n0_:=Aside0.mk (Kd.R_below (by (with_reducible repeat (first|apply Kd.R_alloc|apply Kd.R_drewN|apply Kd.R_drew));exact HO1067.out) hb);have n1_:=Aside0.mk (below_step (by repeat (first|(with_reducible first|exact HB.out|apply bwA|apply bwN|apply bwD)|exact HB.out)) hb);clear HO1067;clear HB;have HO1067:=n0_;have HB:=n1_;clear n0_ n1_;(try clear hb);(try clear hb2);(try clear hk);(try clear hi)))
    go_loopg [0,8,9,10] k (fun kq v0 v8 v9 v10 w'=> ∃ (x0_1:Int) (x8_1:List ByteArray) (x9_1:ByteArray) (x10_1:Int),v0= .int .i64 x0_1 ∧ v9= .string x9_1 ∧ v10= .int .i64 x10_1 ∧ Aside0 (spec_l04Up.l0 kq x0_1 l2 x8_1 x9_1 x10_1=some (r1,r2)) ∧ Aside0 (kq ≤ k) ∧ Aside0 (Kd.R Kd.string 9 w' w.heap.size (fun _=> True) v8 x8_1) ∧ Aside0 (Below w.heap.size w w'))
    case atStart=> exact ⟨(a0),(y1065),(t1068),(0),(by first|rfl|(simp;done)|(simp [*];done)),(by first|rfl|(simp;done)|(simp [*];done)),(by first|rfl|(simp;done)|(simp [*];done)),H',⟨Nat.le_refl _⟩,⟨by (with_reducible repeat (first|apply Kd.R_alloc|apply Kd.R_drewN|apply Kd.R_drew));exact HO1067.out⟩,⟨by repeat (first|(with_reducible first|exact HB.out|apply bwA|apply bwN|apply bwD)|exact HB.out)⟩⟩
    case round=>
      clear H'
      try clear c1
      try clear c2
      try clear p2
      try clear c4
      try clear c4b0
      try clear c4b1
      try clear c4b2
      try clear c8
      obtain ⟨x0_1,x8_1,x9_1,x10_1,rfl,rfl,rfl,HA,HK1,HO_8,HB⟩:=hrel
      cases gk with
      |zero=> exact absurd HA.out (by simp [spec_l04Up.l0])
      |succ k1=>
        have H:=HA.out
        clear HA
        simp only [spec_l04Up.l0] at H
        by_cases c9:x10_1 < (l2.length:Int)
        · rw [if_pos c9] at H
          have c9b0:decide (x10_1 < (l2.length:Int))=true:=decide_eq_true c9
          clear c9
          by_cases c10:1 + x9_1.size ≤ 9223372036854775807
          · rw [if_pos c10] at H
            have c10b0:=eq_true c10
            have c10b1:decide (1 + x9_1.size ≤ 9223372036854775807)=true:=decide_eq_true c10
            try have c10b2:(9223372036854775807 < 1 + x9_1.size)=False:=eq_false (Nat.not_lt.2 c10)
            by_cases c11:0 ≤ x10_1
            · rw [if_pos c11] at H
              have c11b0:decide (0 ≤ x10_1)=true:=decide_eq_true c11
              clear c11
              by_cases c12:((⟨#[1]⟩:ByteArray) ++ x9_1).size + (rdOf ByteArray.empty l2 x10_1).size ≤ 9223372036854775807
              · rw [if_pos c12] at H
                have c12b0:=eq_true c12
                have c12b1:decide (((⟨#[1]⟩:ByteArray) ++ x9_1).size + (rdOf ByteArray.empty l2 x10_1).size ≤ 9223372036854775807)=true:=decide_eq_true c12
                try have c12b2:(9223372036854775807 < ((⟨#[1]⟩:ByteArray) ++ x9_1).size + (rdOf ByteArray.empty l2 x10_1).size)=False:=eq_false (Nat.not_lt.2 c12)
                try have c12b3:(9223372036854775807 < 1 + x9_1.size + (rdOf ByteArray.empty l2 x10_1).size)=False:=by have h_:=c12b2;simp only [ByteArray.size_append] at h_;exact h_
                by_cases c13:(Int.tmod x0_1 2)=1
                · rw [if_pos c13] at H
                  have c13b0:((Int.tmod x0_1 2)==1)=true:=beq_iff_eq.mpr c13
                  have c13b1:((Int.tmod x0_1 2) !=1)=false:=bne_eq_false_iff_eq.mpr c13
                  clear c13
                  by_cases c14:1 + (rdOf ByteArray.empty l2 x10_1).size ≤ 9223372036854775807
                  · rw [if_pos c14] at H
                    have c14b0:=eq_true c14
                    have c14b1:decide (1 + (rdOf ByteArray.empty l2 x10_1).size ≤ 9223372036854775807)=true:=decide_eq_true c14
                    try have c14b2:(9223372036854775807 < 1 + (rdOf ByteArray.empty l2 x10_1).size)=False:=eq_false (Nat.not_lt.2 c14)
                    by_cases c15:((⟨#[1]⟩:ByteArray) ++ (rdOf ByteArray.empty l2 x10_1)).size + x9_1.size ≤ 9223372036854775807
                    · rw [if_pos c15] at H
                      have c15b0:=eq_true c15
                      have c15b1:decide (((⟨#[1]⟩:ByteArray) ++ (rdOf ByteArray.empty l2 x10_1)).size + x9_1.size ≤ 9223372036854775807)=true:=decide_eq_true c15
                      try have c15b2:(9223372036854775807 < ((⟨#[1]⟩:ByteArray) ++ (rdOf ByteArray.empty l2 x10_1)).size + x9_1.size)=False:=eq_false (Nat.not_lt.2 c15)
                      try have c15b3:(9223372036854775807 < 1 + (rdOf ByteArray.empty l2 x10_1).size + x9_1.size)=False:=by have h_:=c15b2;simp only [ByteArray.size_append] at h_;exact h_
                      by_cases c16:x8_1.length < 8796093022208
                      · rw [if_pos c16] at H
                        have LMc16:=Aside0.mk c16
                        clear c16
                        obtain ⟨y1071,hy1071⟩:∃ y_:List ByteArray,y_=(x8_1 ++ [((⟨#[1]⟩:ByteArray) ++ (rdOf ByteArray.empty l2 x10_1)) ++ x9_1]):=⟨_,rfl⟩
                        replace H:((spec_l03Hash.f (((⟨#[1]⟩:ByteArray) ++ (rdOf ByteArray.empty l2 x10_1)) ++ x9_1)).bind fun t1074=> (spec_l04Up.l0 k1 (wrap64 (Int.tdiv x0_1 2)) l2 y1071 t1074 (wrap64 (x10_1 + 1))))=some (r1,r2):=by first|(rw [hy1071];with_reducible exact H)|(have H2_:=(Option.bind_some _ _).symm.trans H;rw [hy1071];with_reducible exact H2_)|(have H2_:=(Option.bind_some _ _).symm.trans H;with_reducible exact H2_)|with_reducible exact H|(rw [hy1071];exact H)|exact H
                        have Ny1071:=Aside0.mk hy1071
                        clear hy1071
                        replace H:=Option.bind_eq_some_iff.mp H
                        obtain ⟨t1074,A170,H⟩:=H
                        replace H:(spec_l04Up.l0 k1 (wrap64 (Int.tdiv x0_1 2)) l2 y1071 t1074 (wrap64 (x10_1 + 1)))=some (r1,r2):=H
                        have A17:=Aside0.mk A170
                        clear A170
                        have H':=Aside0.mk H
                        clear H
                        have p1069:0 ≤ (x10_1:Int):=of_decide_eq_true (by first|(with_reducible assumption)|assumption)
                        have q1069:x10_1 < (l2.length:Int):=of_decide_eq_true (by first|(with_reducible assumption)|assumption)
                        obtain ⟨ad1069,e1069,hx1069_0⟩:=Kd.at_string HR2.out x10_1 p1069 q1069
                        cases e1069
                        replace hx1069_0:=(HB.out.cell (World.block_lt_of_cell? w _ hx1069_0)).trans hx1069_0
                        replace p1069:=eq_true p1069
                        replace q1069:=eq_true q1069
                        have p1070:0 ≤ (x10_1:Int):=of_decide_eq_true (by first|(with_reducible assumption)|assumption)
                        have q1070:x10_1 < (l2.length:Int):=of_decide_eq_true (by first|(with_reducible assumption)|assumption)
                        obtain ⟨ad1070,e1070,hx1070_0⟩:=Kd.at_string HR2.out x10_1 p1070 q1070
                        obtain rfl:ad1069=ad1070:=(by injection e1070)
                        replace hx1070_0:=(HB.out.cell (World.block_lt_of_cell? w _ hx1070_0)).trans hx1070_0
                        replace p1070:=eq_true p1070
                        replace q1070:=eq_true q1070
                        go_wp2_with (first|((with_reducible refine gate_builtin (b:= .append) (xs:= #[.tmp 40,.tmp 42]) rfl ?_);at_builtin;refine Kd.R_append Kd.string (w0:=w) w.heap.size rfl (.tmp 40) (.tmp 42) 41 9 (.string ⟨#[]⟩) 16 rfl Try.underlying41 info9 rfl (by decide) (by omega) u8 x8_1 (((⟨#[1]⟩:ByteArray) ++ (rdOf ByteArray.empty l2 x10_1)) ++ x9_1) [.string (((⟨#[1]⟩:ByteArray) ++ (rdOf ByteArray.empty l2 x10_1)) ++ x9_1)] (fun _=> True) (fun _=> False) rfl rfl ?aP (fun _ hk=> hk.elim) ?aF ?aO ?aB ?aS ?aL ?_;(case aP=> exact rfl);(case aB=> exact (by repeat (first|(with_reducible first|exact HB.out|apply bwA|apply bwN|apply bwD)|exact HB.out)));(case aF=> exact (fun _ _=> trivial));(case aO=> exact (by (with_reducible repeat (first|apply Kd.R_alloc|apply Kd.R_drewN|apply Kd.R_drew));exact HO_8.out));(case aS=> exact (below_size (by repeat (first|(with_reducible first|exact HB.out|apply bwA|apply bwN|apply bwD)|exact HB.out))));(case aL=> have:=LMc16.out;omega);intro v1072 w18 ho hb hg hat;rw [← Ny1071.out] at ho;have n0_:=Aside0.mk (hb);have n1_:=Aside0.mk (ho);clear HB;clear HO_8;have HB:=n0_;have HO1073:=n1_;clear n0_ n1_;clear ho hb hg hat)|((with_reducible refine gate_callee (f:=87) rfl ?_);refine goesL_ (some 45) rfl rfl Try.func87 (by kernel_rfl) rfl #[.string (((⟨#[1]⟩:ByteArray) ++ (rdOf ByteArray.empty l2 x10_1)) ++ x9_1)] rfl (by (try simp only [List.map_toArray,List.map_cons,List.map_nil]);first|done|rfl|(simp only [List.length_drop,List.length_take];rfl)) ?_;(with_reducible refine (spec_l03Hash.calls (((⟨#[1]⟩:ByteArray) ++ (rdOf ByteArray.empty l2 x10_1)) ++ x9_1) t1074 _ A17.out).mono ?_);rintro e w19 ⟨rfl,hb⟩;refine ⟨_,rfl,?_⟩;have n0_:=Aside0.mk (Kd.R_below (by (with_reducible repeat (first|apply Kd.R_alloc|apply Kd.R_drewN|apply Kd.R_drew));exact HO1073.out) hb);have n1_:=Aside0.mk (below_step (by repeat (first|(with_reducible first|exact HB.out|apply bwA|apply bwN|apply bwD)|exact HB.out)) hb);clear HO1073;clear HB;have HO1073:=n0_;have HB:=n1_;clear n0_ n1_;(try clear hb);(try clear hb2);(try clear hk);(try clear hi)))
                        go_roundg k1
                        case measure=> have:=HK1.out;omega
                        case rel=> exact ⟨(wrap64 (Int.tdiv x0_1 2)),(y1071),(t1074),(wrap64 (x10_1 + 1)),(by first|rfl|(simp;done)|(simp [*];done)),(by first|rfl|(simp;done)|(simp [*];done)),(by first|rfl|(simp;done)|(simp [*];done)),H',⟨by have:=HK1.out;omega⟩,⟨by (with_reducible repeat (first|apply Kd.R_alloc|apply Kd.R_drewN|apply Kd.R_drew));exact HO1073.out⟩,⟨by repeat (first|(with_reducible first|exact HB.out|apply bwA|apply bwN|apply bwD)|exact HB.out)⟩⟩
                      · rw [if_neg c16] at H
                        exact absurd H (by simp)
                    · rw [if_neg c15] at H
                      exact absurd H (by simp)
                  · rw [if_neg c14] at H
                    exact absurd H (by simp)
                · rw [if_neg c13] at H
                  have c13b0:((Int.tmod x0_1 2)==1)=false:=beq_eq_false_iff_ne.mpr c13
                  have c13b1:((Int.tmod x0_1 2) !=1)=true:=bne_iff_ne.mpr c13
                  by_cases c20:x8_1.length < 8796093022208
                  · rw [if_pos c20] at H
                    have LMc20:=Aside0.mk c20
                    clear c20
                    obtain ⟨y1075,hy1075⟩:∃ y_:List ByteArray,y_=(x8_1 ++ [((⟨#[1]⟩:ByteArray) ++ x9_1) ++ (rdOf ByteArray.empty l2 x10_1)]):=⟨_,rfl⟩
                    replace H:((spec_l03Hash.f (((⟨#[1]⟩:ByteArray) ++ x9_1) ++ (rdOf ByteArray.empty l2 x10_1))).bind fun t1078=> (spec_l04Up.l0 k1 (wrap64 (Int.tdiv x0_1 2)) l2 y1075 t1078 (wrap64 (x10_1 + 1))))=some (r1,r2):=by first|(rw [hy1075];with_reducible exact H)|(have H2_:=(Option.bind_some _ _).symm.trans H;rw [hy1075];with_reducible exact H2_)|(have H2_:=(Option.bind_some _ _).symm.trans H;with_reducible exact H2_)|with_reducible exact H|(rw [hy1075];exact H)|exact H
                    have Ny1075:=Aside0.mk hy1075
                    clear hy1075
                    replace H:=Option.bind_eq_some_iff.mp H
                    obtain ⟨t1078,A210,H⟩:=H
                    replace H:(spec_l04Up.l0 k1 (wrap64 (Int.tdiv x0_1 2)) l2 y1075 t1078 (wrap64 (x10_1 + 1)))=some (r1,r2):=H
                    have A21:=Aside0.mk A210
                    clear A210
                    have H':=Aside0.mk H
                    clear H
                    have p1069:0 ≤ (x10_1:Int):=of_decide_eq_true (by first|(with_reducible assumption)|assumption)
                    have q1069:x10_1 < (l2.length:Int):=of_decide_eq_true (by first|(with_reducible assumption)|assumption)
                    obtain ⟨ad1069,e1069,hx1069_0⟩:=Kd.at_string HR2.out x10_1 p1069 q1069
                    cases e1069
                    replace hx1069_0:=(HB.out.cell (World.block_lt_of_cell? w _ hx1069_0)).trans hx1069_0
                    replace p1069:=eq_true p1069
                    replace q1069:=eq_true q1069
                    go_wp2_with (first|((with_reducible refine gate_builtin (b:= .append) (xs:= #[.tmp 40,.tmp 42]) rfl ?_);at_builtin;refine Kd.R_append Kd.string (w0:=w) w.heap.size rfl (.tmp 40) (.tmp 42) 41 9 (.string ⟨#[]⟩) 16 rfl Try.underlying41 info9 rfl (by decide) (by omega) u8 x8_1 (((⟨#[1]⟩:ByteArray) ++ x9_1) ++ (rdOf ByteArray.empty l2 x10_1)) [.string (((⟨#[1]⟩:ByteArray) ++ x9_1) ++ (rdOf ByteArray.empty l2 x10_1))] (fun _=> True) (fun _=> False) rfl rfl ?aP (fun _ hk=> hk.elim) ?aF ?aO ?aB ?aS ?aL ?_;(case aP=> exact rfl);(case aB=> exact (by repeat (first|(with_reducible first|exact HB.out|apply bwA|apply bwN|apply bwD)|exact HB.out)));(case aF=> exact (fun _ _=> trivial));(case aO=> exact (by (with_reducible repeat (first|apply Kd.R_alloc|apply Kd.R_drewN|apply Kd.R_drew));exact HO_8.out));(case aS=> exact (below_size (by repeat (first|(with_reducible first|exact HB.out|apply bwA|apply bwN|apply bwD)|exact HB.out))));(case aL=> have:=LMc20.out;omega);intro v1076 w22 ho hb hg hat;rw [← Ny1075.out] at ho;have n0_:=Aside0.mk (hb);have n1_:=Aside0.mk (ho);clear HB;clear HO_8;have HB:=n0_;have HO1077:=n1_;clear n0_ n1_;clear ho hb hg hat)|((with_reducible refine gate_callee (f:=87) rfl ?_);refine goesL_ (some 45) rfl rfl Try.func87 (by kernel_rfl) rfl #[.string (((⟨#[1]⟩:ByteArray) ++ x9_1) ++ (rdOf ByteArray.empty l2 x10_1))] rfl (by (try simp only [List.map_toArray,List.map_cons,List.map_nil]);first|done|rfl|(simp only [List.length_drop,List.length_take];rfl)) ?_;(with_reducible refine (spec_l03Hash.calls (((⟨#[1]⟩:ByteArray) ++ x9_1) ++ (rdOf ByteArray.empty l2 x10_1)) t1078 _ A21.out).mono ?_);rintro e w23 ⟨rfl,hb⟩;refine ⟨_,rfl,?_⟩;have n0_:=Aside0.mk (Kd.R_below (by (with_reducible repeat (first|apply Kd.R_alloc|apply Kd.R_drewN|apply Kd.R_drew));exact HO1077.out) hb);have n1_:=Aside0.mk (below_step (by repeat (first|(with_reducible first|exact HB.out|apply bwA|apply bwN|apply bwD)|exact HB.out)) hb);clear HO1077;clear HB;have HO1077:=n0_;have HB:=n1_;clear n0_ n1_;(try clear hb);(try clear hb2);(try clear hk);(try clear hi)))
                    go_roundg k1
                    case measure=> have:=HK1.out;omega
                    case rel=> exact ⟨(wrap64 (Int.tdiv x0_1 2)),(y1075),(t1078),(wrap64 (x10_1 + 1)),(by first|rfl|(simp;done)|(simp [*];done)),(by first|rfl|(simp;done)|(simp [*];done)),(by first|rfl|(simp;done)|(simp [*];done)),H',⟨by have:=HK1.out;omega⟩,⟨by (with_reducible repeat (first|apply Kd.R_alloc|apply Kd.R_drewN|apply Kd.R_drew));exact HO1077.out⟩,⟨by repeat (first|(with_reducible first|exact HB.out|apply bwA|apply bwN|apply bwD)|exact HB.out)⟩⟩
                  · rw [if_neg c20] at H
                    exact absurd H (by simp)
              · rw [if_neg c12] at H
                exact absurd H (by simp)
            · rw [if_neg c11] at H
              exact absurd H (by simp)
          · rw [if_neg c10] at H
            exact absurd H (by simp)
        · rw [if_neg c9] at H
          have c9b0:decide (x10_1 < (l2.length:Int))=false:=decide_eq_false c9
          clear c9
          simp only [Option.some.injEq,Prod.mk.injEq] at H
          obtain ⟨rfl,rfl⟩:=H
          go_wp2
          go_ret2
          exact ⟨_,by first|rfl|(simp [errW_none,errW_some] <;> rfl)|(simp [*,errW_none,errW_some] <;> rfl),by (with_reducible repeat (first|apply Kd.R_alloc|apply Kd.R_drewN|apply Kd.R_drew));exact HO_8.out,by repeat (first|(with_reducible first|exact HB.out|apply bwA|apply bwN|apply bwD)|exact HB.out)⟩
  · rw [if_neg c4] at H
    exact absurd H (by simp)
end Go.Proofs.Ytlogocmojnhpbaa.Print
