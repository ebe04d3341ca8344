-- Packed by a program of this session (slim.py) out of printed texts; not trusted, Lean checks it.
import Derived.Test.YtlogocmojnhpbaaP0
import Derived.Test.YtlogocmojnhpbaaK4
import Derived.Shelf.Abstract
import Derived.Test.YtlogocmojnhpbaaP0
import Derived.WalkKit
import Derived.Deep.RegionHeld3
import Derived.Orders
import Derived.Lib.UnsafeStr
namespace Go.Proofs.Ytlogocmojnhpbaa.Print
open Go.RowKit Go.Proofs.YtlogocmojnhpbaaW.PrintWords Go.Proofs.YtlogocmojnhpbaaW.PrintLast Go.Proofs.YtlogocmojnhpbaaW.PrintMore
attribute [local go_sem] max2_int min2_int max_two min_two max_three min_three max_four min_four
set_option linter.unusedVariables false
set_option linter.unusedSimpArgs false
def impl_in.f (a0:Int) (a1:Int) (a2:Int):Option (Bool):=if a1 ≤ a0 then (some (decide (a0 ≤ a2))) else (some false)
set_option maxHeartbeats 8000000 in
set_option maxRecDepth 100000 in
theorem impl_in.calls (a0:Int) (a1:Int) (a2:Int) (r:Bool) (w:World) (h:impl_in.f a0 a1 a2=some r):
    Calls Try.prog 95 #[.int .i64 a0,.int .i64 a1,.int .i64 a2] w fun e w'=> e= .returned (.bool r) ∧ Drawn0 w w':=by
  have H:(if a1 ≤ a0 then (some (decide (a0 ≤ a2))) else (some false))=some r:=h
  clear h
  by_cases c4:a1 ≤ a0
  · rw [if_pos c4] at H
    have c4b0:decide (a1 ≤ a0)=true:=decide_eq_true c4
    clear c4
    obtain rfl:=Option.some.inj H
    go_enter Try.func95,Try.ntmps95
    go_wp2
    go_ret
    exact ⟨by first|rfl|(simp;done)|(simp [*];done),by repeat (first|exact Drawn0.refl _|apply Drawn0.step)⟩
  · rw [if_neg c4] at H
    have c4b0:decide (a1 ≤ a0)=false:=decide_eq_false c4
    clear c4
    obtain rfl:=Option.some.inj H
    go_enter Try.func95,Try.ntmps95
    go_wp2
    go_ret
    exact ⟨by first|rfl|(simp;done)|(simp [*];done),by repeat (first|exact Drawn0.refl _|apply Drawn0.step)⟩
def impl_FieldOK.f (a0:Int):Option (Bool):=(impl_in.f a0 0 2130706432).bind fun t240=> (some t240)
set_option maxHeartbeats 8000000 in
set_option maxRecDepth 100000 in
theorem impl_FieldOK.calls (a0:Int) (r:Bool) (w:World) (h:impl_FieldOK.f a0=some r):
    Calls Try.prog 154 #[.int .i64 a0] w fun e w'=> e= .returned (.bool r) ∧ Drawn0 w w':=by
  have H:((impl_in.f a0 0 2130706432).bind fun t240=> (some t240))=some r:=h
  clear h
  replace H:=Option.bind_eq_some_iff.mp H
  obtain ⟨t240,A20,H⟩:=H
  replace H:(some t240)=some r:=H
  have A2:=Aside0.mk A20
  clear A20
  obtain rfl:=Option.some.inj H
  go_enter Try.func154,Try.ntmps154
  go_wp2_with (first|((with_reducible refine gate_callee (f:=95) rfl ?_);refine goesL_ (some 4) rfl rfl Try.func95 (by kernel_rfl) rfl #[.int .i64 a0,.int .i64 0,.int .i64 2130706432] rfl (by (try simp only [List.map_toArray,List.map_cons,List.map_nil]);first|done|rfl|(simp only [List.length_drop,List.length_take];rfl)) ?_;(with_reducible refine (impl_in.calls a0 0 2130706432 t240 _ A2.out).mono ?_);rintro e w' ⟨rfl,⟨nd,rfl⟩⟩;refine ⟨_,rfl,?_⟩))
  go_ret
  exact ⟨by first|rfl|(simp;done)|(simp [*];done),by repeat (first|exact Drawn0.refl _|apply Drawn0.step)⟩
def impl_ExtOK.f (a0_0:Int) (a0_1:Int):Option (Bool):=(impl_FieldOK.f a0_0).bind fun t242=> (if t242=true then ((impl_FieldOK.f a0_1).bind fun t243=> (some t243)) else (some false))
set_option maxHeartbeats 8000000 in
set_option maxRecDepth 100000 in
theorem impl_ExtOK.calls (a0_0:Int) (a0_1:Int) (r:Bool) (w:World) (h:impl_ExtOK.f a0_0 a0_1=some r):
    Calls Try.prog 123 #[.agg #[.int .i64 a0_0,.int .i64 a0_1]] w fun e w'=> e= .returned (.bool r) ∧ Below w.heap.size w w':=by
  have hu79:=Try.underlying79
  have HB:=Aside0.mk (Below.refl w.heap.size w)
  have H:((impl_FieldOK.f a0_0).bind fun t242=> (if t242=true then ((impl_FieldOK.f a0_1).bind fun t243=> (some t243)) else (some false)))=some r:=h
  clear h
  replace H:=Option.bind_eq_some_iff.mp H
  obtain ⟨t242,A20,H⟩:=H
  replace H:(if t242=true then ((impl_FieldOK.f a0_1).bind fun t243=> (some t243)) else (some false))=some r:=H
  have A2:=Aside0.mk A20
  clear A20
  by_cases c3:t242=true
  · subst c3
    have H1:((impl_FieldOK.f a0_1).bind fun t243=> (some t243))=some r:=by rw [if_pos rfl] at H;exact H
    clear H
    have H:=H1
    clear H1
    replace H:=Option.bind_eq_some_iff.mp H
    obtain ⟨t243,A40,H⟩:=H
    replace H:(some t243)=some r:=H
    have A4:=Aside0.mk A40
    clear A40
    obtain rfl:=Option.some.inj H
    go_enter Try.func123,Try.ntmps123
    go_wp2_with (first|((with_reducible refine gate_dst (N:=1) rfl ?_);refine box_event ?hg (N:=1) ?hd (cs:= #[.int .i64 a0_0,.int .i64 a0_1]) (t:=79) ?hr ?_;(case hd=> rfl);(case hg=> rfl);(case hr=> first|(go_simp;done)|(go_simp;rfl));intro gb241 hg w5 hbox hb;have n0_:=Aside0.mk (below_step (by repeat (first|(with_reducible first|exact HB.out|apply bwA|apply bwN|apply bwD)|exact HB.out)) hb);have n1_:=Aside0.mk (hbox);have n2_:=Aside0.mk ((by rw [hg];exact (below_size (by repeat (first|(with_reducible first|exact HB.out|apply bwA|apply bwN|apply bwD)|exact HB.out))):w.heap.size ≤ gb241));have n3_:=Aside0.mk ((by rw [hg];exact (below_size (by repeat (first|(with_reducible first|exact HB.out|apply bwA|apply bwN|apply bwD)|exact HB.out))):w.heap.size ≤ gb241));clear HB;have HB:=n0_;have BK241:=n1_;have GW241:=n2_;have GE241:=n3_;clear n0_ n1_ n2_ n3_;clear hb hbox hg;have hcz6_0:w5.cell? ⟨gb241,0,none⟩=some (.int .i64 a0_0):=(blk_cell BK241.out 0).trans rfl;have hcz6_1:w5.cell? ⟨gb241,1,none⟩=some (.int .i64 a0_1):=(blk_cell BK241.out 1).trans rfl;have hfz6_0:=blk_frozen BK241.out 0;have hfz6_1:=blk_frozen BK241.out 1)|((with_reducible refine gate_callee (f:=154) rfl ?_);refine goesL_ (some 5) rfl rfl Try.func154 (by kernel_rfl) rfl #[.int .i64 a0_0] rfl (by (try simp only [List.map_toArray,List.map_cons,List.map_nil]);first|done|rfl|(simp only [List.length_drop,List.length_take];rfl)) ?_;(with_reducible refine (impl_FieldOK.calls a0_0 true _ A2.out).mono ?_);rintro e w' ⟨rfl,⟨nd,rfl⟩⟩;refine ⟨_,rfl,?_⟩)|(go_at_call 154;(with_reducible refine (impl_FieldOK.calls a0_1 t243 _ A4.out).mono ?_);rintro e w' ⟨rfl,⟨nd,rfl⟩⟩))
    go_ret
    exact ⟨by first|rfl|(simp [errW_none,errW_some] <;> rfl)|(simp [*,errW_none,errW_some] <;> rfl),by repeat (first|(with_reducible first|exact HB.out|apply bwA|apply bwN|apply bwD|refine bwS ?_ GE241.out)|exact HB.out)⟩
  · replace c3:=Bool.eq_false_iff.mpr c3
    subst c3
    have H1:(some false)=some r:=by rw [if_neg (show ¬ (false=true) by decide)] at H;exact H
    clear H
    have H:=H1
    clear H1
    obtain rfl:=Option.some.inj H
    go_enter Try.func123,Try.ntmps123
    go_wp2_with (first|((with_reducible refine gate_dst (N:=1) rfl ?_);refine box_event ?hg (N:=1) ?hd (cs:= #[.int .i64 a0_0,.int .i64 a0_1]) (t:=79) ?hr ?_;(case hd=> rfl);(case hg=> rfl);(case hr=> first|(go_simp;done)|(go_simp;rfl));intro gb241 hg w7 hbox hb;have n0_:=Aside0.mk (below_step (by repeat (first|(with_reducible first|exact HB.out|apply bwA|apply bwN|apply bwD)|exact HB.out)) hb);have n1_:=Aside0.mk (hbox);have n2_:=Aside0.mk ((by rw [hg];exact (below_size (by repeat (first|(with_reducible first|exact HB.out|apply bwA|apply bwN|apply bwD)|exact HB.out))):w.heap.size ≤ gb241));have n3_:=Aside0.mk ((by rw [hg];exact (below_size (by repeat (first|(with_reducible first|exact HB.out|apply bwA|apply bwN|apply bwD)|exact HB.out))):w.heap.size ≤ gb241));clear HB;have HB:=n0_;have BK241:=n1_;have GW241:=n2_;have GE241:=n3_;clear n0_ n1_ n2_ n3_;clear hb hbox hg;have hcz8_0:w7.cell? ⟨gb241,0,none⟩=some (.int .i64 a0_0):=(blk_cell BK241.out 0).trans rfl;have hcz8_1:w7.cell? ⟨gb241,1,none⟩=some (.int .i64 a0_1):=(blk_cell BK241.out 1).trans rfl;have hfz8_0:=blk_frozen BK241.out 0;have hfz8_1:=blk_frozen BK241.out 1)|((with_reducible refine gate_callee (f:=154) rfl ?_);refine goesL_ (some 5) rfl rfl Try.func154 (by kernel_rfl) rfl #[.int .i64 a0_0] rfl (by (try simp only [List.map_toArray,List.map_cons,List.map_nil]);first|done|rfl|(simp only [List.length_drop,List.length_take];rfl)) ?_;(with_reducible refine (impl_FieldOK.calls a0_0 false _ A2.out).mono ?_);rintro e w' ⟨rfl,⟨nd,rfl⟩⟩;refine ⟨_,rfl,?_⟩))
    go_ret
    exact ⟨by first|rfl|(simp [errW_none,errW_some] <;> rfl)|(simp [*,errW_none,errW_some] <;> rfl),by repeat (first|(with_reducible first|exact HB.out|apply bwA|apply bwN|apply bwD|refine bwS ?_ GE241.out)|exact HB.out)⟩
end Go.Proofs.Ytlogocmojnhpbaa.Print
namespace Go.Proofs.Ytlogocmojnhpbaa.Print
open Go.RowKit Go.Proofs.YtlogocmojnhpbaaW.PrintWords Go.Proofs.YtlogocmojnhpbaaW.PrintLast
set_option linter.unusedVariables false
set_option linter.unusedSimpArgs false
def SomeIdxExt (b:Bool) (e:Ending):Prop:=∃ i:Int,e= .returned (.int .i64 i) ∧ decide (i ≥ 0)=b
theorem any_take_Ext (p:S79 → Bool) (l0:List (S79)) (kk:Nat) (hk:kk ≤ l0.length) (h:∀ j,j < kk → p (l0.getD j z79)=false) (hn:l0.length ≤ kk):l0.any p=false:=by
  rw [List.any_eq_false]
  intro x hx
  obtain ⟨j,hj,rfl⟩:=List.mem_iff_getElem.1 hx
  have:=h j (by omega)
  rw [List.getD_eq_getElem?_getD,List.getElem?_eq_getElem hj] at this
  simpa using this
theorem any_hit_Ext (p:S79 → Bool) (l0:List (S79)) (kk:Nat) (hk:kk < l0.length) (h:p (l0.getD kk z79)=true):l0.any p=true:=by
  rw [List.any_eq_true]
  refine ⟨l0.getD kk z79,?_,h⟩
  rw [List.getD_eq_getElem?_getD,List.getElem?_eq_getElem hk]
  exact List.getElem_mem hk
set_option maxHeartbeats 4000000 in
theorem idx_Ext.calls (g:Nat) (lb:Array Value) (eg:∀ args w,(callFunc g args).run Try.prog w= .ok (.enter g args) w) (p:S79 → Bool) (A0:Option Addr) (c0:Nat) (l0:List (S79)) (w:World) (hr0:Kd.C k79 w A0 l0.length l0)
    (hp:∀ (W:World) (x:S79),Below w.heap.size w W → Calls Try.prog g (#[.agg #[.int .i64 x.f0,.int .i64 x.f1]] ++ lb) W fun e w'=> e= .returned (.bool (p x)) ∧ Below w.heap.size w w'):
    Calls Try.prog 162 #[.slice A0 l0.length c0,.func (.func g) #[] lb] w fun e w'=> SomeIdxExt (l0.any p) e ∧ Below w.heap.size w w':=by
  have hu:=Try.underlying79
  have HR0:=Aside0.mk hr0
  have hbig:l0.length ≤ 9223372036854775807:=hr0.2.1
  have HP:=Aside0.mk hp
  clear hr0 hp
  go_enter Try.func162,Try.ntmps162
  go_wp2
  go_loopg [5,8] l0.length (fun gg _ s8 wr=> ∃ kk:Nat,kk ≤ l0.length ∧ l0.length - kk ≤ gg ∧ s8= .int .i64 kk ∧ Aside0 (Below w.heap.size w wr) ∧ Aside0 (∀ j,j < kk → p (l0.getD j z79)=false))
  case atStart=> exact ⟨0,Nat.zero_le _,by omega,rfl,⟨Below.refl _ w⟩,⟨fun j hj=> absurd hj (Nat.not_lt_zero _)⟩⟩
  case round=>
    obtain ⟨kk,hkk,hg,rfl,BW,AA⟩:=hrel
    by_cases hlt:kk < l0.length
    · have hltz:(kk:Int) < (l0.length:Int):=by omega
      have h0z:(0:Int) ≤ (kk:Int):=by omega
      obtain ⟨ad,e0,hx0,hx1⟩:=at_T79 HR0.out (kk:Int) h0z hltz
      subst e0
      replace hx0:=(BW.out.cell (World.block_lt_of_cell? w _ hx0)).trans hx0
      replace hx1:=(BW.out.cell (World.block_lt_of_cell? w _ hx1)).trans hx1
      have hcall:=HP.out wr (rd_T79 l0 (kk:Int)) BW.out
      have hsame:Aside0 (rd_T79 l0 (kk:Int)=l0.getD kk z79):=⟨rfl⟩
      generalize hy:rd_T79 l0 (kk:Int)=y at hx0 hx1 hcall hsame
      clear hy
      simp only [Int.toNat_natCast] at hx0 hx1
      cases hq:p y with
      |true=>
        have hq':=Aside0.mk hq
        rw [hq] at hcall
        clear hq
        have HC:=Aside0.mk hcall
        clear hcall
        go_wp2_with (go_at_fn g;refine HC.out.mono ?_;rintro e w' ⟨rfl,hb'⟩)
        go_ret
        exact ⟨⟨_,rfl,by rw [any_hit_Ext p l0 kk hlt (by rw [← hsame.out];exact hq'.out)];simp⟩,hb'⟩
      |false=>
        have hq':=Aside0.mk hq
        rw [hq] at hcall
        clear hq
        have HC:=Aside0.mk hcall
        clear hcall
        go_wp2_with (go_at_fn g;refine HC.out.mono ?_;rintro e w' ⟨rfl,hb'⟩)
        go_roundg (l0.length - (kk + 1))
        case measure=> omega
        case rel=>
          refine ⟨kk + 1,by omega,by omega,by go_num,⟨hb'⟩,⟨fun j hj=> ?_⟩⟩
          by_cases e:j=kk
          · subst e
            rw [← hsame.out];exact hq'.out
          · exact AA.out j (by omega)
    · have hltz:¬ (kk:Int) < (l0.length:Int):=by omega
      have hk:kk=l0.length:=by omega
      have HK:=Aside0.mk hk
      clear hk
      go_wp2
      go_ret
      exact ⟨⟨-1,rfl,by rw [any_take_Ext p l0 kk hkk AA.out (by have:=HK.out;omega)];rfl⟩,BW.out⟩
set_option maxHeartbeats 4000000 in
theorem con_Ext.calls (g:Nat) (lb:Array Value) (eg:∀ args w,(callFunc g args).run Try.prog w= .ok (.enter g args) w) (p:S79 → Bool) (A0:Option Addr) (c0:Nat) (l0:List (S79)) (w:World) (hr0:Kd.C k79 w A0 l0.length l0)
    (hp:∀ (W:World) (x:S79),Below w.heap.size w W → Calls Try.prog g (#[.agg #[.int .i64 x.f0,.int .i64 x.f1]] ++ lb) W fun e w'=> e= .returned (.bool (p x)) ∧ Below w.heap.size w w'):
    Calls Try.prog 152 #[.slice A0 l0.length c0,.func (.func g) #[] lb] w fun e w'=> e= .returned (.bool (l0.any p)) ∧ Below w.heap.size w w':=by
  have HC:=Aside0.mk (idx_Ext.calls g lb eg p A0 c0 l0 w hr0 hp)
  clear hr0 hp
  generalize l0.any p=b at HC ⊢
  go_enter Try.func152,Try.ntmps152
  go_wp2_with (go_at_call 162;refine HC.out.mono ?_;rintro e w' ⟨⟨i,rfl,hi⟩,hb'⟩)
  go_ret
  exact ⟨by subst hi;rfl,hb'⟩
theorem ExtOK_ends (x:S79):∃ b,impl_ExtOK.f x.f0 x.f1=some b:=by
  unfold impl_ExtOK.f impl_FieldOK.f impl_in.f
  by_cases h0:(0:Int) ≤ x.f0 <;> by_cases h1:(0:Int) ≤ x.f1 <;> by_cases h2:x.f0 ≤ 2130706432 <;> simp [h0,h1,h2]
def are_Ext.f (l0:List (S79)):Option Bool:=some (l0.all fun x=> (impl_ExtOK.f x.f0 x.f1).getD false)
set_option maxHeartbeats 4000000 in
theorem are_Ext.closure (B:Nat) (w:World) (hB:B < w.heap.size) (hcell:w.cell? ⟨B,0,none⟩=some (.func (.func 123) #[] #[])) (W:World) (x:S79) (hW:Below w.heap.size w W):
    Calls Try.prog 153 (#[.agg #[.int .i64 x.f0,.int .i64 x.f1]] ++ #[.pointer (some ⟨B,0,none⟩)]) W fun e w'=> e= .returned (.bool (!((impl_ExtOK.f x.f0 x.f1).getD false))) ∧ Below w.heap.size w w':=by
  have hc:W.cell? ⟨B,0,none⟩=some (.func (.func 123) #[] #[]):=(hW.cell (p:=⟨B,0,none⟩) hB).trans hcell
  have hBW:B < W.heap.size:=Nat.lt_of_lt_of_le hB hW.size
  have hne:B ≠ W.heap.size:=by omega
  clear hcell
  obtain ⟨b,hb⟩:=ExtOK_ends x
  rw [hb]
  have HB:=Aside0.mk hb
  clear hb
  have HW:=Aside0.mk hW
  clear hW
  have hu:=Try.underlying79
  show Calls Try.prog 153 #[.agg #[.int .i64 x.f0,.int .i64 x.f1],.pointer (some ⟨B,0,none⟩)] W _
  go_enter Try.func153,Try.ntmps153
  go_wp2_with (go_at_call 123;refine (impl_ExtOK.calls x.f0 x.f1 b _ HB.out).mono ?_;rintro e w' ⟨rfl,hb'⟩)
  go_ret
  exact ⟨rfl,(HW.out.alloc HW.out.size _).trans (hb'.mono (by have:=HW.out.size;simp;omega))⟩
set_option maxHeartbeats 4000000 in
theorem are_Ext.calls (A0:Option Addr) (c0:Nat) (l0:List (S79)) (r:Bool) (w:World) (hr0:Kd.C k79 w A0 l0.length l0) (hc0:l0.length ≤ c0) (h:are_Ext.f l0=some r):
    Calls Try.prog 122 #[.func (.func 123) #[] #[],.slice A0 l0.length c0] w fun e w'=> e= .returned (.bool r) ∧ Below w.heap.size w w':=by
  have er:(l0.any fun x=> !((impl_ExtOK.f x.f0 x.f1).getD false))= !r:=by
    unfold are_Ext.f at h
    rw [← Option.some.inj h]
    rw [Bool.eq_iff_iff]
    simp
  have eg:∀ args w,(callFunc 153 args).run Try.prog w= .ok (.enter 153 args) w:=Go.Proofs.enters_of Try.func153 (by kernel_rfl) rfl
  have HC:=Aside0.mk (con_Ext.calls 153 #[.pointer (some ⟨w.heap.size,0,none⟩)] eg (fun x=> !((impl_ExtOK.f x.f0 x.f1).getD false)) A0 c0 l0 (w.alloc (.cells #[.func (.func 123) #[] #[]] 127)) (Kd.C_below hr0 (bwA (Below.refl _ _) _))
    (fun W x hW=> are_Ext.closure w.heap.size _ (by simp) (by simp) W x hW))
  rw [er] at HC
  clear er hr0 hc0 h
  go_enter Try.func122,Try.ntmps122
  go_wp2_with (go_at_call 152;refine HC.out.mono ?_;rintro e w' ⟨rfl,hb'⟩)
  go_ret
  exact ⟨by simp,(bwA (Below.refl _ _) _).trans (hb'.mono (by simp))⟩
end Go.Proofs.Ytlogocmojnhpbaa.Print
namespace Go.Proofs.Ytlogocmojnhpbaa.Print
open Go.RowKit Go.Proofs.YtlogocmojnhpbaaW.PrintWords Go.Proofs.YtlogocmojnhpbaaW.PrintLast
set_option linter.unusedVariables false
set_option linter.unusedSimpArgs false
def slices_Clone.f (l0:List (S79)):Option (List (S79)):=if l0.length ≤ 1000000 then some l0 else none
theorem k79_KM {w W:World} {base:Nat} {okp:Nat → Prop} (x:S79) (cs:List Value) (h:k79.K w x cs):k79.M W base okp x cs:=by
  rw [k79_open h]
  exact k79_mkM _ _ _ _
set_option maxHeartbeats 8000000 in
set_option maxRecDepth 100000 in
theorem slices_Clone.calls (A0:Option Addr) (c0:Nat) (l0:List (S79)) (r:List (S79)) (w:World) (hr0:Kd.C k79 w A0 l0.length l0) (hc0:l0.length ≤ c0) (h:slices_Clone.f l0=some r):
    Calls Try.prog 124 #[.slice A0 l0.length c0] w fun e w'=> ∃ v0_:Value,e= .returned (v0_) ∧ Kd.R k79 79 w' w.heap.size (fun _=> True) v0_ r ∧ Below w.heap.size w w':=by
  unfold slices_Clone.f at h
  split at h
  · next hl=>
    obtain rfl:=Option.some.inj h
    have hu:=Try.underlying34
    cases A0 with
    |none=>
      have h0:l0.length=0:=by
        rcases Nat.eq_zero_or_pos l0.length with h0|h0
        · exact h0
        · obtain ⟨ad,e,_⟩:=hr0.2.2 h0
          cases e
      have h1:l0= []:=List.eq_nil_of_length_eq_zero h0
      subst h1
      have he:∀ w:World,(binOp .eql 34 (.slice none 0 c0) (.slice none 0 0)).run Try.prog w= .ok (.bool true) w:=fun _=> rfl
      clear hr0 h0 h
      go_enter Try.func124,Try.ntmps124
      go_wp2
      go_ret
      exact ⟨_,rfl,Kd.R_nil _ _ _ _ _,Below.refl _ _⟩
    |some ad=>
      have HR:=Aside0.mk hr0
      clear hr0 h
      obtain ⟨n,hn⟩:∃ n,n=l0.length:=⟨_,rfl⟩
      have HN:=Aside0.mk hn
      rw [← hn] at hc0 hl ⊢
      have he:∀ w:World,(binOp .eql 34 (.slice (some ad) n c0) (.slice none 0 0)).run Try.prog w= .ok (.bool false) w:=fun _=> rfl
      clear hn
      go_enter Try.func124,Try.ntmps124
      go_wp2_with (first
        |((with_reducible refine gate_dst (N:=5) rfl ?_);refine Kd.R_lit k79 _ 79 ?hg (N:=5) ?hd (xs:=([]:List S79)) (inner:= []) (ok:=fun _=> True) (okp:=fun _=> True) ?hr ?hp (fun _ hk=> hk) trivial (Below.refl _ _) (Nat.le_refl _) (by simp) ?_;(case hd=> rfl);(case hg=> rfl);(case hr=> first|(go_simp;done)|(go_simp;rfl));(case hp=> exact (Reps.none _ _));intro v0 w3 ho4 hb hg_ hnew_;clear hg_ hnew_;have n0_:=Aside0.mk ho4;have n1_:=Aside0.mk hb;clear ho4 hb)
        |((with_reducible refine gate_builtin (b:= .append) (xs:= #[.tmp 5,.tmp 6]) rfl ?_);at_builtin;refine Kd.R_append_rows k79 (Rr:=k79.K w) (w0:=w) w.heap.size rfl (.tmp 5) (.tmp 6) 34 79 (.agg #[.int .i64 0,.int .i64 0]) 16 rfl Try.underlying34 info79 rfl (by decide) (by omega) _ ([]:List S79) l0 (some ad) n c0 (fun _=> True) (fun _=> False) rfl rfl ?aO ?aR (fun x cs hx=> k79_KM x cs hx) (fun _ hk=> hk.elim) (fun _ _=> trivial) ?aB ?aS ?aL ?_;(case aO=> exact n0_.out);(case aR=> rw [HN.out];exact (Kd.C_below HR.out n1_.out).imp_ (Below.refl _ _) (fun x cs hx=> by rw [k79_open hx];exact k79_mk _ _));(case aB=> exact n1_.out);(case aS=> exact below_size n1_.out);(case aL=> simp;omega);intro v1 w4 ho hb hg hat;have n2_:=Aside0.mk ho;have n3_:=Aside0.mk hb;clear ho hb hg hat))
      go_ret
      exact ⟨_,rfl,n2_.out,n3_.out⟩
  · cases h
end Go.Proofs.Ytlogocmojnhpbaa.Print
namespace Go.Proofs.Ytlogocmojnhpbaa.Print
open Go.RowKit Go.Proofs.YtlogocmojnhpbaaW.PrintWords Go.Proofs.YtlogocmojnhpbaaW.PrintLast Go.Proofs.YtlogocmojnhpbaaW.PrintMore
attribute [local go_sem] max2_int min2_int max_two min_two max_three min_three max_four min_four
set_option linter.unusedVariables false
set_option linter.unusedSimpArgs false
def impl_Source_copied.f (l0_0:List (S79)) (a0_1:Int) (a0_2:ByteArray) (a0_3:Int):Option ((List (S79)) × Int × ByteArray × Int):=(slices_Clone.f l0_0).bind fun t103=> (some (t103,a0_1,a0_2,a0_3))
set_option maxHeartbeats 8000000 in
set_option maxRecDepth 100000 in
theorem impl_Source_copied.calls (A0_0:Option Addr) (c0_0:Nat) (l0_0:List (S79)) (a0_1:Int) (a0_2:ByteArray) (a0_3:Int) (r1:List (S79)) (r2:Int) (r3:ByteArray) (r4:Int) (w:World) (hr0_0:Kd.C k79 w A0_0 l0_0.length l0_0) (hc0_0:l0_0.length ≤ c0_0) (h:impl_Source_copied.f l0_0 a0_1 a0_2 a0_3=some (r1,r2,r3,r4)):
    Calls Try.prog 127 #[.agg #[.slice A0_0 l0_0.length c0_0,.int .i64 a0_1,.string a0_2,.int .i64 a0_3]] w fun e w'=> ∃ v0_:Value,e= .returned (.agg #[v0_,.int .i64 r2,.string r3,.int .i64 r4]) ∧ Kd.R k79 79 w' w.heap.size (fun _=> True) v0_ r1 ∧ Below w.heap.size w w':=by
  have hu36:=Try.underlying36
  have HR0_0:=Aside0.mk hr0_0
  have HC0_0:=Aside0.mk hc0_0
  clear hr0_0 hc0_0
  have HB:=Aside0.mk (Below.refl w.heap.size w)
  have H:((slices_Clone.f l0_0).bind fun t103=> (some (t103,a0_1,a0_2,a0_3)))=some (r1,r2,r3,r4):=h
  clear h
  replace H:=Option.bind_eq_some_iff.mp H
  obtain ⟨t103,A20,H⟩:=H
  replace H:(some (t103,a0_1,a0_2,a0_3))=some (r1,r2,r3,r4):=H
  have A2:=Aside0.mk A20
  clear A20
  simp only [Option.some.injEq,Prod.mk.injEq] at H
  obtain ⟨rfl,rfl,rfl,rfl⟩:=H
  go_enter Try.func127,Try.ntmps127
  go_wp2_with (first|((with_reducible refine gate_dst (N:=1) rfl ?_);refine box_event ?hg (N:=1) ?hd (cs:= #[.slice A0_0 l0_0.length c0_0,.int .i64 a0_1,.string a0_2,.int .i64 a0_3]) (t:=36) ?hr ?_;(case hd=> rfl);(case hg=> rfl);(case hr=> first|(go_simp;done)|(go_simp;rfl));intro gb101 hg w3 hbox hb;have n0_:=Aside0.mk (below_step (by repeat (first|(with_reducible first|exact HB.out|apply bwA|apply bwN|apply bwD)|exact HB.out)) hb);have n1_:=Aside0.mk (hbox);have n2_:=Aside0.mk ((by rw [hg];exact (below_size (by repeat (first|(with_reducible first|exact HB.out|apply bwA|apply bwN|apply bwD)|exact HB.out))):w.heap.size ≤ gb101));have n3_:=Aside0.mk ((by rw [hg];exact (below_size (by repeat (first|(with_reducible first|exact HB.out|apply bwA|apply bwN|apply bwD)|exact HB.out))):w.heap.size ≤ gb101));clear HB;have HB:=n0_;have BK101:=n1_;have GW101:=n2_;have GE101:=n3_;clear n0_ n1_ n2_ n3_;clear hb hbox hg)|((with_reducible refine gate_dst (N:=2) rfl ?_);refine box_event ?hg (N:=2) ?hd (cs:= #[.slice none 0 0,.int .i64 0,.string (⟨#[]⟩:ByteArray),.int .i64 0]) (t:=36) ?hr ?_;(case hd=> rfl);(case hg=> rfl);(case hr=> first|(go_simp;done)|(go_simp;rfl));intro gb102 hg w4 hbox hb;have n0_:=Aside0.mk (blk_below (g:=gb101) (o:= .cells #[.slice A0_0 l0_0.length c0_0,.int .i64 a0_1,.string a0_2,.int .i64 a0_3] 36 (0,0)) (by (with_reducible repeat (first|apply bN|apply bd|apply bA));exact BK101.out) hb);have n1_:=Aside0.mk (below_step (by repeat (first|(with_reducible first|exact HB.out|apply bwA|apply bwN|apply bwD|refine bwS ?_ GE101.out)|exact HB.out)) hb);have n2_:=Aside0.mk (hbox);have n3_:=Aside0.mk ((by rw [hg];exact (below_size (by repeat (first|(with_reducible first|exact HB.out|apply bwA|apply bwN|apply bwD|refine bwS ?_ GE101.out)|exact HB.out))):w.heap.size ≤ gb102));have n4_:=Aside0.mk ((by rw [hg];exact (below_size (by repeat (first|(with_reducible first|exact HB.out|apply bwA|apply bwN|apply bwD|refine bwS ?_ GE101.out)|exact HB.out))):w.heap.size ≤ gb102));have n5_:=Aside0.mk ((by rw [hg];exact Nat.ne_of_lt (blk_lt (g:=gb101) (o:= .cells #[.slice A0_0 l0_0.length c0_0,.int .i64 a0_1,.string a0_2,.int .i64 a0_3] 36 (0,0)) (by (with_reducible repeat (first|apply bN|apply bd|apply bA));exact BK101.out)):gb101 ≠ gb102));have n6_:=Aside0.mk ((by rw [hg];exact Nat.ne_of_gt (blk_lt (g:=gb101) (o:= .cells #[.slice A0_0 l0_0.length c0_0,.int .i64 a0_1,.string a0_2,.int .i64 a0_3] 36 (0,0)) (by (with_reducible repeat (first|apply bN|apply bd|apply bA));exact BK101.out)):gb102 ≠ gb101));clear BK101;clear HB;have BK101:=n0_;have HB:=n1_;have BK102:=n2_;have GW102:=n3_;have GE102:=n4_;have NB101_102:=n5_;have NB102_101:=n6_;clear n0_ n1_ n2_ n3_ n4_ n5_ n6_;clear hb hbox hg;have hnb5:=NB101_102.out;have hnc5:=NB102_101.out;have hcz6_0:w4.cell? ⟨gb101,0,none⟩=some (.slice A0_0 l0_0.length c0_0):=(blk_cell BK101.out 0).trans rfl;have hcz6_1:w4.cell? ⟨gb101,1,none⟩=some (.int .i64 a0_1):=(blk_cell BK101.out 1).trans rfl;have hcz6_2:w4.cell? ⟨gb101,2,none⟩=some (.string a0_2):=(blk_cell BK101.out 2).trans rfl;have hcz6_3:w4.cell? ⟨gb101,3,none⟩=some (.int .i64 a0_3):=(blk_cell BK101.out 3).trans rfl;have hfz6_0:=blk_frozen BK101.out 0;have hfz6_1:=blk_frozen BK101.out 1;have hfz6_2:=blk_frozen BK101.out 2;have hfz6_3:=blk_frozen BK101.out 3)|((with_reducible refine gate_callee (f:=124) rfl ?_);refine goesL_ (some 5) rfl rfl Try.func124 (by kernel_rfl) rfl #[.slice A0_0 l0_0.length c0_0] rfl (by (try simp only [List.map_toArray,List.map_cons,List.map_nil]);first|done|rfl|(simp only [List.length_drop,List.length_take];rfl)) ?_;(with_reducible refine (slices_Clone.calls _ _ l0_0 t103 _ ?side1 ?side2 A2.out).mono ?_);(case side1=> repeat (first|exact (Kd.C_below HR0_0.out HB.out)|(with_reducible refine Kd.C_alloc ?_ _)|(with_reducible refine Kd.C_drewN ?_ _)|(with_reducible refine Kd.C_drew ?_)));(case side2=> exact HC0_0.out);rintro e w7 ⟨v104,rfl,ho0,hb⟩;refine ⟨_,rfl,?_⟩;have n0_:=Aside0.mk (Kd.R_lower ho0 (below_size (by repeat (first|(with_reducible first|exact HB.out|apply bwA|apply bwN|apply bwD|refine bwS ?_ GE101.out|refine bwS ?_ GE102.out)|exact HB.out))));have n1_:=Aside0.mk (blk_below (g:=gb101) (o:= .cells #[.slice A0_0 l0_0.length c0_0,.int .i64 a0_1,.string a0_2,.int .i64 a0_3] 36 (0,0)) (by (with_reducible repeat (first|apply bN|apply bd|apply bA));exact BK101.out) hb);have n2_:=Aside0.mk (blk_below (g:=gb102) (o:= .cells #[.slice none 0 0,.int .i64 0,.string (⟨#[]⟩:ByteArray),.int .i64 0] 36 (0,0)) (by (with_reducible repeat (first|apply bN|apply bd|apply bA));exact BK102.out) hb);have n3_:=Aside0.mk (below_step (by repeat (first|(with_reducible first|exact HB.out|apply bwA|apply bwN|apply bwD|refine bwS ?_ GE101.out|refine bwS ?_ GE102.out)|exact HB.out)) hb);clear BK101;clear BK102;clear HB;have HO105:=n0_;have BK101:=n1_;have BK102:=n2_;have HB:=n3_;clear n0_ n1_ n2_ n3_;(try clear hb);(try clear hb2);(try clear hk);(try clear hi);(try clear ho0);obtain ⟨Ao8,co8,eo8⟩:=Kd.R_slice HO105.out;subst eo8;have hcz9_0:w7.cell? ⟨gb101,0,none⟩=some (.slice A0_0 l0_0.length c0_0):=(blk_cell BK101.out 0).trans rfl;have hcz9_1:w7.cell? ⟨gb101,1,none⟩=some (.int .i64 a0_1):=(blk_cell BK101.out 1).trans rfl;have hcz9_2:w7.cell? ⟨gb101,2,none⟩=some (.string a0_2):=(blk_cell BK101.out 2).trans rfl;have hcz9_3:w7.cell? ⟨gb101,3,none⟩=some (.int .i64 a0_3):=(blk_cell BK101.out 3).trans rfl;have hfz9_0:=blk_frozen BK101.out 0;have hfz9_1:=blk_frozen BK101.out 1;have hfz9_2:=blk_frozen BK101.out 2;have hfz9_3:=blk_frozen BK101.out 3;have hcz10_0:w7.cell? ⟨gb102,0,none⟩=some (.slice none 0 0):=(blk_cell BK102.out 0).trans rfl;have hcz10_1:w7.cell? ⟨gb102,1,none⟩=some (.int .i64 0):=(blk_cell BK102.out 1).trans rfl;have hcz10_2:w7.cell? ⟨gb102,2,none⟩=some (.string (⟨#[]⟩:ByteArray)):=(blk_cell BK102.out 2).trans rfl;have hcz10_3:w7.cell? ⟨gb102,3,none⟩=some (.int .i64 0):=(blk_cell BK102.out 3).trans rfl;have hfz10_0:=blk_frozen BK102.out 0;have hfz10_1:=blk_frozen BK102.out 1;have hfz10_2:=blk_frozen BK102.out 2;have hfz10_3:=blk_frozen BK102.out 3))
  refine bodyPost_ret (results_cell_row rfl _ _ gb102 36 #[.slice Ao8 t103.length co8,.int .i64 a0_1,.string a0_2,.int .i64 a0_3] (0,0) _ rfl (by (with_reducible repeat (first|apply bN|apply bd|apply bA));refine blk_put (cs:= #[.slice Ao8 t103.length co8,.int .i64 a0_1,.string a0_2,.int .i64 0]) ?_ 3 _ rfl;(with_reducible repeat (first|apply bN|apply bd|apply bA));refine blk_put (cs:= #[.slice Ao8 t103.length co8,.int .i64 a0_1,.string (⟨#[]⟩:ByteArray),.int .i64 0]) ?_ 2 _ rfl;(with_reducible repeat (first|apply bN|apply bd|apply bA));refine blk_put (cs:= #[.slice Ao8 t103.length co8,.int .i64 0,.string (⟨#[]⟩:ByteArray),.int .i64 0]) ?_ 1 _ rfl;(with_reducible repeat (first|apply bN|apply bd|apply bA));refine blk_put (cs:= #[.slice none 0 0,.int .i64 0,.string (⟨#[]⟩:ByteArray),.int .i64 0]) ?_ 0 _ rfl;(with_reducible repeat (first|apply bN|apply bd|apply bA));refine blk_far ?_ NB102_101.out _;(with_reducible repeat (first|apply bN|apply bd|apply bA));exact BK102.out) Try.underlying36 rfl (by kernel_rfl)) rfl ?_
  exact ⟨_,by first|rfl|(simp [errW_none,errW_some] <;> rfl)|(simp [*,errW_none,errW_some] <;> rfl),by (with_reducible repeat (first|apply Kd.R_alloc|apply Kd.R_drewN|apply Kd.R_drew));exact Kd.R_mono (Kd.R_far (p:=⟨gb102,3,none⟩) (Kd.R_far (p:=⟨gb102,2,none⟩) (Kd.R_far (p:=⟨gb102,1,none⟩) (Kd.R_far (p:=⟨gb102,0,none⟩) (Kd.R_far (p:=⟨gb101,0,none⟩) (Kd.R_types (Kd.R_types HO105.out BK101.out (by decide)) BK102.out (by decide)) (fun _ hk=> hk.1.2) (.slice Ao8 t103.length co8)) (fun _ hk=> hk.2) (.slice Ao8 t103.length co8)) (fun _ hk=> hk.2) (.int .i64 a0_1)) (fun _ hk=> hk.2) (.string a0_2)) (fun _ hk=> hk.2) (.int .i64 a0_3)) (fun _ hk=> trivial),by repeat (first|(with_reducible first|exact HB.out|apply bwA|apply bwN|apply bwD|refine bwS ?_ GE101.out|refine bwS ?_ GE102.out)|exact HB.out)⟩
end Go.Proofs.Ytlogocmojnhpbaa.Print
namespace Go.Proofs.Ytlogocmojnhpbaa.Print
open Go.RowKit Go.Proofs.YtlogocmojnhpbaaW.PrintWords Go.Proofs.YtlogocmojnhpbaaW.PrintLast
set_option linter.unusedVariables false
set_option linter.unusedSimpArgs false
section
variable {W W1:World} {p:Addr} {v:Value} {g cap base:Nat} {xs:List Int}
theorem keep_alloc (h:W.cell? p=some v) (o:Obj):(W.alloc o).cell? p=some v:=(World.cell?_of_block ((bwA (Below.refl W.heap.size W) o).block _ (World.block_lt_of_cell? W _ h))).trans h
theorem keep_bytes (h:W.cell? p=some v) (e:TypeId) (s:ByteArray):(Lib.bytesWorld W e s).cell? p=some v:=(Lib.bytesWorld_old W e s p (World.block_lt_of_cell? W _ h)).trans h
theorem keep_below (h:W.cell? p=some v) (hb:Below W.heap.size W W1):W1.cell? p=some v:=(World.cell?_of_block (hb.block _ (World.block_lt_of_cell? W _ h))).trans h
theorem MRow.bytes (h:MRow W g cap xs) (e:TypeId) (s:ByteArray):MRow (Lib.bytesWorld W e s) g cap xs:=h.step (Lib.bytesWorld_at_old W e s g h.lt)
theorem MRow.of_lit (W:World) (xs:List Int) (hm:xs.length ≤ 1000):MRow (W.alloc (.cells (nums .u8 xs).toArray 5)) W.heap.size xs.length xs:=
  ⟨(nums .u8 xs).toArray,(0,0),blk_new _ _,.inr rfl,Nat.le_refl _,by unfold maxLen;omega,by simp [nums],List.take_of_length_le (by simp [nums])⟩
theorem below_bytes {B:Nat} {w:World} (h:Below B w W) (hB:B ≤ W.heap.size) (e:TypeId) (s:ByteArray):Below B w (Lib.bytesWorld W e s):=bytes_below h hB e s
def PRow (W:World) (v:Value) (xs:List Int):Prop:=∃ A c,v= .slice A xs.length c ∧ xs.length ≤ c ∧ (Kd.int .u8).C W A xs.length xs
theorem PRow.step {v:Value} (h:PRow W v xs) (hb:Below W.heap.size W W1):PRow W1 v xs:=by
  obtain ⟨A,c,e,hc,hC⟩:=h
  exact ⟨A,c,e,hc,Kd.C_below hC hb⟩
theorem PRow.alloc {v:Value} (h:PRow W v xs) (o:Obj):PRow (W.alloc o) v xs:=h.step (bwA (Below.refl _ _) o)
theorem PRow.bytes {v:Value} (h:PRow W v xs) (e:TypeId) (s:ByteArray):PRow (Lib.bytesWorld W e s) v xs:=h.step (bytes_below (Below.refl _ _) (Nat.le_refl _) e s)
theorem PRow.of_M (h:MRow W g cap xs) {n:Nat} (hn:n=xs.length):PRow W (.slice (some ⟨g,0,none⟩) n cap) xs:=by
  subst hn
  obtain ⟨cur,fz,h1,h2,h3,_⟩:=h
  exact ⟨_,_,rfl,h3,MRow.reads ⟨cur,fz,h1,h2,h3,by assumption⟩⟩
theorem PRow.of_bytes (W:World) (s:ByteArray) (hs:s.size ≤ 9223372036854775807):PRow (Lib.bytesWorld W 5 s) (.slice (some ⟨W.heap.size,0,none⟩) s.size (grownCap W s.size 0 5)) (bytesOf s):=PRow.of_M (MRow.of_bytes W s hs) (bytesOf_length s).symm
theorem PRow.of_lit (W:World) (xs:List Int) (cells:Array Value) (n:Nat) (hc:cells=(nums .u8 xs).toArray) (hn:n=xs.length) (hm:xs.length ≤ 1000):PRow (W.alloc (.cells cells 5)) (.slice (some ⟨W.heap.size,0,none⟩) n n) xs:=by
  subst hc hn
  exact PRow.of_M (MRow.of_lit W xs hm) rfl
theorem PRow.of_R {v:Value} {e:Nat} {ok:Nat → Prop} (h:(Kd.int .u8).R e W base ok v xs):PRow W v xs:=by
  obtain ⟨A,c,he,hc,hC⟩:=Kd.R_reads h
  exact ⟨A,c,he,hc,hC⟩
theorem pieces3 {v0 v1 v2:Value} {x0 x1 x2:List Int} (h0:PRow W v0 x0) (h1:PRow W v1 x1) (h2:PRow W v2 x2):(Kd.slice 5 (Kd.int .u8)).C (W.alloc (.cells #[v0,v1,v2] 25)) (some ⟨W.heap.size,0,none⟩) 3 [x0,x1,x2]:=by
  refine pieces_C _ _ [v0,v1,v2] [x0,x1,x2] (blk_new _ _) rfl (by simp) ?_
  intro j v xs hv hx
  match j with
  |0=>
    obtain rfl:v0=v:=by simpa using hv
    obtain rfl:x0=xs:=by simpa using hx
    exact h0.alloc _
  |1=>
    obtain rfl:v1=v:=by simpa using hv
    obtain rfl:x1=xs:=by simpa using hx
    exact h1.alloc _
  |2=>
    obtain rfl:v2=v:=by simpa using hv
    obtain rfl:x2=xs:=by simpa using hx
    exact h2.alloc _
  |j + 3=> simp at hv
theorem pieces4 {v0 v1 v2 v3:Value} {x0 x1 x2 x3:List Int} (h0:PRow W v0 x0) (h1:PRow W v1 x1) (h2:PRow W v2 x2) (h3:PRow W v3 x3):(Kd.slice 5 (Kd.int .u8)).C (W.alloc (.cells #[v0,v1,v2,v3] 25)) (some ⟨W.heap.size,0,none⟩) 4 [x0,x1,x2,x3]:=by
  refine pieces_C _ _ [v0,v1,v2,v3] [x0,x1,x2,x3] (blk_new _ _) rfl (by simp) ?_
  intro j v xs hv hx
  match j with
  |0=>
    obtain rfl:v0=v:=by simpa using hv
    obtain rfl:x0=xs:=by simpa using hx
    exact h0.alloc _
  |1=>
    obtain rfl:v1=v:=by simpa using hv
    obtain rfl:x1=xs:=by simpa using hx
    exact h1.alloc _
  |2=>
    obtain rfl:v2=v:=by simpa using hv
    obtain rfl:x2=xs:=by simpa using hx
    exact h2.alloc _
  |3=>
    obtain rfl:v3=v:=by simpa using hv
    obtain rfl:x3=xs:=by simpa using hx
    exact h3.alloc _
  |j + 4=> simp at hv
theorem kCat3 (x0 x1 x2:List Int):kCat [x0,x1,x2] 3=x0 ++ x1 ++ x2:=by simp [kCat]
theorem kCat4 (x0 x1 x2 x3:List Int):kCat [x0,x1,x2,x3] 4=x0 ++ x1 ++ x2 ++ x3:=by simp [kCat]
end
end Go.Proofs.Ytlogocmojnhpbaa.Print
namespace Go.Proofs.Ytlogocmojnhpbaa.Print
open Go Go.RowKit Go.Proofs.YtlogocmojnhpbaaW.PrintWords Go.Proofs.YtlogocmojnhpbaaW.PrintLast
set_option linter.unusedVariables false
set_option linter.unusedSimpArgs false
section
variable {P:Program} {ops:Array Oper} {Q:Exit → Act → World → Prop} {md:Region.Mode}
def openOf (listed:Array Bool):Nat:=(listed.toList.filter (!·)).length
theorem openOf_set {listed:Array Bool} {i:Nat} (h:listed.getD i true=false):openOf (listed.setIfInBounds i true) + 1=openOf listed:=by
  obtain ⟨l⟩:=listed
  unfold openOf
  have h1:l[i]?=some false:=by
    simp only [Array.getD_eq_getD_getElem?,List.getElem?_toArray] at h
    cases e:l[i]? with
    |none=> rw [e] at h;simp at h
    |some b=> rw [e] at h;simp at h;rw [h]
  simp only [List.setIfInBounds_toArray]
  clear h
  induction l generalizing i with
  |nil=> simp at h1
  |cons b l ih=>
    cases i with
    |zero=>
      have:b=false:=by simpa using h1
      subst this
      simp
    |succ i=>
      have:=ih (i:=i) (by simpa using h1)
      cases b <;> simp_all
def aheadOf (md:Region.Mode) (ops:Array Oper):Bool:=(List.range ops.size).all fun j=> ((ops[j]?).map fun o=> o.after.all fun e=> !Region.binds md e||decide (e.on < j)).getD true
theorem ready_some (ha:aheadOf md ops=true) {listed:Array Bool} (hs:listed.size=ops.size) (ho:openOf listed ≠ 0):Region.ready md ops listed ≠ []:=by
  have hex:∃ j,listed.getD j true=false:=by
    obtain ⟨l⟩:=listed
    unfold openOf at ho
    obtain ⟨b,hb⟩:=List.exists_mem_of_length_pos (Nat.pos_of_ne_zero ho)
    have hb2:=List.mem_filter.1 hb
    obtain ⟨j,hj,e⟩:=List.mem_iff_getElem.1 hb2.1
    refine ⟨j,?_⟩
    have:b=false:=by simpa using hb2.2
    subst this
    simp [Array.getD_eq_getD_getElem?,List.getElem?_eq_getElem hj,e]
  have key:∀ n j,j ≤ n → listed.getD j true=false → ∃ k,k ∈ Region.ready md ops listed:=by
    intro n
    induction n with
    |zero=>
      intro j hj h
      obtain rfl:j=0:=by omega
      have hlt:0 < ops.size:=by
        rw [← hs]
        rcases Nat.lt_or_ge 0 listed.size with g|g
        · exact g
        · rw [Array.getD_eq_getD_getElem?,Array.getElem?_eq_none (by omega)] at h
          simp at h
      refine ⟨0,mem_ready.2 ⟨h,ops[0],Array.getElem?_eq_getElem hlt,fun e he hb=> ?_⟩⟩
      have:=List.all_eq_true.1 ha 0 (List.mem_range.2 hlt)
      rw [Array.getElem?_eq_getElem hlt,Option.map_some,Option.getD_some] at this
      have:=Array.all_eq_true_iff_forall_mem.1 this e he
      rw [hb] at this
      simp at this
    |succ n ih=>
      intro j hj h
      have hlt:j < ops.size:=by
        rw [← hs]
        rcases Nat.lt_or_ge j listed.size with g|g
        · exact g
        · rw [Array.getD_eq_getD_getElem?,Array.getElem?_eq_none (by omega)] at h
          simp at h
      by_cases hall:∀ k,k < j → listed.getD k false=true
      · refine ⟨j,mem_ready.2 ⟨h,ops[j],Array.getElem?_eq_getElem hlt,fun e he hb=> ?_⟩⟩
        have:=List.all_eq_true.1 ha j (List.mem_range.2 hlt)
        rw [Array.getElem?_eq_getElem hlt,Option.map_some,Option.getD_some] at this
        have:=Array.all_eq_true_iff_forall_mem.1 this e he
        rw [hb] at this
        simp at this
        exact hall _ this
      · obtain ⟨k,hk⟩:=Classical.not_forall.1 hall
        have hk1:k < j:=Classical.byContradiction fun g=> hk (fun g'=> absurd g' g)
        have hk2:listed.getD k false ≠ true:=fun g=> hk (fun _=> g)
        refine ih k (by omega) ?_
        have hks:k < listed.size:=by omega
        simp only [Array.getD_eq_getD_getElem?,Array.getElem?_eq_getElem hks,Option.getD_some] at hk2 ⊢
        simpa using hk2
  obtain ⟨j,hj⟩:=hex
  obtain ⟨k,hk⟩:=key j j (Nat.le_refl _) hj
  intro e
  rw [e] at hk
  cases hk
theorem wpAny_inv (ha:aheadOf md ops=true) (J:Array Bool → Act → World → Prop)
    (step:∀ (listed:Array Bool) (a:Act) (w:World) (i:Nat),listed.size=ops.size → i ∈ Region.ready md ops listed → J listed a w → wpOp P ops Q i (J (listed.setIfInBounds i true)) a w)
    (last:∀ (listed:Array Bool) (a:Act) (w:World),listed.size=ops.size → openOf listed=0 → J listed a w → Q .normal a w):
    ∀ (fuel:Nat) (listed:Array Bool) (a:Act) (w:World),listed.size=ops.size → openOf listed ≤ fuel → J listed a w → wpAny P md ops Q fuel listed a w:=by
  intro fuel
  induction fuel with
  |zero=>
    intro listed a w hs ho hJ
    refine ⟨?_,last listed a w hs (by omega) hJ⟩
    cases e:Region.ready md ops listed with
    |nil=> rfl
    |cons x xs=>
      have hx:x ∈ Region.ready md ops listed:=by rw [e];exact List.mem_cons_self
      have:=openOf_set (mem_ready.1 hx).1
      omega
  |succ fuel ih=>
    intro listed a w hs ho hJ
    refine ⟨fun e=> ?_,fun i hi=> ?_⟩
    · refine last listed a w hs ?_ hJ
      exact Classical.byContradiction fun g=> ready_some (md:=md) ha hs g e
    · have h1:=openOf_set (mem_ready.1 hi).1
      exact wpOp_mono (fun a' w' hJ'=> ih _ a' w' (by simpa using hs) (by omega) hJ') (step listed a w i hs hi hJ)
def upd (v:Nat → Value) (k:Nat) (x:Value):Nat → Value:=fun j=> if j=k then x else v j
theorem upd_self (v:Nat → Value) (k:Nat) (x:Value):upd v k x k=x:=by simp [upd]
theorem upd_ne (v:Nat → Value) {k j:Nat} (x:Value) (h:j ≠ k):upd v k x j=v j:=by simp [upd,h]
def Closed (md:Region.Mode) (ops:Array Oper) (listed:Array Bool):Prop:=∀ (j:Nat) (o:Oper) (e:Edge),ops[j]?=some o → listed.getD j false=true → e ∈ o.after → Region.binds md e=true → listed.getD e.on false=true
theorem openOf_false {listed:Array Bool} (h:openOf listed=0) (k:Nat) (hk:k < listed.size):listed.getD k false=true:=by
  obtain ⟨l⟩:=listed
  have hk':k < l.length:=by simpa using hk
  unfold openOf at h
  have h1:l.filter (!·)= []:=List.eq_nil_of_length_eq_zero h
  have h2:=List.filter_eq_nil_iff.1 h1 l[k] (List.getElem_mem hk')
  simp [Array.getD_eq_getD_getElem?,List.getElem?_eq_getElem hk']
  simpa using h2
theorem region_facts {id:Nat} (hm:P.follows .mixedOrders=true) (ha:aheadOf .any ops=true) (frm:(Nat → Value) → Act) (F:Nat → Value → World → Prop) (I:Array Bool → World → Prop) (G:World → World → Prop) (v0:Nat → Value) (w0:World)
    (mono:∀ k x w w',F k x w → G w w' → F k x w')
    (start:I (Array.replicate ops.size false) w0.drew)
    (step:∀ (listed:Array Bool) (k:Nat) (o:Oper) (v:Nat → Value) (w:World),ops[k]?=some o → listed.size=ops.size → listed.getD k false=false → Closed .any ops listed → (∀ e ∈ o.after,Region.binds .any e=true → listed.getD e.on false=true ∧ F e.on (v e.on) w) → I listed w →
      wpOp P ops Q k (fun a' w'=> ∃ x,a'=frm (upd v k x) ∧ F k x w' ∧ G w w' ∧ I (listed.setIfInBounds k true) w') (frm v) w)
    (last:∀ (listed:Array Bool) (v:Nat → Value) (w:World),(∀ k,k < ops.size → listed.getD k false=true) → I listed w → (∀ k,k < ops.size → F k (v k) w) → Q .normal (frm v) w):
    (Code.region id ops true).wp P Q (frm v0) w0:=by
  refine wp_region_any hm ?_
  refine wpAny_inv ha (fun listed a w=> ∃ v,a=frm v ∧ I listed w ∧ Closed .any ops listed ∧ ∀ k,listed.getD k false=true → F k (v k) w) ?_ ?_ ops.size _ _ _ (by simp) (by unfold openOf;exact Nat.le_trans (List.length_filter_le _ _) (by simp)) ?_
  · rintro listed a w i hs hi ⟨v,rfl,hI,hC,hF⟩
    obtain ⟨h0,o,ho,hd⟩:=mem_ready.1 hi
    have hlt:i < listed.size:=by rw [hs];exact (Array.getElem?_eq_some_iff.1 ho).1
    have h0':listed.getD i false=false:=by
      simp only [Array.getD_eq_getD_getElem?,Array.getElem?_eq_getElem hlt,Option.getD_some] at h0 ⊢
      exact h0
    refine wpOp_mono ?_ (step listed i o v w ho hs h0' hC (fun e he hb=> ⟨hd e he hb,hF _ (hd e he hb)⟩) hI)
    rintro a' w' ⟨x,rfl,hx,hg,hI'⟩
    refine ⟨_,rfl,hI',?_,fun k hk=> ?_⟩
    · intro j o' e hj hl he hb
      by_cases e1:e.on=i
      · rw [e1]
        simp [Array.getD_eq_getD_getElem?,Array.getElem?_setIfInBounds_self_of_lt hlt]
      · rw [getD_set_ne false (fun h=> e1 h.symm)]
        by_cases e2:j=i
        · subst e2
          rw [ho] at hj
          cases hj
          exact hd e he hb
        · rw [getD_set_ne false (fun h=> e2 h.symm)] at hl
          exact hC j o' e hj hl he hb
    · by_cases e1:k=i
      · subst e1
        rw [upd_self]
        exact hx
      · rw [getD_set_ne false (fun h=> e1 h.symm)] at hk
        rw [upd_ne _ _ e1]
        exact mono _ _ _ _ (hF k hk) hg
  · rintro listed a w hs ho ⟨v,rfl,hI,hC,hF⟩
    have hall:∀ k,k < ops.size → listed.getD k false=true:=fun k hk=> openOf_false ho k (by omega)
    exact last listed v w hall hI (fun k hk=> hF k (hall k hk))
  · refine ⟨v0,rfl,start,?_,?_⟩
    · intro j o e hj hl
      simp [Array.getD_eq_getD_getElem?,Array.getElem?_replicate] at hl
      split at hl <;> simp at hl
    · intro k hl
      simp [Array.getD_eq_getD_getElem?,Array.getElem?_replicate] at hl
      split at hl <;> simp at hl
theorem wpOp_value {i:Nat} {o:Oper} {a:Act} {w w':World} {K:Act → World → Prop} {v:Value} (hi:ops[i]?=some o) (hg:o.guard=none) (hrun:(execOp a.eval o).run P w= .ok (.value v) w') (h:K (a.put o.dst v) w'):wpOp P ops Q i K a w:=by
  unfold wpOp
  rw [hi]
  have hw:Region.wanted o (yielded ops a.tmps)=true:=by simp [Region.wanted,hg]
  simp only [hw,if_true]
  refine .inl ?_
  unfold Oper.wp
  rw [hrun,Oper.upon_value]
  exact h
theorem wpOp_skip {i:Nat} {o:Oper} {a:Act} {w w':World} {K:Act → World → Prop} (hi:ops[i]?=some o) (hg:o.guard=none) (hd:o.dst=none) (hrun:(execOp a.eval o).run P w= .ok .skip w') (h:K a w'):wpOp P ops Q i K a w:=by
  unfold wpOp
  rw [hi]
  have hw:Region.wanted o (yielded ops a.tmps)=true:=by simp [Region.wanted,hg]
  simp only [hw,if_true]
  refine .inl ?_
  unfold Oper.wp
  rw [hrun,Oper.upon_skip,hd]
  exact h
theorem wpOp_call {i:Nat} {o:Oper} {a:Act} {w:World} {K:Act → World → Prop} {f:FuncId} {args:Array Value} {Post:Ending → World → Prop} (hi:ops[i]?=some o) (hg:o.guard=none) (hrun:(execOp a.eval o).run P w= .ok (.enter f args) w) (hc:Calls P f args w Post)
    (h:∀ e w1,Post e w1 → ∃ v,e= .returned v ∧ K (a.put o.dst v) w1):wpOp P ops Q i K a w:=by
  unfold wpOp
  rw [hi]
  have hw:Region.wanted o (yielded ops a.tmps)=true:=by simp [Region.wanted,hg]
  simp only [hw,if_true]
  refine .inl ?_
  unfold Oper.wp
  rw [hrun,Oper.upon_enter]
  refine hc.mono fun e w1 hp=> ?_
  obtain ⟨v,rfl,hk⟩:=h e w1 hp
  exact hk
end
def Grow (w w':World):Prop:=∀ (p:Addr) (u:Value),w.cell? p=some u → w'.cell? p=some u
theorem Grow.refl (w:World):Grow w w:=fun _ _ h=> h
theorem Grow.of_below {w w1:World} (hb:Below w.heap.size w w1):Grow w w1:=fun _ _ h=> keep_below h hb
theorem Grow.alloc (w:World) (o:Obj):Grow w (w.alloc o):=fun _ _ h=> keep_alloc h o
theorem Grow.bytes (w:World) (e:TypeId) (s:ByteArray):Grow w (Lib.bytesWorld w e s):=fun _ _ h=> keep_bytes h e s
theorem cell_freeze (w:World) (p q:Addr) (n:Nat):(w.freeze p n).cell? q=w.cell? q:=by
  unfold World.freeze
  split
  · rfl
  · simp only [World.cell?,Array.getElem?_modify]
    by_cases h:p.block=q.block
    · rw [if_pos h]
      cases e:w.heap[q.block]? with
      |none=> simp
      |some o=> cases o <;> simp
    · rw [if_neg h]
theorem Grow.freeze (w:World) (p:Addr) (n:Nat):Grow w (w.freeze p n):=fun q u h=> by rw [cell_freeze];exact h
theorem C_grow {w w1:World} {A:Option Addr} {n:Nat} {xs:List Int} {k:IntKind} (h:(Kd.int k).C w A n xs) (hg:Grow w w1):(Kd.int k).C w1 A n xs:=by
  have h2:=Kd.reads_of_C (enc:=Value.int k) (d:=(0:Int)) (h1:=fun _=> rfl) h
  refine Kd.C_of_reads (d:=(0:Int)) ⟨h2.1,h2.2.1,fun hn=> ?_⟩
  obtain ⟨ad,e,hc⟩:=h2.2.2 hn
  exact ⟨ad,e,fun j hj=> hg _ _ (hc j hj)⟩
theorem PRow.grow {w w1:World} {v:Value} {xs:List Int} (h:PRow w v xs) (hg:Grow w w1):PRow w1 v xs:=by
  obtain ⟨A,c,e,hc,hC⟩:=h
  exact ⟨A,c,e,hc,C_grow hC hg⟩
theorem CC_grow {w w1:World} {A:Option Addr} {n:Nat} {xss:List (List Int)} (h:(Kd.slice 5 (Kd.int .u8)).C w A n xss) (hg:Grow w w1):(Kd.slice 5 (Kd.int .u8)).C w1 A n xss:=by
  refine ⟨h.1,h.2.1,fun hn=> ?_⟩
  obtain ⟨ad,e,hc⟩:=h.2.2 hn
  refine ⟨ad,e,fun j p hj=> ?_⟩
  obtain ⟨c,hl,⟨A1,c1,e1,h1,hC⟩,hcell⟩:=hc j p hj
  exact ⟨c,hl,⟨A1,c1,e1,h1,C_grow hC hg⟩,fun i u hu=> hg _ _ (hcell i u hu)⟩
theorem run_mark (w:World) (g o n c:Nat):∃ w',(convert 25 25 (.slice (some ⟨g,o,none⟩) n c)).run Try.prog w= .ok (.slice (some ⟨g,o,none⟩) n c) w' ∧ Grow w w' ∧ ∀ (B:Nat) (w0:World),Below B w0 w → B ≤ g → Below B w0 w':=by
  have hr:(convert 25 25 (.slice (some ⟨g,o,none⟩) n c)).run Try.prog w=((markStringish ⟨g,o,none⟩).run Try.prog w).andThen fun _ w'=> .ok (.slice (some ⟨g,o,none⟩) n c) w':=by
    simp [convert,run_underlying Try.underlying25,run_underlying Try.underlying5,Result.andThen]
  rw [hr]
  unfold markStringish
  cases hs:w.shape? g with
  |none=> exact ⟨w,by simp [hs,Result.andThen],Grow.refl _,fun _ _ h _=> h⟩
  |some q=> exact ⟨w.freeze ⟨g,q.2,none⟩ 1,by simp [hs,Result.andThen],Grow.freeze _ _ _,fun _ _ h hb=> Lib.below_freeze h hb 1⟩
end Go.Proofs.Ytlogocmojnhpbaa.Print
namespace Go.Proofs.Ytlogocmojnhpbaa.Print
open Go.RowKit Go.Proofs.YtlogocmojnhpbaaW.PrintWords Go.Proofs.YtlogocmojnhpbaaW.PrintLast Go.Proofs.YtlogocmojnhpbaaW.PrintMore
attribute [local go_sem] max2_int min2_int max_two min_two max_three min_three max_four min_four
set_option linter.unusedVariables false
set_option linter.unusedSimpArgs false
def impl_four.f (l0:List Int) (a1:Int):Option (List Int):=(some (([(a1 / 16777216) % 256,(a1 / 65536) % 256,(a1 / 256) % 256,(a1) % 256]:List Int):List Int)).bind fun y332=> (if l0.length + y332.length < 140737488355328 then (some (l0 ++ y332)) else (none))
set_option maxHeartbeats 8000000 in
set_option maxRecDepth 100000 in
theorem impl_four.calls (P0_:Nat → Prop) (u9000_:Value) (l0:List Int) (a1:Int) (r:List Int) (w0 w:World) (hB:Below w0.heap.size w0 w) (ho0:Kd.R (Kd.int .u8) 5 w w0.heap.size P0_ u9000_ l0) (h:impl_four.f l0 a1=some r):
    Calls Try.prog 149 #[u9000_,.int .i64 a1] w fun e w'=> ∃ v0_:Value,e= .returned (v0_) ∧ Kd.R (Kd.int .u8) 5 w' w0.heap.size (fun k_=> (P0_ k_ ∨ w.heap.size ≤ k_)) v0_ r ∧ Below w0.heap.size w0 w' ∧ Kept w w' (fun k_=> P0_ k_):=by
  have HO0:=Aside0.mk (show Kd.R (Kd.int .u8) 5 w w0.heap.size (fun k_=> (P0_ k_ ∨ w.heap.size ≤ k_)) u9000_ l0 from Kd.R_mono ho0 (fun k_ hk=> (.inl hk)))
  have HK:=Aside0.mk (Kept.refl w (fun k_=> P0_ k_))
  have HW0:=Aside0.mk hB.size
  have HB:=Aside0.mk hB
  clear hB
  have H:((some (([(a1 / 16777216) % 256,(a1 / 65536) % 256,(a1 / 256) % 256,(a1) % 256]:List Int):List Int)).bind fun y332=> (if l0.length + y332.length < 140737488355328 then (some (l0 ++ y332)) else (none)))=some r:=h
  clear h
  obtain ⟨y332,hy332⟩:∃ y_:List Int,y_=(([(a1 / 16777216) % 256,(a1 / 65536) % 256,(a1 / 256) % 256,(a1) % 256]:List Int)):=⟨_,rfl⟩
  replace H:(if l0.length + y332.length < 140737488355328 then (some (l0 ++ y332)) else (none))=some r:=by first|(rw [hy332];with_reducible exact H)|(have H2_:=(Option.bind_some _ _).symm.trans H;rw [hy332];with_reducible exact H2_)|(have H2_:=(Option.bind_some _ _).symm.trans H;with_reducible exact H2_)|with_reducible exact H|(rw [hy332];exact H)|exact H
  have Ny332:=Aside0.mk hy332
  clear hy332
  by_cases c3:l0.length + y332.length < 140737488355328
  · rw [if_pos c3] at H
    have LMc3:=Aside0.mk c3
    clear c3
    obtain ⟨y335,hy335⟩:∃ y_:List Int,y_=(l0 ++ y332):=⟨_,rfl⟩
    replace H:(some y335)=some r:=by first|(rw [hy335];with_reducible exact H)|(have H2_:=(Option.bind_some _ _).symm.trans H;rw [hy335];with_reducible exact H2_)|(have H2_:=(Option.bind_some _ _).symm.trans H;with_reducible exact H2_)|with_reducible exact H|(rw [hy335];exact H)|exact H
    have Ny335:=Aside0.mk hy335
    clear hy335
    obtain rfl:=Option.some.inj H
    go_enter Try.func149,Try.ntmps149
    go_wp2_with (first|((with_reducible refine gate_dst (N:=17) rfl ?_);refine Kd.R_lit (Kd.int .u8) _ 5 ?hg (N:=17) ?hd (xs:=([(a1 / 16777216) % 256,(a1 / 65536) % 256,(a1 / 256) % 256,(a1) % 256]:List Int)) (inner:= [.int .u8 ((a1 / 16777216) % 256),.int .u8 ((a1 / 65536) % 256),.int .u8 ((a1 / 256) % 256),.int .u8 ((a1) % 256)]) (ok:=fun _=> True) (okp:=fun _=> True) ?hr ?hp (fun _ hk=> hk) trivial (Below.refl _ _) (Nat.le_refl _) (by simp) ?_;(case hd=> rfl);(case hg=> rfl);(case hr=> first|(go_simp;done)|(go_simp;rfl));(case hp=> exact (Reps.one (show Kd.M (Kd.int .u8) _ _ _ ((a1 / 16777216) % 256) [.int .u8 ((a1 / 16777216) % 256)] from rfl) (Reps.one (show Kd.M (Kd.int .u8) _ _ _ ((a1 / 65536) % 256) [.int .u8 ((a1 / 65536) % 256)] from rfl) (Reps.one (show Kd.M (Kd.int .u8) _ _ _ ((a1 / 256) % 256) [.int .u8 ((a1 / 256) % 256)] from rfl) (Reps.one (show Kd.M (Kd.int .u8) _ _ _ ((a1) % 256) [.int .u8 ((a1) % 256)] from rfl) (Reps.none _ _))))));intro v333 w4 ho5 hb hg_ hnew_;clear hg_ hnew_;(first|rw [← Ny332.out] at ho5|(simp only [Int.reduceToNat] at ho5;rw [← Ny332.out] at ho5));have n0_:=Aside0.mk (Kd.R_elder' (by (with_reducible repeat (first|apply Kd.R_alloc|apply Kd.R_drewN|apply Kd.R_drew));exact HO0.out) (Kd.R_base ho5) hb);have n1_:=Aside0.mk (Kd.R_lower (Kd.R_new' (Kd.R_newM (M:=fun k_=> (P0_ k_ ∨ w.heap.size ≤ k_)) ho5 (by first|exact HK.out.1|exact (show Kept w _ (fun k_=> P0_ k_) from by repeat (first|(with_reducible first|exact HK.out|apply Kept.alloc|apply Kept.drewN|apply Kept.drew)|exact HK.out)).1) (fun k_ h_=> .inr h_)) (Kd.R_lt (by (with_reducible repeat (first|apply Kd.R_alloc|apply Kd.R_drewN|apply Kd.R_drew));exact HO0.out))) (below_size (by repeat (first|(with_reducible first|exact HB.out|apply bwA|apply bwN|apply bwD)|exact HB.out))));have n2_:=Aside0.mk (Kept.below (S:=(fun k_=> P0_ k_)) (by repeat (first|(with_reducible first|exact HK.out|apply Kept.alloc|apply Kept.drewN|apply Kept.drew)|exact HK.out)) hb);have n3_:=Aside0.mk (below_step (by repeat (first|(with_reducible first|exact HB.out|apply bwA|apply bwN|apply bwD)|exact HB.out)) hb);clear HO0;clear HK;clear HB;have HO0:=n0_;have HO334:=n1_;have HK:=n2_;have HB:=n3_;clear n0_ n1_ n2_ n3_;clear hb ho5;obtain ⟨Ao7,co7,eo7⟩:=Kd.R_slice HO334.out;subst eo7)|((with_reducible refine gate_builtin (b:= .append) (xs:= #[.tmp 5,.tmp 17]) rfl ?_);at_builtin;refine Kd.R_append_rows (Kd.int .u8) (w0:=w0) w0.heap.size rfl (.tmp 5) (.tmp 17) 25 5 (.int .u8 0) 1 rfl Try.underlying25 info5 rfl (by decide) (by omega) u9000_ l0 y332 _ _ _ (fun k_=> (P0_ k_ ∨ w.heap.size ≤ k_) ∧ some k_ ≠ (.slice Ao7 y332.length co7:Value).ownBlock) (fun _=> False) rfl rfl ?aO ?aR (fun _ _ h=> h) (fun _ h=> h.elim) ?aF ?aB ?aS ?aL ?_;(case aR=> repeat (first|exact (Kd.R_reads' HO334.out).2.2|(with_reducible refine Kd.C_alloc ?_ _)|(with_reducible refine Kd.C_drewN ?_ _)|(with_reducible refine Kd.C_drew ?_)));(case aB=> exact (by repeat (first|(with_reducible first|exact HB.out|apply bwA|apply bwN|apply bwD)|exact HB.out)));(case aF=> exact (fun k_ hk=> ⟨(.inr (Nat.le_trans (by first|exact HK.out.1|exact (show Kept w _ (fun k_=> P0_ k_) from by repeat (first|(with_reducible first|exact HK.out|apply Kept.alloc|apply Kept.drewN|apply Kept.drew)|exact HK.out)).1) hk)),Kd.fresh' (Kd.R_lt (by (with_reducible repeat (first|apply Kd.R_alloc|apply Kd.R_drewN|apply Kd.R_drew));exact HO334.out)) k_ hk⟩));(case aO=> exact (by (with_reducible repeat (first|apply Kd.R_alloc|apply Kd.R_drewN|apply Kd.R_drew));exact HO0.out));(case aS=> exact (below_size (by repeat (first|(with_reducible first|exact HB.out|apply bwA|apply bwN|apply bwD)|exact HB.out))));(case aL=> have:=LMc3.out;omega);intro v336 w6 ho hb hg hat;rw [← Ny335.out] at ho;have n0_:=Aside0.mk (Kd.R_after (ok:=(fun k_=> (P0_ k_ ∨ w.heap.size ≤ k_))) (by (with_reducible repeat (first|apply Kd.R_alloc|apply Kd.R_drewN|apply Kd.R_drew));exact Kd.R_mono HO334.out (fun _ hk=> ⟨hk.1.1,hk.2⟩)) hg hat);have n1_:=Aside0.mk (hb);have n2_:=Aside0.mk (Kept.of_grown (S:=(fun k_=> P0_ k_)) hg (by repeat (first|(with_reducible first|exact HK.out|apply Kept.alloc|apply Kept.drewN|apply Kept.drew)|exact HK.out)) (fun k_ e_=> (HO0.out.1 k_ e_).1));have n3_:=Aside0.mk (ho);clear HO334;clear HB;clear HK;clear HO0;have HO334:=n0_;have HB:=n1_;have HK:=n2_;have HO337:=n3_;clear n0_ n1_ n2_ n3_;clear ho hb hg hat))
    go_ret
    exact ⟨_,by first|rfl|(simp [errW_none,errW_some] <;> rfl)|(simp [*,errW_none,errW_some] <;> rfl),by (with_reducible repeat (first|apply Kd.R_alloc|apply Kd.R_drewN|apply Kd.R_drew));exact Kd.R_mono HO337.out (fun _ hk=> hk.1),by repeat (first|(with_reducible first|exact HB.out|apply bwA|apply bwN|apply bwD)|exact HB.out),by repeat (first|(with_reducible first|exact HK.out|apply Kept.alloc|apply Kept.drewN|apply Kept.drew)|exact HK.out)⟩
  · rw [if_neg c3] at H
    exact absurd H (by simp)
end Go.Proofs.Ytlogocmojnhpbaa.Print
namespace Go.Proofs.Ytlogocmojnhpbaa.Print
open Go Go.RowKit Go.Proofs.YtlogocmojnhpbaaW.PrintWords Go.Proofs.YtlogocmojnhpbaaW.PrintLast
set_option linter.unusedVariables false
set_option linter.unusedSimpArgs false
def fourB (n:Int):List Int:= [(n / 16777216) % 256,(n / 65536) % 256,(n / 256) % 256,n % 256]
theorem fourB_in (n:Int):AllB (fourB n):=by
  intro x hx
  unfold fourB at hx
  simp only [List.mem_cons,List.not_mem_nil,or_false] at hx
  unfold InB
  rcases hx with rfl|rfl|rfl|rfl <;> omega
theorem fourN.calls (n:Int) (w:World):Calls Try.prog 149 #[.slice none 0 0,.int .i64 n] w fun e w'=> ∃ v:Value,e= .returned v ∧ PRow w' v (fourB n) ∧ Below w.heap.size w w':=by
  have h:=impl_four.calls (fun _=> True) (.slice none 0 0) [] n (fourB n) w w (Below.refl _ _) (Kd.R_nil _ _ _ _ _) (by unfold impl_four.f;simp [fourB])
  refine h.mono fun e w' ⟨v,he,hR,hb,_⟩=> ⟨v,he,PRow.of_R hR,hb⟩
theorem C_take {w:World} {A:Option Addr} {n m:Nat} {xs:List Int} {k:IntKind} (h:(Kd.int k).C w A n xs) (hm:m ≤ n):(Kd.int k).C w A m (xs.take m):=by
  have h2:=Kd.reads_of_C (enc:=Value.int k) (d:=(0:Int)) (h1:=fun _=> rfl) h
  have hl:xs.length=n:=h2.1
  refine Kd.C_of_reads (d:=(0:Int)) ⟨by simp;omega,by have:=h2.2.1;omega,fun hn=> ?_⟩
  obtain ⟨ad,e,hc⟩:=h2.2.2 (by omega)
  refine ⟨ad,e,fun j hj=> ?_⟩
  rw [hc j (by omega)]
  simp only [List.getD_eq_getElem?_getD]
  rw [List.getElem?_take,if_pos hj]
end Go.Proofs.Ytlogocmojnhpbaa.Print
namespace Go.Proofs.Ytlogocmojnhpbaa.Print
open Go Go.RowKit Go.Proofs.YtlogocmojnhpbaaW.PrintWords Go.Proofs.YtlogocmojnhpbaaW.PrintLast
set_option linter.unusedVariables false
set_option linter.unusedSimpArgs false
def GrowB (B:Nat) (w w':World):Prop:=∀ (p:Addr) (u:Value),p.block ≠ B → w.cell? p=some u → w'.cell? p=some u
theorem GrowB.refl (B:Nat) (w:World):GrowB B w w:=fun _ _ _ h=> h
theorem GrowB.of {B:Nat} {w w1:World} (h:Grow w w1):GrowB B w w1:=fun p u _ hu=> h p u hu
theorem GrowB.trans {B:Nat} {w w1 w2:World} (h:GrowB B w w1) (k:GrowB B w1 w2):GrowB B w w2:=fun p u hp hu=> k p u hp (h p u hp hu)
theorem GrowB.set {B:Nat} (w:World) (i:Nat) (u:Value):GrowB B w (w.setCell ⟨B,i,none⟩ u):=fun p v hp hv=> (World.cell?_of_block (Below.heap_setCell w ⟨B,i,none⟩ u p.block (fun e=> hp e))).trans hv
theorem C_growB {B:Nat} {w w1:World} {A:Option Addr} {n:Nat} {xs:List Int} {k:IntKind} (h:(Kd.int k).C w A n xs) (hA:∀ ad,A=some ad → ad.block ≠ B) (hg:GrowB B w w1):(Kd.int k).C w1 A n xs:=by
  have h2:=Kd.reads_of_C (enc:=Value.int k) (d:=(0:Int)) (h1:=fun _=> rfl) h
  refine Kd.C_of_reads (d:=(0:Int)) ⟨h2.1,h2.2.1,fun hn=> ?_⟩
  obtain ⟨ad,e,hc⟩:=h2.2.2 hn
  exact ⟨ad,e,fun j hj=> hg _ _ (by rw [add_block];exact hA ad e) (hc j hj)⟩
def PRowB (B:Nat) (W:World) (v:Value) (xs:List Int):Prop:=PRow W v xs ∧ ∀ ad n c,v= .slice (some ad) n c → ad.block ≠ B
theorem PRowB.grow {B:Nat} {w w1:World} {v:Value} {xs:List Int} (h:PRowB B w v xs) (hg:GrowB B w w1):PRowB B w1 v xs:=by
  obtain ⟨⟨A,c,e,hc,hC⟩,hb⟩:=h
  exact ⟨⟨A,c,e,hc,C_growB hC (fun ad ha=> hb ad _ _ (by rw [e,ha])) hg⟩,hb⟩
theorem PRowB.new {B:Nat} {W:World} {xs:List Int} {g n c:Nat} (h:PRow W (.slice (some ⟨g,0,none⟩) n c) xs) (hg:g ≠ B):PRowB B W (.slice (some ⟨g,0,none⟩) n c) xs:=⟨h,fun ad n' c' e=> by cases e;exact hg⟩
def Four (B:Nat) (W:World) (g:Nat) (x0 x1 x2 x3:List Int):Prop:=∃ v0 v1 v2 v3,W.cell? ⟨g,0,none⟩=some v0 ∧ W.cell? ⟨g,1,none⟩=some v1 ∧ W.cell? ⟨g,2,none⟩=some v2 ∧ W.cell? ⟨g,3,none⟩=some v3 ∧ PRowB B W v0 x0 ∧ PRowB B W v1 x1 ∧ PRowB B W v2 x2 ∧ PRowB B W v3 x3
theorem Four.grow {B:Nat} {w w1:World} {g:Nat} {x0 x1 x2 x3:List Int} (h:Four B w g x0 x1 x2 x3) (hB:g ≠ B) (hg:GrowB B w w1):Four B w1 g x0 x1 x2 x3:=by
  obtain ⟨v0,v1,v2,v3,c0,c1,c2,c3,p0,p1,p2,p3⟩:=h
  exact ⟨v0,v1,v2,v3,hg _ _ hB c0,hg _ _ hB c1,hg _ _ hB c2,hg _ _ hB c3,p0.grow hg,p1.grow hg,p2.grow hg,p3.grow hg⟩
theorem Four.C {B:Nat} {W:World} {g:Nat} {x0 x1 x2 x3:List Int} (h:Four B W g x0 x1 x2 x3):(Kd.slice 5 (Kd.int .u8)).C W (some ⟨g,0,none⟩) 4 [x0,x1,x2,x3]:=by
  obtain ⟨v0,v1,v2,v3,c0,c1,c2,c3,p0,p1,p2,p3⟩:=h
  refine ⟨rfl,by decide,fun h0=> ⟨_,rfl,fun j xs hj=> ?_⟩⟩
  have key:∀ (j:Nat) (v:Value) (xs:List Int),W.cell? ⟨g,j,none⟩=some v → PRow W v xs → ∃ cs:List Value,cs.length=(Kd.slice 5 (Kd.int .u8)).sz ∧ (Kd.slice 5 (Kd.int .u8)).K W xs cs ∧ ∀ i u,cs[i]?=some u → W.cell? ((⟨g,0,none⟩:Addr).add (j * (Kd.slice 5 (Kd.int .u8)).sz + i))=some u:=by
    rintro j v xs hv ⟨A,c,hA,hc,hC⟩
    refine ⟨[v],rfl,⟨A,c,by rw [hA],hc,hC⟩,fun i u hu=> ?_⟩
    cases i with
    |zero=>
      obtain rfl:v=u:=by simpa using hu
      rw [show (Kd.slice 5 (Kd.int .u8)).sz=1 from rfl,addr_at]
      simpa using hv
    |succ i=> simp at hu
  match j,hj with
  |0,hj=>
    obtain rfl:x0=xs:=by simpa using hj
    exact key 0 v0 _ c0 p0.1
  |1,hj=>
    obtain rfl:x1=xs:=by simpa using hj
    exact key 1 v1 _ c1 p1.1
  |2,hj=>
    obtain rfl:x2=xs:=by simpa using hj
    exact key 2 v2 _ c2 p2.1
  |3,hj=>
    obtain rfl:x3=xs:=by simpa using hj
    exact key 3 v3 _ c3 p3.1
  |j + 4,hj=> simp at hj
theorem Four.new {B:Nat} {W:World} {v0 v1 v2 v3:Value} {x0 x1 x2 x3:List Int} (h0:PRowB B W v0 x0) (h1:PRowB B W v1 x1) (h2:PRowB B W v2 x2) (h3:PRowB B W v3 x3):Four B (W.alloc (.cells #[v0,v1,v2,v3] 25)) W.heap.size x0 x1 x2 x3:=by
  have hb:=blk_new W (.cells #[v0,v1,v2,v3] 25)
  have hg:GrowB B W (W.alloc (.cells #[v0,v1,v2,v3] 25)):= .of (Grow.alloc _ _)
  exact ⟨v0,v1,v2,v3,blk_cell hb 0,blk_cell hb 1,blk_cell hb 2,blk_cell hb 3,h0.grow hg,h1.grow hg,h2.grow hg,h3.grow hg⟩
theorem Moved.growB {w w1:World} {B:Nat} (h:Moved w w1 fun i=> i=B):GrowB B w w1:=fun p u hp hu=> (World.cell?_of_block (h.2.1 p.block (World.block_lt_of_cell? w _ hu) hp)).trans hu
def absorbB:List Int:= [97,98,115,111,114,98]
def absorbH (st:ByteArray) (t:List Int):ByteArray:=strOfNums (kHash (bytesOf st ++ absorbB ++ fourB (t.length:Int) ++ t))
end Go.Proofs.Ytlogocmojnhpbaa.Print
namespace Go.Proofs.Ytlogocmojnhpbaa.Print
open Go Go.RowKit Go.Proofs.YtlogocmojnhpbaaW.PrintWords Go.Proofs.YtlogocmojnhpbaaW.PrintLast
set_option linter.unusedVariables false
set_option linter.unusedSimpArgs false
def SrcBlk (w:World) (B:Nat) (sv:Value) (at_:Int) (st:ByteArray) (n:Int):Prop:=w.heap[B]?=some (.cells #[sv,.int .i64 at_,.string st,.int .i64 n] 36 (0,0))
section
variable {w w1:World} {B:Nat} {sv:Value} {at_ n:Int} {st:ByteArray} {p:Nat → Prop}
theorem SrcBlk.lt (h:SrcBlk w B sv at_ st n):B < w.heap.size:=blk_lt h
theorem SrcBlk.step (h:SrcBlk w B sv at_ st n) (hb:w1.heap[B]?=w.heap[B]?):SrcBlk w1 B sv at_ st n:=hb.trans h
theorem SrcBlk.below (h:SrcBlk w B sv at_ st n) (hb:Below w.heap.size w w1):SrcBlk w1 B sv at_ st n:=h.step (hb.block B h.lt)
theorem SrcBlk.alloc (h:SrcBlk w B sv at_ st n) (o:Obj):SrcBlk (w.alloc o) B sv at_ st n:=h.below (bwA (Below.refl _ _) o)
theorem SrcBlk.bytes (h:SrcBlk w B sv at_ st n) (e:TypeId) (s:ByteArray):SrcBlk (Lib.bytesWorld w e s) B sv at_ st n:=h.below (bytes_below (Below.refl _ _) (Nat.le_refl _) e s)
theorem SrcBlk.cell0 (h:SrcBlk w B sv at_ st n):w.cell? ⟨B,0,none⟩=some sv:=blk_cell h 0
theorem SrcBlk.cell1 (h:SrcBlk w B sv at_ st n):w.cell? ⟨B,1,none⟩=some (.int .i64 at_):=blk_cell h 1
theorem SrcBlk.cell2 (h:SrcBlk w B sv at_ st n):w.cell? ⟨B,2,none⟩=some (.string st):=blk_cell h 2
theorem SrcBlk.cell3 (h:SrcBlk w B sv at_ st n):w.cell? ⟨B,3,none⟩=some (.int .i64 n):=blk_cell h 3
theorem SrcBlk.frozen (h:SrcBlk w B sv at_ st n) (i:Nat):w.frozen? ⟨B,i,none⟩=false:=blk_frozen h i
theorem SrcBlk.set1 (h:SrcBlk w B sv at_ st n) (m:Int):SrcBlk (w.setCell ⟨B,1,none⟩ (.int .i64 m)) B sv m st n:=blk_put h 1 _ rfl
theorem SrcBlk.set2 (h:SrcBlk w B sv at_ st n) (s:ByteArray):SrcBlk (w.setCell ⟨B,2,none⟩ (.string s)) B sv at_ s n:=blk_put h 2 _ rfl
theorem SrcBlk.set3 (h:SrcBlk w B sv at_ st n) (m:Int):SrcBlk (w.setCell ⟨B,3,none⟩ (.int .i64 m)) B sv at_ st m:=blk_put h 3 _ rfl
theorem Moved.step {w2:World} (h:Moved w w1 p) (hb:Below w1.heap.size w1 w2):Moved w w2 p:=h.trans (Moved.of_below hb)
theorem Moved.bytes (h:Moved w w1 p) (e:TypeId) (s:ByteArray):Moved w (Lib.bytesWorld w1 e s) p:=h.step (bytes_below (Below.refl _ _) (Nat.le_refl _) e s)
theorem Moved.mark {w2:World} {g:Nat} (h:Moved w w1 p) (hg:w.heap.size ≤ g) (hb:∀ (B:Nat) (w0:World),Below B w0 w1 → B ≤ g → Below B w0 w2):Moved w w2 p:=by
  have h1:=hb g w1 (Below.refl _ _) (Nat.le_refl _)
  refine ⟨Nat.le_trans h.1 h1.size,fun i hi hp=> (h1.block i (by omega)).trans (h.2.1 i hi hp),fun w0 h0 hp0=> ?_⟩
  have h2:=h.2.2 w0 h0 hp0
  exact hb _ _ h2 (Nat.le_trans h0.size hg)
end
theorem PRowB.below {B:Nat} {w w1:World} {v:Value} {xs:List Int} (h:PRowB B w v xs) (hb:Below w.heap.size w w1):PRowB B w1 v xs:=h.grow (.of (Grow.of_below hb))
theorem fourNB.calls (n:Int) (w:World):Calls Try.prog 149 #[.slice none 0 0,.int .i64 n] w fun e w'=> ∃ g cap,e= .returned (.slice (some ⟨g,0,none⟩) 4 cap) ∧ w.heap.size ≤ g ∧ PRow w' (.slice (some ⟨g,0,none⟩) 4 cap) (fourB n) ∧ Below w.heap.size w w':=by
  have h:=impl_four.calls (fun _=> True) (.slice none 0 0) [] n (fourB n) w w (Below.refl _ _) (Kd.R_nil _ _ _ _ _) (by unfold impl_four.f;simp [fourB])
  refine h.mono fun e w' ⟨v,he,hR,hb,_⟩=> ?_
  obtain ⟨g,cap,rfl,hg,hM⟩:=MRow.of_R hR (by simp [fourB])
  exact ⟨g,cap,he,hg,PRow.of_R hR,hb⟩
theorem PRowB.bytesAt {B g:Nat} (W:World) (s:ByteArray) (hg:g=W.heap.size) (hs:s.size ≤ 9223372036854775807) (hne:g ≠ B):PRowB B (Lib.bytesWorld W 5 s) (.slice (some ⟨g,0,none⟩) s.size (grownCap W s.size 0 5)) (bytesOf s):=by
  subst hg
  exact PRowB.new (PRow.of_bytes _ _ hs) hne
structure Led (w0 w:World) (g1 g2:Nat) (sv:Value) (at_:Int) (st:ByteArray) (n:Int):Prop where
  b1:SrcBlk w g1 sv at_ st n
  b2:SrcBlk w g2 (.slice none 0 0) 0 ⟨#[]⟩ 0
  hb:Below w0.heap.size w0 w
  h1:w0.heap.size ≤ g1
  h2:w0.heap.size ≤ g2
  ne:g1 ≠ g2
section
variable {w0 w w1:World} {g1 g2:Nat} {sv:Value} {at_ n:Int} {st:ByteArray}
theorem Led.below (h:Led w0 w g1 g2 sv at_ st n) (hb:Below w.heap.size w w1):Led w0 w1 g1 g2 sv at_ st n:=⟨h.b1.below hb,h.b2.below hb,below_step h.hb hb,h.h1,h.h2,h.ne⟩
theorem SrcBlk.set0 {w:World} {B:Nat} {sv:Value} {at_ n:Int} {st:ByteArray} (h:SrcBlk w B sv at_ st n) (m:Value):SrcBlk (w.setCell ⟨B,0,none⟩ m) B m at_ st n:=blk_put h 0 _ rfl
theorem SrcBlk.setAll {w:World} {B:Nat} {sv:Value} {at_ n:Int} {st:ByteArray} (h:SrcBlk w B sv at_ st n) (v:Value) (a b:Int) (s:ByteArray):SrcBlk ((((w.setCell ⟨B,0,none⟩ v).setCell ⟨B,1,none⟩ (.int .i64 a)).setCell ⟨B,2,none⟩ (.string s)).setCell ⟨B,3,none⟩ (.int .i64 b)) B v a s b:=(((h.set0 v).set1 a).set2 s).set3 b
theorem SrcBlk.far {w:World} {B g:Nat} {sv:Value} {at_ n:Int} {st:ByteArray} (h:SrcBlk w B sv at_ st n) (hg:B ≠ g) (i:Nat) (v:Value):SrcBlk (w.setCell ⟨g,i,none⟩ v) B sv at_ st n:=blk_far h hg v
end
theorem R79.moved {w w1:World} {g base:Nat} {sv v:Value} {at_ n:Int} {st:ByteArray} {ok:Nat → Prop} {l:List S79} (h:Kd.R k79 79 w base ok v l) (hb:SrcBlk w g sv at_ st n) (m:Moved w w1 (fun i=> i=g)):Kd.R k79 79 w1 base ok v l:=
  Kd.R_mono (Kd.R_kept (S:=fun i=> i=g) (Kd.R_types h hb (by decide)) ⟨m.1,m.2.1⟩ (fun k hk e=> hk.2 e)) (fun _ hk=> hk.1)
theorem moved_setAll (w:World) (g:Nat) (v:Value) (a b:Int) (s:ByteArray):Moved w ((((w.setCell ⟨g,0,none⟩ v).setCell ⟨g,1,none⟩ (.int .i64 a)).setCell ⟨g,2,none⟩ (.string s)).setCell ⟨g,3,none⟩ (.int .i64 b)) (fun i=> i=g):=
  (((((Moved.refl w (fun i=> i=g)).set g 0 _ (.inl rfl)).set g 1 _ (.inl rfl)).set g 2 _ (.inl rfl)).set g 3 _ (.inl rfl))
theorem below_setAll {w0 w:World} {g:Nat} (h:Below w0.heap.size w0 w) (hg:w0.heap.size ≤ g) (v:Value) (a b:Int) (s:ByteArray):Below w0.heap.size w0 ((((w.setCell ⟨g,0,none⟩ v).setCell ⟨g,1,none⟩ (.int .i64 a)).setCell ⟨g,2,none⟩ (.string s)).setCell ⟨g,3,none⟩ (.int .i64 b)):=
  bwS (bwS (bwS (bwS h hg) hg) hg) hg
structure Outg (w0 w:World) (g2 g3:Nat) (v:Value) (l:List S79) (at_:Int) (st:ByteArray) (n:Int):Prop where
  b2:SrcBlk w g2 (.slice none 0 0) 0 ⟨#[]⟩ 0
  b3:SrcBlk w g3 v at_ st n
  hb:Below w0.heap.size w0 w
  h2:w0.heap.size ≤ g2
  h3:w0.heap.size ≤ g3
  ne:g2 ≠ g3
  hr:Kd.R k79 79 w w0.heap.size (fun _=> True) v l
section
variable {w0 w w1:World} {g1 g2 g3:Nat} {sv v:Value} {at_ n:Int} {st:ByteArray} {l:List S79}
theorem Outg.below (h:Outg w0 w g2 g3 v l at_ st n) (hb:Below w.heap.size w w1):Outg w0 w1 g2 g3 v l at_ st n:=⟨h.b2.below hb,h.b3.below hb,below_step h.hb hb,h.h2,h.h3,h.ne,Kd.R_below h.hr hb⟩
theorem Outg.moved {a' n':Int} {st':ByteArray} (h:Outg w0 w g2 g3 v l at_ st n) (m:Moved w w1 (fun i=> i=g3)) (hb:SrcBlk w1 g3 v a' st' n'):Outg w0 w1 g2 g3 v l a' st' n':=
  ⟨h.b2.step (m.2.1 g2 h.b2.lt h.ne),hb,m.2.2 w0 h.hb (fun i hi e=> by have:=h.h3;omega),h.h2,h.h3,h.ne,R79.moved h.hr h.b3 m⟩
theorem Outg.start {w5 w6:World} {ok:Nat → Prop} {b:Nat} (h:Led w0 w5 g1 g2 sv at_ st n) (hR:Kd.R k79 79 w5 b ok v l) (hb0:w0.heap.size ≤ b) (hg:g3=w5.heap.size) (hbox:SrcBlk w6 g3 (.slice none 0 0) 0 ⟨#[]⟩ 0) (hb:Below w5.heap.size w5 w6):
    Outg w0 ((((w6.setCell ⟨g3,0,none⟩ v).setCell ⟨g3,1,none⟩ (.int .i64 at_)).setCell ⟨g3,2,none⟩ (.string st)).setCell ⟨g3,3,none⟩ (.int .i64 n)) g2 g3 v l at_ st n:=by
  have hlt:=h.b2.lt
  have hsz:=h.hb.size
  have hne:g2 ≠ g3:=by omega
  have m:=moved_setAll w6 g3 v at_ n st
  exact ⟨(h.b2.below hb).step (m.2.1 g2 (h.b2.below hb).lt hne),hbox.setAll v at_ n st,below_setAll (below_step h.hb hb) (by omega) _ _ _ _,h.h2,by omega,hne,R79.moved (Kd.R_mono (Kd.R_lower (Kd.R_below hR hb) hb0) (fun _ _=> trivial)) hbox m⟩
theorem Outg.done (h:Outg w0 w g2 g3 v l at_ st n) (a b:Int) (s:ByteArray):
    SrcBlk ((((w.setCell ⟨g2,0,none⟩ v).setCell ⟨g2,1,none⟩ (.int .i64 a)).setCell ⟨g2,2,none⟩ (.string s)).setCell ⟨g2,3,none⟩ (.int .i64 b)) g2 v a s b ∧ Kd.R k79 79 ((((w.setCell ⟨g2,0,none⟩ v).setCell ⟨g2,1,none⟩ (.int .i64 a)).setCell ⟨g2,2,none⟩ (.string s)).setCell ⟨g2,3,none⟩ (.int .i64 b)) w0.heap.size (fun _=> True) v l ∧ Below w0.heap.size w0 ((((w.setCell ⟨g2,0,none⟩ v).setCell ⟨g2,1,none⟩ (.int .i64 a)).setCell ⟨g2,2,none⟩ (.string s)).setCell ⟨g2,3,none⟩ (.int .i64 b)):=
  ⟨h.b2.setAll v a b s,R79.moved h.hr h.b2 (moved_setAll w g2 v a b s),below_setAll h.hb h.h2 v a b s⟩
end
end Go.Proofs.Ytlogocmojnhpbaa.Print
namespace Go.Proofs.Ytlogocmojnhpbaa.Print
open Go.RowKit Go.Proofs.YtlogocmojnhpbaaW.PrintWords Go.Proofs.YtlogocmojnhpbaaW.PrintLast Go.Proofs.YtlogocmojnhpbaaW.PrintMore
attribute [local go_sem] max2_int min2_int max_two min_two max_three min_three max_four min_four
set_option linter.unusedVariables false
set_option linter.unusedSimpArgs false
def impl_modulo.l0:Nat → Int → List Int → Int → Int → Option (Int)
  |0,_,_,_,_=> none
  |k + 1,x3,x6,x7,x8=> if x8 < x7 then (if 0 ≤ x8 then (if x8 < (x6.length:Int) then (impl_modulo.l0 k (Go.bits .or .u64 (IntKind.u64.wrap (x3 * 256)) (IntKind.u64.wrap (rd x6 x8))) x6 x7 (wrap64 (x8 + 1))) else (none)) else (none)) else (some (wrap64 (Int.tmod x3 2130706433)))
def impl_modulo.f (k:Nat) (l0:List Int):Option (Int):=impl_modulo.l0 k 0 l0 (l0.length:Int) 0
theorem impl_modulo.mono_l:∀ k,(∀ y0 y1 y2 y3,LeO (impl_modulo.l0 k y0 y1 y2 y3) (impl_modulo.l0 (k + 1) y0 y1 y2 y3))
  |0=> fun _ _ _ _ r h=> by simp [impl_modulo.l0] at h
  |k + 1=> by
    have ih0:=impl_modulo.mono_l k
    · intro y0 y1 y2 y3
      unfold impl_modulo.l0
      repeat' first
      |(with_reducible exact ih0 _ _ _ _)
      |(with_reducible exact LeO.refl _)
      |(with_reducible exact LeO.none _)
      |(with_reducible refine LeO.ite ?_ ?_)
      |(with_reducible refine LeO.bind ?_ (fun _=> ?_))
      |exact ih0 _ _ _ _
      |exact LeO.none _
      |refine LeO.ite ?_ ?_
      |refine LeO.bind ?_ (fun _=> ?_)
theorem impl_modulo.mono:∀ a0 k,LeO (impl_modulo.f k a0) (impl_modulo.f (k + 1) a0):=by
  intro a0 k
  have ih0:=impl_modulo.mono_l k
  unfold impl_modulo.f
  repeat' first
      |(with_reducible exact ih0 _ _ _ _)
      |(with_reducible exact LeO.refl _)
      |(with_reducible exact LeO.none _)
      |(with_reducible refine LeO.ite ?_ ?_)
      |(with_reducible refine LeO.bind ?_ (fun _=> ?_))
      |exact ih0 _ _ _ _
      |exact LeO.none _
      |refine LeO.ite ?_ ?_
      |refine LeO.bind ?_ (fun _=> ?_)
set_option maxHeartbeats 8000000 in
set_option maxRecDepth 100000 in
theorem impl_modulo.calls (k:Nat) (A0:Option Addr) (c0:Nat) (l0:List Int) (r:Int) (w:World) (hr0:Kd.C (Kd.int .u8) w A0 l0.length l0) (hc0:l0.length ≤ c0) (h:impl_modulo.f k l0=some r):
    Calls Try.prog 163 #[.slice A0 l0.length c0] w fun e w'=> e= .returned (.int .i64 r) ∧ Drawn0 w w':=by
  have HR0:=Aside0.mk hr0
  have HC0:=Aside0.mk hc0
  clear hr0 hc0
  have H:(impl_modulo.l0 k 0 l0 (l0.length:Int) 0)=some r:=h
  clear h
  have H':=Aside0.mk H
  clear H
  go_enter Try.func163,Try.ntmps163
  go_wp2
  go_loopg [3,8] k (fun kq v3 v8 w'=> ∃ (x3_1:Int) (x8_1:Int),v3= .int .u64 x3_1 ∧ v8= .int .i64 x8_1 ∧ Aside0 (impl_modulo.l0 kq x3_1 l0 (l0.length:Int) x8_1=some r) ∧ Aside0 (kq ≤ k) ∧ Drawn0 w w')
  case atStart=> exact ⟨(0),(0),(by first|rfl|(simp;done)|(simp [*];done)),(by first|rfl|(simp;done)|(simp [*];done)),H',⟨Nat.le_refl _⟩,by repeat (first|exact Drawn0.refl _|apply Drawn0.step)⟩
  case round=>
    clear H'
    try clear c1
    obtain ⟨x3_1,x8_1,rfl,rfl,HA,HK1,⟨m1,rfl⟩⟩:=hrel
    cases gk with
    |zero=> exact absurd HA.out (by simp [impl_modulo.l0])
    |succ k1=>
      have H:=HA.out
      clear HA
      simp only [impl_modulo.l0] at H
      by_cases c2:x8_1 < (l0.length:Int)
      · rw [if_pos c2] at H
        have c2b0:decide (x8_1 < (l0.length:Int))=true:=decide_eq_true c2
        clear c2
        by_cases c3:0 ≤ x8_1
        · rw [if_pos c3] at H
          have c3b0:decide (0 ≤ x8_1)=true:=decide_eq_true c3
          clear c3
          by_cases c4:x8_1 < (l0.length:Int)
          · rw [if_pos c4] at H
            have c4b0:decide (x8_1 < (l0.length:Int))=true:=decide_eq_true c4
            clear c4
            have H':=Aside0.mk H
            clear H
            have p671:0 ≤ (x8_1:Int):=of_decide_eq_true (by first|(with_reducible assumption)|assumption)
            have q671:x8_1 < (l0.length:Int):=of_decide_eq_true (by first|(with_reducible assumption)|assumption)
            obtain ⟨ad671,e671,hx671_0⟩:=Kd.at_int HR0.out x8_1 p671 q671
            cases e671
            replace p671:=eq_true p671
            replace q671:=eq_true q671
            go_wp2
            go_roundg k1
            case measure=> have:=HK1.out;omega
            case rel=> exact ⟨(Go.bits .or .u64 (IntKind.u64.wrap (x3_1 * 256)) (IntKind.u64.wrap (rd l0 x8_1))),(wrap64 (x8_1 + 1)),(by first|rfl|(simp;done)|(simp [*];done)),(by first|rfl|(simp;done)|(simp [*];done)),H',⟨by have:=HK1.out;omega⟩,by repeat (first|exact Drawn0.refl _|apply Drawn0.step)⟩
          · rw [if_neg c4] at H
            exact absurd H (by simp)
        · rw [if_neg c3] at H
          exact absurd H (by simp)
      · rw [if_neg c2] at H
        have c2b0:decide (x8_1 < (l0.length:Int))=false:=decide_eq_false c2
        clear c2
        obtain rfl:=Option.some.inj H
        go_wp2
        go_ret
        exact ⟨by first|rfl|(simp;done)|(simp [*];done),by repeat (first|exact Drawn0.refl _|apply Drawn0.step)⟩
end Go.Proofs.Ytlogocmojnhpbaa.Print
