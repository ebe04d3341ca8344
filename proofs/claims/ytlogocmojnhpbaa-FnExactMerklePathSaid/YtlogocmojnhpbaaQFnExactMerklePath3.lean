-- Packed by a program of this session (slim.py) out of printed texts; not trusted, Lean checks it.
import Derived.Test.YtlogocmojnhpbaaP0
import Derived.Test.YtlogocmojnhpbaaK4
import Derived.Test.YtlogocmojnhpbaaQFnExactMerklePath0
import Derived.Test.YtlogocmojnhpbaaQFnExactMerklePath1
import Derived.Test.YtlogocmojnhpbaaQFnExactMerklePath2
namespace Go.Proofs.Ytlogocmojnhpbaa.Print
open Go.RowKit Go.Proofs.YtlogocmojnhpbaaW.PrintWords Go.Proofs.YtlogocmojnhpbaaW.PrintLast Go.Proofs.YtlogocmojnhpbaaW.PrintMore
attribute [local go_sem] max2_int min2_int max_two min_two max_three min_three max_four min_four
set_option linter.unusedVariables false
set_option linter.unusedSimpArgs false
mutual
def laws_FnExactMerklePath.j0:Nat → List ByteArray → Int → List ByteArray → Int → List ByteArray → List ByteArray → Int → Bool → Option (Bool)
  |0,_,_,_,_,_,_,_,_=> none
  |k + 1,x0,x1,x6,x7,x8,x9,x10,x44=> if x44=true then (none) else ((laws_toStringS.f k x0).bind fun t1298=> ((laws_eqStringS.f k x8 t1298).bind fun t1301=> (if t1301=true then ((laws_markStringS.f k x8 1).bind fun bt1302=> (if bt1302.1 < 0 then (none) else ((laws_eqStringS.f k x9 x6).bind fun t1304=> (if t1304=true then (laws_FnExactMerklePath.j1 k x0 x1 x6 x7 x9 (x10 !=x7)) else (none))))) else (none))))
def laws_FnExactMerklePath.j1:Nat → List ByteArray → Int → List ByteArray → Int → List ByteArray → Bool → Option (Bool)
  |0,_,_,_,_,_,_=> none
  |k + 1,x0,x1,x6,x7,x9,x65=> if x65=true then (none) else ((laws_markStringS.f k x9 1).bind fun bt1305=> ((laws_heldStringS.f k bt1305.2 1).bind fun t1307=> (if t1307 < 0 then (none) else (if t1307=bt1305.1 then ((laws_toStringS.f k x0).bind fun t1308=> ((impl_MerklePath.f k t1308 x1).bind fun bt1311=> ((laws_eqStringS.f k bt1311.1 x6).bind fun t1315=> (if t1315=true then (laws_FnExactMerklePath.j2 k bt1305.2 bt1305.1 (bt1311.2 !=x7)) else (none))))) else (none)))))
def laws_FnExactMerklePath.j2:Nat → List ByteArray → Int → Bool → Option (Bool)
  |0,_,_,_=> none
  |k + 1,x9,x12,x92=> if x92=true then (none) else ((laws_heldStringS.f k x9 1).bind fun t1316=> (if t1316 < 0 then (none) else (if t1316=x12 then (some true) else (none))))
end
def laws_FnExactMerklePath.f (k:Nat) (l0:List ByteArray) (a1:Int):Option (Bool):=(laws_szStringS.f k l0 1048576).bind fun t1282=> (if t1282 < 0 then (some true) else ((laws_toStringS.f k l0).bind fun t1283=> ((spec_MerklePath.f k t1283 a1).bind fun bt1286=> ((laws_toStringS.f k l0).bind fun t1290=> ((impl_MerklePath.f k t1290 a1).bind fun bt1293=> ((laws_eqStringS.f k bt1293.1 bt1286.1).bind fun t1297=> (if t1297=true then (laws_FnExactMerklePath.j0 k l0 a1 bt1286.1 bt1286.2 t1290 bt1293.1 bt1293.2 (bt1293.2 !=bt1286.2)) else (none))))))))
theorem laws_FnExactMerklePath.mono_l:∀ k,(∀ y0 y1 y2 y3 y4 y5 y6 y7,LeO (laws_FnExactMerklePath.j0 k y0 y1 y2 y3 y4 y5 y6 y7) (laws_FnExactMerklePath.j0 (k + 1) y0 y1 y2 y3 y4 y5 y6 y7)) ∧ (∀ y0 y1 y2 y3 y4 y5,LeO (laws_FnExactMerklePath.j1 k y0 y1 y2 y3 y4 y5) (laws_FnExactMerklePath.j1 (k + 1) y0 y1 y2 y3 y4 y5)) ∧ (∀ y0 y1 y2,LeO (laws_FnExactMerklePath.j2 k y0 y1 y2) (laws_FnExactMerklePath.j2 (k + 1) y0 y1 y2))
  |0=> ⟨fun _ _ _ _ _ _ _ _ r h=> by simp [laws_FnExactMerklePath.j0] at h,fun _ _ _ _ _ _ r h=> by simp [laws_FnExactMerklePath.j1] at h,fun _ _ _ r h=> by simp [laws_FnExactMerklePath.j2] at h⟩
  |k + 1=> by
    obtain ⟨ih0,ih1,ih2⟩:=laws_FnExactMerklePath.mono_l k
    refine ⟨?_,?_,?_⟩
    · intro y0 y1 y2 y3 y4 y5 y6 y7
      unfold laws_FnExactMerklePath.j0
      repeat' first
      |(with_reducible exact ih0 _ _ _ _ _ _ _ _)
      |(with_reducible exact ih1 _ _ _ _ _ _)
      |(with_reducible exact ih2 _ _ _)
      |(with_reducible exact impl_MerklePath.mono _ _ _)
      |(with_reducible exact laws_eqStringS.mono _ _ _)
      |(with_reducible exact laws_heldStringS.mono _ _ _)
      |(with_reducible exact laws_markStringS.mono _ _ _)
      |(with_reducible exact laws_szStringS.mono _ _ _)
      |(with_reducible exact laws_toStringS.mono _ _)
      |(with_reducible exact spec_MerklePath.mono _ _ _)
      |(with_reducible exact LeO.refl _)
      |(with_reducible exact LeO.none _)
      |(with_reducible refine LeO.ite ?_ ?_)
      |(with_reducible refine LeO.bind ?_ (fun _=> ?_))
      |exact ih0 _ _ _ _ _ _ _ _
      |exact ih1 _ _ _ _ _ _
      |exact ih2 _ _ _
      |exact impl_MerklePath.mono _ _ _
      |exact laws_eqStringS.mono _ _ _
      |exact laws_heldStringS.mono _ _ _
      |exact laws_markStringS.mono _ _ _
      |exact laws_szStringS.mono _ _ _
      |exact laws_toStringS.mono _ _
      |exact spec_MerklePath.mono _ _ _
      |exact LeO.none _
      |refine LeO.ite ?_ ?_
      |refine LeO.bind ?_ (fun _=> ?_)
    · intro y0 y1 y2 y3 y4 y5
      unfold laws_FnExactMerklePath.j1
      repeat' first
      |(with_reducible exact ih0 _ _ _ _ _ _ _ _)
      |(with_reducible exact ih1 _ _ _ _ _ _)
      |(with_reducible exact ih2 _ _ _)
      |(with_reducible exact impl_MerklePath.mono _ _ _)
      |(with_reducible exact laws_eqStringS.mono _ _ _)
      |(with_reducible exact laws_heldStringS.mono _ _ _)
      |(with_reducible exact laws_markStringS.mono _ _ _)
      |(with_reducible exact laws_szStringS.mono _ _ _)
      |(with_reducible exact laws_toStringS.mono _ _)
      |(with_reducible exact spec_MerklePath.mono _ _ _)
      |(with_reducible exact LeO.refl _)
      |(with_reducible exact LeO.none _)
      |(with_reducible refine LeO.ite ?_ ?_)
      |(with_reducible refine LeO.bind ?_ (fun _=> ?_))
      |exact ih0 _ _ _ _ _ _ _ _
      |exact ih1 _ _ _ _ _ _
      |exact ih2 _ _ _
      |exact impl_MerklePath.mono _ _ _
      |exact laws_eqStringS.mono _ _ _
      |exact laws_heldStringS.mono _ _ _
      |exact laws_markStringS.mono _ _ _
      |exact laws_szStringS.mono _ _ _
      |exact laws_toStringS.mono _ _
      |exact spec_MerklePath.mono _ _ _
      |exact LeO.none _
      |refine LeO.ite ?_ ?_
      |refine LeO.bind ?_ (fun _=> ?_)
    · intro y0 y1 y2
      unfold laws_FnExactMerklePath.j2
      repeat' first
      |(with_reducible exact ih0 _ _ _ _ _ _ _ _)
      |(with_reducible exact ih1 _ _ _ _ _ _)
      |(with_reducible exact ih2 _ _ _)
      |(with_reducible exact impl_MerklePath.mono _ _ _)
      |(with_reducible exact laws_eqStringS.mono _ _ _)
      |(with_reducible exact laws_heldStringS.mono _ _ _)
      |(with_reducible exact laws_markStringS.mono _ _ _)
      |(with_reducible exact laws_szStringS.mono _ _ _)
      |(with_reducible exact laws_toStringS.mono _ _)
      |(with_reducible exact spec_MerklePath.mono _ _ _)
      |(with_reducible exact LeO.refl _)
      |(with_reducible exact LeO.none _)
      |(with_reducible refine LeO.ite ?_ ?_)
      |(with_reducible refine LeO.bind ?_ (fun _=> ?_))
      |exact ih0 _ _ _ _ _ _ _ _
      |exact ih1 _ _ _ _ _ _
      |exact ih2 _ _ _
      |exact impl_MerklePath.mono _ _ _
      |exact laws_eqStringS.mono _ _ _
      |exact laws_heldStringS.mono _ _ _
      |exact laws_markStringS.mono _ _ _
      |exact laws_szStringS.mono _ _ _
      |exact laws_toStringS.mono _ _
      |exact spec_MerklePath.mono _ _ _
      |exact LeO.none _
      |refine LeO.ite ?_ ?_
      |refine LeO.bind ?_ (fun _=> ?_)
theorem laws_FnExactMerklePath.mono:∀ a0 a1 k,LeO (laws_FnExactMerklePath.f k a0 a1) (laws_FnExactMerklePath.f (k + 1) a0 a1):=by
  intro a0 a1 k
  obtain ⟨ih0,ih1,ih2⟩:=laws_FnExactMerklePath.mono_l k
  unfold laws_FnExactMerklePath.f
  repeat' first
      |(with_reducible exact ih0 _ _ _ _ _ _ _ _)
      |(with_reducible exact ih1 _ _ _ _ _ _)
      |(with_reducible exact ih2 _ _ _)
      |(with_reducible exact impl_MerklePath.mono _ _ _)
      |(with_reducible exact laws_eqStringS.mono _ _ _)
      |(with_reducible exact laws_heldStringS.mono _ _ _)
      |(with_reducible exact laws_markStringS.mono _ _ _)
      |(with_reducible exact laws_szStringS.mono _ _ _)
      |(with_reducible exact laws_toStringS.mono _ _)
      |(with_reducible exact spec_MerklePath.mono _ _ _)
      |(with_reducible exact LeO.refl _)
      |(with_reducible exact LeO.none _)
      |(with_reducible refine LeO.ite ?_ ?_)
      |(with_reducible refine LeO.bind ?_ (fun _=> ?_))
      |exact ih0 _ _ _ _ _ _ _ _
      |exact ih1 _ _ _ _ _ _
      |exact ih2 _ _ _
      |exact impl_MerklePath.mono _ _ _
      |exact laws_eqStringS.mono _ _ _
      |exact laws_heldStringS.mono _ _ _
      |exact laws_markStringS.mono _ _ _
      |exact laws_szStringS.mono _ _ _
      |exact laws_toStringS.mono _ _
      |exact spec_MerklePath.mono _ _ _
      |exact LeO.none _
      |refine LeO.ite ?_ ?_
      |refine LeO.bind ?_ (fun _=> ?_)
set_option maxHeartbeats 8000000 in
set_option maxRecDepth 100000 in
theorem laws_FnExactMerklePath.calls (k:Nat) (A0:Option Addr) (c0:Nat) (l0:List ByteArray) (a1:Int) (r:Bool) (w:World) (hr0:Kd.C Kd.string w A0 l0.length l0) (hc0:l0.length ≤ c0) (h:laws_FnExactMerklePath.f k l0 a1=some r):
    Calls Try.prog 10 #[.slice A0 l0.length c0,.int .i64 a1] w fun e w'=> e= .returned (.bool r) ∧ Below w.heap.size w w':=by
  have HR0:=Aside0.mk hr0
  have HC0:=Aside0.mk hc0
  clear hr0 hc0
  have HB:=Aside0.mk (Below.refl w.heap.size w)
  have H:((laws_szStringS.f k l0 1048576).bind fun t1282=> (if t1282 < 0 then (some true) else ((laws_toStringS.f k l0).bind fun t1283=> ((spec_MerklePath.f k t1283 a1).bind fun bt1286=> ((laws_toStringS.f k l0).bind fun t1290=> ((impl_MerklePath.f k t1290 a1).bind fun bt1293=> ((laws_eqStringS.f k bt1293.1 bt1286.1).bind fun t1297=> (if t1297=true then (laws_FnExactMerklePath.j0 k l0 a1 bt1286.1 bt1286.2 t1290 bt1293.1 bt1293.2 (bt1293.2 !=bt1286.2)) else (none)))))))))=some r:=h
  clear h
  replace H:=Option.bind_eq_some_iff.mp H
  obtain ⟨t1282,A30,H⟩:=H
  replace H:(if t1282 < 0 then (some true) else ((laws_toStringS.f k l0).bind fun t1283=> ((spec_MerklePath.f k t1283 a1).bind fun bt1286=> ((laws_toStringS.f k l0).bind fun t1290=> ((impl_MerklePath.f k t1290 a1).bind fun bt1293=> ((laws_eqStringS.f k bt1293.1 bt1286.1).bind fun t1297=> (if t1297=true then (laws_FnExactMerklePath.j0 k l0 a1 bt1286.1 bt1286.2 t1290 bt1293.1 bt1293.2 (bt1293.2 !=bt1286.2)) else (none))))))))=some r:=H
  have A3:=Aside0.mk A30
  clear A30
  by_cases c4:t1282 < 0
  · rw [if_pos c4] at H
    have c4b0:decide (t1282 < 0)=true:=decide_eq_true c4
    clear c4
    obtain rfl:=Option.some.inj H
    go_enter Try.func10,Try.ntmps10
    go_wp2_with (first|((with_reducible refine gate_callee (f:=39) rfl ?_);refine goesL_ (some 18) rfl rfl Try.func39 (by kernel_rfl) rfl #[.slice A0 l0.length c0,.int .i64 1048576] rfl (by (try simp only [List.map_toArray,List.map_cons,List.map_nil]);first|done|rfl|(simp only [List.length_drop,List.length_take];rfl)) ?_;(with_reducible refine (laws_szStringS.calls k _ _ l0 1048576 t1282 _ ?side1 ?side2 A3.out).mono ?_);(case side1=> repeat (first|exact HR0.out|(with_reducible refine Kd.C_alloc ?_ _)|(with_reducible refine Kd.C_drewN ?_ _)|(with_reducible refine Kd.C_drew ?_)));(case side2=> exact HC0.out);rintro e w' ⟨rfl,⟨nd,rfl⟩⟩;refine ⟨_,rfl,?_⟩))
    go_ret
    exact ⟨by first|rfl|(simp [errW_none,errW_some] <;> rfl)|(simp [*,errW_none,errW_some] <;> rfl),by repeat (first|(with_reducible first|exact HB.out|apply bwA|apply bwN|apply bwD)|exact HB.out)⟩
  · rw [if_neg c4] at H
    have c4b0:decide (t1282 < 0)=false:=decide_eq_false c4
    clear c4
    replace H:=Option.bind_eq_some_iff.mp H
    obtain ⟨t1283,A50,H⟩:=H
    replace H:((spec_MerklePath.f k t1283 a1).bind fun bt1286=> ((laws_toStringS.f k l0).bind fun t1290=> ((impl_MerklePath.f k t1290 a1).bind fun bt1293=> ((laws_eqStringS.f k bt1293.1 bt1286.1).bind fun t1297=> (if t1297=true then (laws_FnExactMerklePath.j0 k l0 a1 bt1286.1 bt1286.2 t1290 bt1293.1 bt1293.2 (bt1293.2 !=bt1286.2)) else (none))))))=some r:=H
    have A5:=Aside0.mk A50
    clear A50
    replace H:=Option.bind_eq_some_iff.mp H
    obtain ⟨⟨t1286,t1287⟩,A60,H⟩:=H
    replace H:((laws_toStringS.f k l0).bind fun t1290=> ((impl_MerklePath.f k t1290 a1).bind fun bt1293=> ((laws_eqStringS.f k bt1293.1 t1286).bind fun t1297=> (if t1297=true then (laws_FnExactMerklePath.j0 k l0 a1 t1286 t1287 t1290 bt1293.1 bt1293.2 (bt1293.2 !=t1287)) else (none)))))=some r:=H
    have A6:=Aside0.mk A60
    clear A60
    replace H:=Option.bind_eq_some_iff.mp H
    obtain ⟨t1290,A70,H⟩:=H
    replace H:((impl_MerklePath.f k t1290 a1).bind fun bt1293=> ((laws_eqStringS.f k bt1293.1 t1286).bind fun t1297=> (if t1297=true then (laws_FnExactMerklePath.j0 k l0 a1 t1286 t1287 t1290 bt1293.1 bt1293.2 (bt1293.2 !=t1287)) else (none))))=some r:=H
    have A7:=Aside0.mk A70
    clear A70
    replace H:=Option.bind_eq_some_iff.mp H
    obtain ⟨⟨t1293,t1294⟩,A80,H⟩:=H
    replace H:((laws_eqStringS.f k t1293 t1286).bind fun t1297=> (if t1297=true then (laws_FnExactMerklePath.j0 k l0 a1 t1286 t1287 t1290 t1293 t1294 (t1294 !=t1287)) else (none)))=some r:=H
    have A8:=Aside0.mk A80
    clear A80
    have HC9:=Aside0.mk H
    clear H
    go_enter Try.func10,Try.ntmps10
    go_upto_region 8 with (first|((with_reducible refine gate_callee (f:=39) rfl ?_);refine goesL_ (some 18) rfl rfl Try.func39 (by kernel_rfl) rfl #[.slice A0 l0.length c0,.int .i64 1048576] rfl (by (try simp only [List.map_toArray,List.map_cons,List.map_nil]);first|done|rfl|(simp only [List.length_drop,List.length_take];rfl)) ?_;(with_reducible refine (laws_szStringS.calls k _ _ l0 1048576 t1282 _ ?side1 ?side2 A3.out).mono ?_);(case side1=> repeat (first|exact HR0.out|(with_reducible refine Kd.C_alloc ?_ _)|(with_reducible refine Kd.C_drewN ?_ _)|(with_reducible refine Kd.C_drew ?_)));(case side2=> exact HC0.out);rintro e w' ⟨rfl,⟨nd,rfl⟩⟩;refine ⟨_,rfl,?_⟩)|((with_reducible refine gate_callee (f:=41) rfl ?_);refine goesL_ (some 23) rfl rfl Try.func41 (by kernel_rfl) rfl #[.slice A0 l0.length c0] rfl (by (try simp only [List.map_toArray,List.map_cons,List.map_nil]);first|done|rfl|(simp only [List.length_drop,List.length_take];rfl)) ?_;(with_reducible refine (laws_toStringS.calls k _ _ l0 t1283 _ ?side1 ?side2 A5.out).mono ?_);(case side1=> repeat (first|exact HR0.out|(with_reducible refine Kd.C_alloc ?_ _)|(with_reducible refine Kd.C_drewN ?_ _)|(with_reducible refine Kd.C_drew ?_)));(case side2=> exact HC0.out);rintro e w10 ⟨v1284,rfl,ho0,hb⟩;refine ⟨_,rfl,?_⟩;have n0_:=Aside0.mk (Kd.R_lower ho0 (below_size (by repeat (first|(with_reducible first|exact HB.out|apply bwA|apply bwN|apply bwD)|exact HB.out))));have n1_:=Aside0.mk (below_step (by repeat (first|(with_reducible first|exact HB.out|apply bwA|apply bwN|apply bwD)|exact HB.out)) hb);clear HB;have HO1285:=n0_;have HB:=n1_;clear n0_ n1_;(try clear hb);(try clear hb2);(try clear hk);(try clear hi);(try clear ho0);obtain ⟨Ao11,co11,eo11⟩:=Kd.R_slice HO1285.out;subst eo11)|((with_reducible refine gate_callee (f:=44) rfl ?_);refine goesL_ (some 25) rfl rfl Try.func44 (by kernel_rfl) rfl #[.slice Ao11 t1283.length co11,.int .i64 a1] rfl (by (try simp only [List.map_toArray,List.map_cons,List.map_nil]);first|done|rfl|(simp only [List.length_drop,List.length_take];rfl)) ?_;(with_reducible refine (spec_MerklePath.calls k _ _ t1283 a1 t1286 t1287 _ ?side1 ?side2 A6.out).mono ?_);(case side1=> repeat (first|exact (Kd.R_reads' HO1285.out).2.2|(with_reducible refine Kd.C_alloc ?_ _)|(with_reducible refine Kd.C_drewN ?_ _)|(with_reducible refine Kd.C_drew ?_)));(case side2=> exact (Kd.R_reads' HO1285.out).2.1);rintro e w12 ⟨v1288,rfl,ho0,hb⟩;refine ⟨_,rfl,?_⟩;have n0_:=Aside0.mk (Kd.R_elder' (by (with_reducible repeat (first|apply Kd.R_alloc|apply Kd.R_drewN|apply Kd.R_drew));exact HO1285.out) (Kd.R_base ho0) hb);have n1_:=Aside0.mk (Kd.R_lower (Kd.R_new' ho0 (Kd.R_lt (by (with_reducible repeat (first|apply Kd.R_alloc|apply Kd.R_drewN|apply Kd.R_drew));exact HO1285.out))) (below_size (by repeat (first|(with_reducible first|exact HB.out|apply bwA|apply bwN|apply bwD)|exact HB.out))));have n2_:=Aside0.mk (below_step (by repeat (first|(with_reducible first|exact HB.out|apply bwA|apply bwN|apply bwD)|exact HB.out)) hb);clear HO1285;clear HB;have HO1285:=n0_;have HO1289:=n1_;have HB:=n2_;clear n0_ n1_ n2_;(try clear hb);(try clear hb2);(try clear hk);(try clear hi);(try clear ho0))|((with_reducible refine gate_callee (f:=41) rfl ?_);refine goesL_ (some 29) rfl rfl Try.func41 (by kernel_rfl) rfl #[.slice A0 l0.length c0] rfl (by (try simp only [List.map_toArray,List.map_cons,List.map_nil]);first|done|rfl|(simp only [List.length_drop,List.length_take];rfl)) ?_;(with_reducible refine (laws_toStringS.calls k _ _ l0 t1290 _ ?side1 ?side2 A7.out).mono ?_);(case side1=> repeat (first|exact (Kd.C_below HR0.out HB.out)|(with_reducible refine Kd.C_alloc ?_ _)|(with_reducible refine Kd.C_drewN ?_ _)|(with_reducible refine Kd.C_drew ?_)));(case side2=> exact HC0.out);rintro e w13 ⟨v1291,rfl,ho0,hb⟩;refine ⟨_,rfl,?_⟩;have n0_:=Aside0.mk (Kd.R_elder' (by (with_reducible repeat (first|apply Kd.R_alloc|apply Kd.R_drewN|apply Kd.R_drew));exact HO1285.out) (Kd.R_base ho0) hb);have n1_:=Aside0.mk (Kd.R_elder' (by (with_reducible repeat (first|apply Kd.R_alloc|apply Kd.R_drewN|apply Kd.R_drew));exact HO1289.out) (Kd.R_base ho0) hb);have n2_:=Aside0.mk (Kd.R_lower (Kd.R_new' (Kd.R_new' ho0 (Kd.R_lt (by (with_reducible repeat (first|apply Kd.R_alloc|apply Kd.R_drewN|apply Kd.R_drew));exact HO1285.out))) (Kd.R_lt (by (with_reducible repeat (first|apply Kd.R_alloc|apply Kd.R_drewN|apply Kd.R_drew));exact HO1289.out))) (below_size (by repeat (first|(with_reducible first|exact HB.out|apply bwA|apply bwN|apply bwD)|exact HB.out))));have n3_:=Aside0.mk (below_step (by repeat (first|(with_reducible first|exact HB.out|apply bwA|apply bwN|apply bwD)|exact HB.out)) hb);clear HO1285;clear HO1289;clear HB;have HO1285:=n0_;have HO1289:=n1_;have HO1292:=n2_;have HB:=n3_;clear n0_ n1_ n2_ n3_;(try clear hb);(try clear hb2);(try clear hk);(try clear hi);(try clear ho0);obtain ⟨Ao14,co14,eo14⟩:=Kd.R_slice HO1292.out;subst eo14)|((with_reducible refine gate_callee (f:=45) rfl ?_);refine goesL_ (some 33) rfl rfl Try.func45 (by kernel_rfl) rfl #[.slice Ao14 t1290.length co14,.int .i64 a1] rfl (by (try simp only [List.map_toArray,List.map_cons,List.map_nil]);first|done|rfl|(simp only [List.length_drop,List.length_take];rfl)) ?_;(with_reducible refine (impl_MerklePath.calls k _ _ t1290 a1 t1293 t1294 _ ?side1 ?side2 A8.out).mono ?_);(case side1=> repeat (first|exact (Kd.R_reads' HO1292.out).2.2|(with_reducible refine Kd.C_alloc ?_ _)|(with_reducible refine Kd.C_drewN ?_ _)|(with_reducible refine Kd.C_drew ?_)));(case side2=> exact (Kd.R_reads' HO1292.out).2.1);rintro e w15 ⟨v1295,rfl,ho0,hb⟩;refine ⟨_,rfl,?_⟩;have n0_:=Aside0.mk (Kd.R_elder' (by (with_reducible repeat (first|apply Kd.R_alloc|apply Kd.R_drewN|apply Kd.R_drew));exact HO1285.out) (Kd.R_base ho0) hb);have n1_:=Aside0.mk (Kd.R_elder' (by (with_reducible repeat (first|apply Kd.R_alloc|apply Kd.R_drewN|apply Kd.R_drew));exact HO1289.out) (Kd.R_base ho0) hb);have n2_:=Aside0.mk (Kd.R_elder' (by (with_reducible repeat (first|apply Kd.R_alloc|apply Kd.R_drewN|apply Kd.R_drew));exact HO1292.out) (Kd.R_base ho0) hb);have n3_:=Aside0.mk (Kd.R_lower (Kd.R_new' (Kd.R_new' (Kd.R_new' ho0 (Kd.R_lt (by (with_reducible repeat (first|apply Kd.R_alloc|apply Kd.R_drewN|apply Kd.R_drew));exact HO1285.out))) (Kd.R_lt (by (with_reducible repeat (first|apply Kd.R_alloc|apply Kd.R_drewN|apply Kd.R_drew));exact HO1289.out))) (Kd.R_lt (by (with_reducible repeat (first|apply Kd.R_alloc|apply Kd.R_drewN|apply Kd.R_drew));exact HO1292.out))) (below_size (by repeat (first|(with_reducible first|exact HB.out|apply bwA|apply bwN|apply bwD)|exact HB.out))));have n4_:=Aside0.mk (below_step (by repeat (first|(with_reducible first|exact HB.out|apply bwA|apply bwN|apply bwD)|exact HB.out)) hb);clear HO1285;clear HO1289;clear HO1292;clear HB;have HO1285:=n0_;have HO1289:=n1_;have HO1292:=n2_;have HO1296:=n3_;have HB:=n4_;clear n0_ n1_ n2_ n3_ n4_;(try clear hb);(try clear hb2);(try clear hk);(try clear hi);(try clear ho0)))
    (try simp only [Act.put,List.setIfInBounds_toArray,List.set_cons_zero,List.set_cons_succ])
    go_cut [44] (fun v44 wc=> ∃ (kq:Nat) (x44_8:Bool),v44= .bool x44_8 ∧ Aside0 (laws_FnExactMerklePath.j0 kq l0 a1 t1286 t1287 t1290 t1293 t1294 x44_8=some r) ∧ Aside0 (kq ≤ k) ∧ Aside0 (Kd.R Kd.string 9 wc w.heap.size (fun k_=> some k_ ≠ ((.slice Ao14 t1290.length co14):Value).ownBlock ∧ some k_ ≠ (v1295:Value).ownBlock) v1288 t1286) ∧ Aside0 (Kd.R Kd.string 9 wc w.heap.size (fun k_=> some k_ ≠ (v1288:Value).ownBlock ∧ some k_ ≠ (v1295:Value).ownBlock) (.slice Ao14 t1290.length co14) t1290) ∧ Aside0 (Kd.R Kd.string 9 wc w.heap.size (fun k_=> some k_ ≠ (v1288:Value).ownBlock ∧ some k_ ≠ ((.slice Ao14 t1290.length co14):Value).ownBlock) v1295 t1293) ∧ Aside0 (Below w.heap.size w wc))
    case first=>
      have H:=HC9.out
      clear HC9
      replace H:=Option.bind_eq_some_iff.mp H
      obtain ⟨t1297,A160,H⟩:=H
      replace H:(if t1297=true then (laws_FnExactMerklePath.j0 k l0 a1 t1286 t1287 t1290 t1293 t1294 (t1294 !=t1287)) else (none))=some r:=H
      have A16:=Aside0.mk A160
      clear A160
      by_cases c17:t1297=true
      · subst c17
        have H1:(laws_FnExactMerklePath.j0 k l0 a1 t1286 t1287 t1290 t1293 t1294 (t1294 !=t1287))=some r:=by rw [if_pos rfl] at H;exact H
        clear H
        have H:=H1
        clear H1
        have H':=Aside0.mk H
        clear H
        obtain ⟨Ao18,co18,eo18⟩:=Kd.R_slice HO1296.out
        subst eo18
        obtain ⟨Ao19,co19,eo19⟩:=Kd.R_slice HO1289.out
        subst eo19
        go_wp2_with (first|((with_reducible refine gate_callee (f:=43) rfl ?_);refine goesL_ (some 38) rfl rfl Try.func43 (by kernel_rfl) rfl #[.slice Ao18 t1293.length co18,.slice Ao19 t1286.length co19] rfl (by (try simp only [List.map_toArray,List.map_cons,List.map_nil]);first|done|rfl|(simp only [List.length_drop,List.length_take];rfl)) ?_;(with_reducible refine (laws_eqStringS.calls k _ _ t1293 _ _ t1286 true _ ?side1 ?side2 ?side3 ?side4 A16.out).mono ?_);(case side1=> repeat (first|exact (Kd.R_reads' HO1296.out).2.2|(with_reducible refine Kd.C_alloc ?_ _)|(with_reducible refine Kd.C_drewN ?_ _)|(with_reducible refine Kd.C_drew ?_)));(case side2=> exact (Kd.R_reads' HO1296.out).2.1);(case side3=> repeat (first|exact (Kd.R_reads' HO1289.out).2.2|(with_reducible refine Kd.C_alloc ?_ _)|(with_reducible refine Kd.C_drewN ?_ _)|(with_reducible refine Kd.C_drew ?_)));(case side4=> exact (Kd.R_reads' HO1289.out).2.1);rintro e w' ⟨rfl,⟨nd,rfl⟩⟩;refine ⟨_,rfl,?_⟩))
        go_meet
        case rel=> exact ⟨_,((t1294 !=t1287)),(by first|rfl|(simp;done)|(simp [*];done)),H',⟨by first|omega|exact Nat.le_refl _⟩,⟨by (with_reducible repeat (first|apply Kd.R_alloc|apply Kd.R_drewN|apply Kd.R_drew));exact Kd.R_mono HO1289.out (fun _ hk=> ⟨hk.1.2,hk.2⟩)⟩,⟨by (with_reducible repeat (first|apply Kd.R_alloc|apply Kd.R_drewN|apply Kd.R_drew));exact Kd.R_mono HO1292.out (fun _ hk=> ⟨hk.1.2,hk.2⟩)⟩,⟨by (with_reducible repeat (first|apply Kd.R_alloc|apply Kd.R_drewN|apply Kd.R_drew));exact Kd.R_mono HO1296.out (fun _ hk=> ⟨hk.1.2,hk.2⟩)⟩,⟨by repeat (first|(with_reducible first|exact HB.out|apply bwA|apply bwN|apply bwD)|exact HB.out)⟩⟩
      · replace c17:=Bool.eq_false_iff.mpr c17
        subst c17
        have H1:(none)=some r:=by rw [if_neg (show ¬ (false=true) by decide)] at H;exact H
        clear H
        have H:=H1
        clear H1
        exact absurd H (by simp)
    case rest=>
      clear HC9
      try clear c1
      try clear p2
      try clear c3
      try clear c4
      try clear c4b0
      try clear c10
      try clear c17
      obtain ⟨kq,x44_8,rfl,HA,HJ8,HO_6,HO_8,HO_9,HB⟩:=hcut
      cases kq with
      |zero=> exact absurd HA.out (by simp [laws_FnExactMerklePath.j0])
      |succ kj8=>
        have H:=HA.out
        clear HA
        simp only [laws_FnExactMerklePath.j0] at H
        by_cases c20:x44_8=true
        · subst c20
          have H1:(none)=some r:=by rw [if_pos rfl] at H;exact H
          clear H
          have H:=H1
          clear H1
          exact absurd H (by simp)
        · replace c20:=Bool.eq_false_iff.mpr c20
          subst c20
          have H1:((laws_toStringS.f kj8 l0).bind fun t1298=> ((laws_eqStringS.f kj8 t1290 t1298).bind fun t1301=> (if t1301=true then ((laws_markStringS.f kj8 t1290 1).bind fun bt1302=> (if bt1302.1 < 0 then (none) else ((laws_eqStringS.f kj8 t1293 t1286).bind fun t1304=> (if t1304=true then (laws_FnExactMerklePath.j1 kj8 l0 a1 t1286 t1287 t1293 (t1294 !=t1287)) else (none))))) else (none))))=some r:=by rw [if_neg (show ¬ (false=true) by decide)] at H;exact H
          clear H
          have H:=H1
          clear H1
          replace H:=Option.bind_eq_some_iff.mp H
          obtain ⟨t1298,A210,H⟩:=H
          replace H:((laws_eqStringS.f kj8 t1290 t1298).bind fun t1301=> (if t1301=true then ((laws_markStringS.f kj8 t1290 1).bind fun bt1302=> (if bt1302.1 < 0 then (none) else ((laws_eqStringS.f kj8 t1293 t1286).bind fun t1304=> (if t1304=true then (laws_FnExactMerklePath.j1 kj8 l0 a1 t1286 t1287 t1293 (t1294 !=t1287)) else (none))))) else (none)))=some r:=H
          have A21:=Aside0.mk A210
          clear A210
          replace H:=Option.bind_eq_some_iff.mp H
          obtain ⟨t1301,A220,H⟩:=H
          replace H:(if t1301=true then ((laws_markStringS.f kj8 t1290 1).bind fun bt1302=> (if bt1302.1 < 0 then (none) else ((laws_eqStringS.f kj8 t1293 t1286).bind fun t1304=> (if t1304=true then (laws_FnExactMerklePath.j1 kj8 l0 a1 t1286 t1287 t1293 (t1294 !=t1287)) else (none))))) else (none))=some r:=H
          have A22:=Aside0.mk A220
          clear A220
          by_cases c23:t1301=true
          · subst c23
            have H1:((laws_markStringS.f kj8 t1290 1).bind fun bt1302=> (if bt1302.1 < 0 then (none) else ((laws_eqStringS.f kj8 t1293 t1286).bind fun t1304=> (if t1304=true then (laws_FnExactMerklePath.j1 kj8 l0 a1 t1286 t1287 t1293 (t1294 !=t1287)) else (none)))))=some r:=by rw [if_pos rfl] at H;exact H
            clear H
            have H:=H1
            clear H1
            replace H:=Option.bind_eq_some_iff.mp H
            obtain ⟨⟨t1302,t1303⟩,A240,H⟩:=H
            replace H:(if t1302 < 0 then (none) else ((laws_eqStringS.f kj8 t1293 t1286).bind fun t1304=> (if t1304=true then (laws_FnExactMerklePath.j1 kj8 l0 a1 t1286 t1287 t1293 (t1294 !=t1287)) else (none))))=some r:=H
            have A24:=Aside0.mk A240
            clear A240
            have HC25:=Aside0.mk H
            clear H
            go_upto_region 14 with (first|((with_reducible refine gate_callee (f:=41) rfl ?_);refine goesL_ (some 47) rfl rfl Try.func41 (by kernel_rfl) rfl #[.slice A0 l0.length c0] rfl (by (try simp only [List.map_toArray,List.map_cons,List.map_nil]);first|done|rfl|(simp only [List.length_drop,List.length_take];rfl)) ?_;(with_reducible refine (laws_toStringS.calls kj8 _ _ l0 t1298 _ ?side1 ?side2 A21.out).mono ?_);(case side1=> repeat (first|exact (Kd.C_below HR0.out HB.out)|(with_reducible refine Kd.C_alloc ?_ _)|(with_reducible refine Kd.C_drewN ?_ _)|(with_reducible refine Kd.C_drew ?_)));(case side2=> exact HC0.out);rintro e w26 ⟨v1299,rfl,ho0,hb⟩;refine ⟨_,rfl,?_⟩;have n0_:=Aside0.mk (Kd.R_elder' (by (with_reducible repeat (first|apply Kd.R_alloc|apply Kd.R_drewN|apply Kd.R_drew));exact HO_6.out) (Kd.R_base ho0) hb);have n1_:=Aside0.mk (Kd.R_elder' (by (with_reducible repeat (first|apply Kd.R_alloc|apply Kd.R_drewN|apply Kd.R_drew));exact HO_8.out) (Kd.R_base ho0) hb);have n2_:=Aside0.mk (Kd.R_elder' (by (with_reducible repeat (first|apply Kd.R_alloc|apply Kd.R_drewN|apply Kd.R_drew));exact HO_9.out) (Kd.R_base ho0) hb);have n3_:=Aside0.mk (Kd.R_lower (Kd.R_new' (Kd.R_new' (Kd.R_new' ho0 (Kd.R_lt (by (with_reducible repeat (first|apply Kd.R_alloc|apply Kd.R_drewN|apply Kd.R_drew));exact HO_6.out))) (Kd.R_lt (by (with_reducible repeat (first|apply Kd.R_alloc|apply Kd.R_drewN|apply Kd.R_drew));exact HO_8.out))) (Kd.R_lt (by (with_reducible repeat (first|apply Kd.R_alloc|apply Kd.R_drewN|apply Kd.R_drew));exact HO_9.out))) (below_size (by repeat (first|(with_reducible first|exact HB.out|apply bwA|apply bwN|apply bwD)|exact HB.out))));have n4_:=Aside0.mk (below_step (by repeat (first|(with_reducible first|exact HB.out|apply bwA|apply bwN|apply bwD)|exact HB.out)) hb);clear HO_6;clear HO_8;clear HO_9;clear HB;have HO_6:=n0_;have HO_8:=n1_;have HO_9:=n2_;have HO1300:=n3_;have HB:=n4_;clear n0_ n1_ n2_ n3_ n4_;(try clear hb);(try clear hb2);(try clear hk);(try clear hi);(try clear ho0);obtain ⟨Ao27,co27,eo27⟩:=Kd.R_slice HO1300.out;subst eo27)|((with_reducible refine gate_callee (f:=43) rfl ?_);refine goesL_ (some 48) rfl rfl Try.func43 (by kernel_rfl) rfl #[.slice Ao14 t1290.length co14,.slice Ao27 t1298.length co27] rfl (by (try simp only [List.map_toArray,List.map_cons,List.map_nil]);first|done|rfl|(simp only [List.length_drop,List.length_take];rfl)) ?_;(with_reducible refine (laws_eqStringS.calls kj8 _ _ t1290 _ _ t1298 true _ ?side1 ?side2 ?side3 ?side4 A22.out).mono ?_);(case side1=> repeat (first|exact (Kd.R_reads' HO_8.out).2.2|(with_reducible refine Kd.C_alloc ?_ _)|(with_reducible refine Kd.C_drewN ?_ _)|(with_reducible refine Kd.C_drew ?_)));(case side2=> exact (Kd.R_reads' HO_8.out).2.1);(case side3=> repeat (first|exact (Kd.R_reads' HO1300.out).2.2|(with_reducible refine Kd.C_alloc ?_ _)|(with_reducible refine Kd.C_drewN ?_ _)|(with_reducible refine Kd.C_drew ?_)));(case side4=> exact (Kd.R_reads' HO1300.out).2.1);rintro e w' ⟨rfl,⟨nd,rfl⟩⟩;refine ⟨_,rfl,?_⟩)|((with_reducible refine gate_callee (f:=46) rfl ?_);refine goesL_ (some 52) rfl rfl Try.func46 (by kernel_rfl) rfl #[.slice Ao14 t1290.length co14,.int .i64 1] rfl (by (try simp only [List.map_toArray,List.map_cons,List.map_nil]);first|done|rfl|(simp only [List.length_drop,List.length_take];rfl)) ?_;(with_reducible refine (laws_markStringS.calls kj8 (fun k_=> some k_=(.slice Ao14 t1290.length co14:Value).ownBlock) (.slice Ao14 t1290.length co14) t1290 1 t1302 t1303 w _ ?side1 ?side2 A24.out).mono ?_);(case side1=> repeat (first|(with_reducible first|exact HB.out|apply bwA|apply bwN|apply bwD)|exact HB.out));(case side2=> exact Kd.R_tight rfl HO_8.out);rintro e w28 ⟨rfl,hy0,hb,hkp⟩;refine ⟨_,rfl,?_⟩;have n0_:=Aside0.mk (Kd.R_mono (ok':=fun k_=> some k_ ≠ (.slice Ao14 t1290.length co14:Value).ownBlock ∧ some k_ ≠ (v1295:Value).ownBlock ∧ some k_ ≠ (.slice Ao27 t1298.length co27:Value).ownBlock) (Kd.R_keptB (HO_6.out) hkp (fun k_ hk_ hs_=> (hk_.1.1) hs_)) (fun k_ hk_=> ⟨hk_.1.1.1,hk_.1.1.2,hk_.1.2⟩));have n1_:=Aside0.mk (Kd.R_reok rfl hy0 (fun k_ e_=> HO_8.out.1 k_ e_));have n2_:=Aside0.mk (Kd.R_mono (ok':=fun k_=> some k_ ≠ (v1288:Value).ownBlock ∧ some k_ ≠ (.slice Ao14 t1290.length co14:Value).ownBlock ∧ some k_ ≠ (.slice Ao27 t1298.length co27:Value).ownBlock) (Kd.R_keptB (HO_9.out) hkp (fun k_ hk_ hs_=> (hk_.1.2) hs_)) (fun k_ hk_=> ⟨hk_.1.1.1,hk_.1.1.2,hk_.1.2⟩));have n3_:=Aside0.mk (Kd.R_mono (ok':=fun k_=> some k_ ≠ (v1288:Value).ownBlock ∧ some k_ ≠ (.slice Ao14 t1290.length co14:Value).ownBlock ∧ some k_ ≠ (v1295:Value).ownBlock) (Kd.R_keptB (HO1300.out) hkp (fun k_ hk_ hs_=> (hk_.1.2) hs_)) (fun k_ hk_=> ⟨hk_.1.1.1.2,hk_.1.1.2,hk_.1.2⟩));have n4_:=Aside0.mk (hb);clear HO_6;clear HO_8;clear HO_9;clear HO1300;clear HB;have HO_6:=n0_;have HO_8:=n1_;have HO_9:=n2_;have HO1300:=n3_;have HB:=n4_;clear n0_ n1_ n2_ n3_ n4_;(try clear hb);(try clear hkp);(try clear hy0)))
            (try simp only [Act.put,List.setIfInBounds_toArray,List.set_cons_zero,List.set_cons_succ])
            go_cut [65] (fun v65 wc=> ∃ (kq:Nat) (x65_24:Bool),v65= .bool x65_24 ∧ Aside0 (laws_FnExactMerklePath.j1 kq l0 a1 t1286 t1287 t1293 x65_24=some r) ∧ Aside0 (kq ≤ kj8) ∧ Aside0 (Kd.R Kd.string 9 wc w.heap.size (fun k_=> some k_ ≠ (v1295:Value).ownBlock) v1288 t1286) ∧ Aside0 (Kd.R Kd.string 9 wc w.heap.size (fun k_=> some k_ ≠ (v1288:Value).ownBlock) v1295 t1293) ∧ Aside0 (Below w.heap.size w wc))
            case first=>
              have H:=HC25.out
              clear HC25
              by_cases c29:t1302 < 0
              · rw [if_pos c29] at H
                exact absurd H (by simp)
              · rw [if_neg c29] at H
                have c29b0:decide (t1302 < 0)=false:=decide_eq_false c29
                clear c29
                (first|rw [c29b0]|(simp only [i64_w,i32_w];rw [c29b0])|skip)
                replace H:=Option.bind_eq_some_iff.mp H
                obtain ⟨t1304,A300,H⟩:=H
                replace H:(if t1304=true then (laws_FnExactMerklePath.j1 kj8 l0 a1 t1286 t1287 t1293 (t1294 !=t1287)) else (none))=some r:=H
                have A30:=Aside0.mk A300
                clear A300
                by_cases c31:t1304=true
                · subst c31
                  have H1:(laws_FnExactMerklePath.j1 kj8 l0 a1 t1286 t1287 t1293 (t1294 !=t1287))=some r:=by rw [if_pos rfl] at H;exact H
                  clear H
                  have H:=H1
                  clear H1
                  have H':=Aside0.mk H
                  clear H
                  obtain ⟨Ao32,co32,eo32⟩:=Kd.R_slice HO_9.out
                  subst eo32
                  obtain ⟨Ao33,co33,eo33⟩:=Kd.R_slice HO_6.out
                  subst eo33
                  go_wp2_with (first|(go_at_call 43;(with_reducible refine (laws_eqStringS.calls kj8 _ _ t1293 _ _ t1286 true _ ?side1 ?side2 ?side3 ?side4 A30.out).mono ?_);(case side1=> repeat (first|exact (Kd.R_reads' HO_9.out).2.2|(with_reducible refine Kd.C_alloc ?_ _)|(with_reducible refine Kd.C_drewN ?_ _)|(with_reducible refine Kd.C_drew ?_)));(case side2=> exact (Kd.R_reads' HO_9.out).2.1);(case side3=> repeat (first|exact (Kd.R_reads' HO_6.out).2.2|(with_reducible refine Kd.C_alloc ?_ _)|(with_reducible refine Kd.C_drewN ?_ _)|(with_reducible refine Kd.C_drew ?_)));(case side4=> exact (Kd.R_reads' HO_6.out).2.1);rintro e w' ⟨rfl,⟨nd,rfl⟩⟩))
                  go_meet
                  case rel=> exact ⟨_,((t1294 !=t1287)),(by first|rfl|(simp;done)|(simp [*];done)),H',⟨by have:=HJ8.out;first|omega|exact Nat.le_refl _⟩,⟨by (with_reducible repeat (first|apply Kd.R_alloc|apply Kd.R_drewN|apply Kd.R_drew));exact Kd.R_mono HO_6.out (fun _ hk=> hk.2.1)⟩,⟨by (with_reducible repeat (first|apply Kd.R_alloc|apply Kd.R_drewN|apply Kd.R_drew));exact Kd.R_mono HO_9.out (fun _ hk=> hk.1)⟩,⟨by repeat (first|(with_reducible first|exact HB.out|apply bwA|apply bwN|apply bwD)|exact HB.out)⟩⟩
                · replace c31:=Bool.eq_false_iff.mpr c31
                  subst c31
                  have H1:(none)=some r:=by rw [if_neg (show ¬ (false=true) by decide)] at H;exact H
                  clear H
                  have H:=H1
                  clear H1
                  exact absurd H (by simp)
            case rest=>
              clear HC25
              try clear c1
              try clear c2
              try clear p2
              try clear c3
              try clear c4
              try clear c4b0
              try clear c10
              try clear c17
              try clear c20
              try clear c23
              try clear c29
              try clear c29b0
              try clear c31
              try clear p2
              obtain ⟨kq,x65_24,rfl,HA,HJ24,HO_6,HO_9,HB⟩:=hcut
              cases kq with
              |zero=> exact absurd HA.out (by simp [laws_FnExactMerklePath.j1])
              |succ kj24=>
                have H:=HA.out
                clear HA
                simp only [laws_FnExactMerklePath.j1] at H
                by_cases c34:x65_24=true
                · subst c34
                  have H1:(none)=some r:=by rw [if_pos rfl] at H;exact H
                  clear H
                  have H:=H1
                  clear H1
                  exact absurd H (by simp)
                · replace c34:=Bool.eq_false_iff.mpr c34
                  subst c34
                  have H1:((laws_markStringS.f kj24 t1293 1).bind fun bt1305=> ((laws_heldStringS.f kj24 bt1305.2 1).bind fun t1307=> (if t1307 < 0 then (none) else (if t1307=bt1305.1 then ((laws_toStringS.f kj24 l0).bind fun t1308=> ((impl_MerklePath.f kj24 t1308 a1).bind fun bt1311=> ((laws_eqStringS.f kj24 bt1311.1 t1286).bind fun t1315=> (if t1315=true then (laws_FnExactMerklePath.j2 kj24 bt1305.2 bt1305.1 (bt1311.2 !=t1287)) else (none))))) else (none)))))=some r:=by rw [if_neg (show ¬ (false=true) by decide)] at H;exact H
                  clear H
                  have H:=H1
                  clear H1
                  replace H:=Option.bind_eq_some_iff.mp H
                  obtain ⟨⟨t1305,t1306⟩,A350,H⟩:=H
                  replace H:((laws_heldStringS.f kj24 t1306 1).bind fun t1307=> (if t1307 < 0 then (none) else (if t1307=t1305 then ((laws_toStringS.f kj24 l0).bind fun t1308=> ((impl_MerklePath.f kj24 t1308 a1).bind fun bt1311=> ((laws_eqStringS.f kj24 bt1311.1 t1286).bind fun t1315=> (if t1315=true then (laws_FnExactMerklePath.j2 kj24 t1306 t1305 (bt1311.2 !=t1287)) else (none))))) else (none))))=some r:=H
                  have A35:=Aside0.mk A350
                  clear A350
                  replace H:=Option.bind_eq_some_iff.mp H
                  obtain ⟨t1307,A360,H⟩:=H
                  replace H:(if t1307 < 0 then (none) else (if t1307=t1305 then ((laws_toStringS.f kj24 l0).bind fun t1308=> ((impl_MerklePath.f kj24 t1308 a1).bind fun bt1311=> ((laws_eqStringS.f kj24 bt1311.1 t1286).bind fun t1315=> (if t1315=true then (laws_FnExactMerklePath.j2 kj24 t1306 t1305 (bt1311.2 !=t1287)) else (none))))) else (none)))=some r:=H
                  have A36:=Aside0.mk A360
                  clear A360
                  by_cases c37:t1307 < 0
                  · rw [if_pos c37] at H
                    exact absurd H (by simp)
                  · rw [if_neg c37] at H
                    have c37b0:decide (t1307 < 0)=false:=decide_eq_false c37
                    clear c37
                    by_cases c38:t1307=t1305
                    · rw [if_pos c38] at H
                      have c38b0:(t1307==t1305)=true:=beq_iff_eq.mpr c38
                      have c38b1:(t1307 !=t1305)=false:=bne_eq_false_iff_eq.mpr c38
                      clear c38
                      replace H:=Option.bind_eq_some_iff.mp H
                      obtain ⟨t1308,A390,H⟩:=H
                      replace H:((impl_MerklePath.f kj24 t1308 a1).bind fun bt1311=> ((laws_eqStringS.f kj24 bt1311.1 t1286).bind fun t1315=> (if t1315=true then (laws_FnExactMerklePath.j2 kj24 t1306 t1305 (bt1311.2 !=t1287)) else (none))))=some r:=H
                      have A39:=Aside0.mk A390
                      clear A390
                      replace H:=Option.bind_eq_some_iff.mp H
                      obtain ⟨⟨t1311,t1312⟩,A400,H⟩:=H
                      replace H:((laws_eqStringS.f kj24 t1311 t1286).bind fun t1315=> (if t1315=true then (laws_FnExactMerklePath.j2 kj24 t1306 t1305 (t1312 !=t1287)) else (none)))=some r:=H
                      have A40:=Aside0.mk A400
                      clear A400
                      have HC41:=Aside0.mk H
                      clear H
                      obtain ⟨Ao42,co42,eo42⟩:=Kd.R_slice HO_9.out
                      subst eo42
                      go_upto_region 25 with (first|((with_reducible refine gate_callee (f:=46) rfl ?_);refine goesL_ (some 68) rfl rfl Try.func46 (by kernel_rfl) rfl #[.slice Ao42 t1293.length co42,.int .i64 1] rfl (by (try simp only [List.map_toArray,List.map_cons,List.map_nil]);first|done|rfl|(simp only [List.length_drop,List.length_take];rfl)) ?_;(with_reducible refine (laws_markStringS.calls kj24 (fun k_=> some k_=(.slice Ao42 t1293.length co42:Value).ownBlock) (.slice Ao42 t1293.length co42) t1293 1 t1305 t1306 w _ ?side1 ?side2 A35.out).mono ?_);(case side1=> repeat (first|(with_reducible first|exact HB.out|apply bwA|apply bwN|apply bwD)|exact HB.out));(case side2=> exact Kd.R_tight rfl HO_9.out);rintro e w43 ⟨rfl,hy0,hb,hkp⟩;refine ⟨_,rfl,?_⟩;have n0_:=Aside0.mk (Kd.R_mono (ok':=fun k_=> some k_ ≠ (.slice Ao42 t1293.length co42:Value).ownBlock) (Kd.R_keptB (HO_6.out) hkp (fun k_ hk_ hs_=> (hk_) hs_)) (fun k_ hk_=> hk_.1));have n1_:=Aside0.mk (Kd.R_reok rfl hy0 (fun k_ e_=> HO_9.out.1 k_ e_));have n2_:=Aside0.mk (hb);clear HO_6;clear HO_9;clear HB;have HO_6:=n0_;have HO_9:=n1_;have HB:=n2_;clear n0_ n1_ n2_;(try clear hb);(try clear hkp);(try clear hy0))|((with_reducible refine gate_callee (f:=47) rfl ?_);refine goesL_ (some 71) rfl rfl Try.func47 (by kernel_rfl) rfl #[.slice Ao42 t1306.length co42,.int .i64 1] rfl (by (try simp only [List.map_toArray,List.map_cons,List.map_nil]);first|done|(rw [show t1306.length=t1293.length from (Kd.R_reads' HO_9.out).1.symm] <;> rfl)|rfl|(simp only [List.length_drop,List.length_take];rfl)) ?_;(with_reducible refine (laws_heldStringS.calls kj24 _ _ t1306 1 t1307 _ ?side1 ?side2 A36.out).mono ?_);(case side1=> repeat (first|exact (Kd.R_reads' HO_9.out).2.2|(with_reducible refine Kd.C_alloc ?_ _)|(with_reducible refine Kd.C_drewN ?_ _)|(with_reducible refine Kd.C_drew ?_)));(case side2=> rw [show t1306.length=t1293.length from (Kd.R_reads' HO_9.out).1.symm];exact (Kd.R_reads' HO_9.out).2.1);rintro e w44 ⟨rfl,hb⟩;refine ⟨_,rfl,?_⟩;have n0_:=Aside0.mk (Kd.R_below (by (with_reducible repeat (first|apply Kd.R_alloc|apply Kd.R_drewN|apply Kd.R_drew));exact HO_6.out) hb);have n1_:=Aside0.mk (Kd.R_below (by (with_reducible repeat (first|apply Kd.R_alloc|apply Kd.R_drewN|apply Kd.R_drew));exact HO_9.out) hb);have n2_:=Aside0.mk (below_step (by repeat (first|(with_reducible first|exact HB.out|apply bwA|apply bwN|apply bwD)|exact HB.out)) hb);clear HO_6;clear HO_9;clear HB;have HO_6:=n0_;have HO_9:=n1_;have HB:=n2_;clear n0_ n1_ n2_;(try clear hb);(try clear hb2);(try clear hk);(try clear hi))|((with_reducible refine gate_callee (f:=41) rfl ?_);refine goesL_ (some 79) rfl rfl Try.func41 (by kernel_rfl) rfl #[.slice A0 l0.length c0] rfl (by (try simp only [List.map_toArray,List.map_cons,List.map_nil]);first|done|rfl|(simp only [List.length_drop,List.length_take];rfl)) ?_;(with_reducible refine (laws_toStringS.calls kj24 _ _ l0 t1308 _ ?side1 ?side2 A39.out).mono ?_);(case side1=> repeat (first|exact (Kd.C_below HR0.out HB.out)|(with_reducible refine Kd.C_alloc ?_ _)|(with_reducible refine Kd.C_drewN ?_ _)|(with_reducible refine Kd.C_drew ?_)));(case side2=> exact HC0.out);rintro e w45 ⟨v1309,rfl,ho0,hb⟩;refine ⟨_,rfl,?_⟩;have n0_:=Aside0.mk (Kd.R_elder' (by (with_reducible repeat (first|apply Kd.R_alloc|apply Kd.R_drewN|apply Kd.R_drew));exact HO_6.out) (Kd.R_base ho0) hb);have n1_:=Aside0.mk (Kd.R_elder' (by (with_reducible repeat (first|apply Kd.R_alloc|apply Kd.R_drewN|apply Kd.R_drew));exact HO_9.out) (Kd.R_base ho0) hb);have n2_:=Aside0.mk (Kd.R_lower (Kd.R_new' (Kd.R_new' ho0 (Kd.R_lt (by (with_reducible repeat (first|apply Kd.R_alloc|apply Kd.R_drewN|apply Kd.R_drew));exact HO_6.out))) (Kd.R_lt (by (with_reducible repeat (first|apply Kd.R_alloc|apply Kd.R_drewN|apply Kd.R_drew));exact HO_9.out))) (below_size (by repeat (first|(with_reducible first|exact HB.out|apply bwA|apply bwN|apply bwD)|exact HB.out))));have n3_:=Aside0.mk (below_step (by repeat (first|(with_reducible first|exact HB.out|apply bwA|apply bwN|apply bwD)|exact HB.out)) hb);clear HO_6;clear HO_9;clear HB;have HO_6:=n0_;have HO_9:=n1_;have HO1310:=n2_;have HB:=n3_;clear n0_ n1_ n2_ n3_;(try clear hb);(try clear hb2);(try clear hk);(try clear hi);(try clear ho0);obtain ⟨Ao46,co46,eo46⟩:=Kd.R_slice HO1310.out;subst eo46)|((with_reducible refine gate_callee (f:=45) rfl ?_);refine goesL_ (some 81) rfl rfl Try.func45 (by kernel_rfl) rfl #[.slice Ao46 t1308.length co46,.int .i64 a1] rfl (by (try simp only [List.map_toArray,List.map_cons,List.map_nil]);first|done|rfl|(simp only [List.length_drop,List.length_take];rfl)) ?_;(with_reducible refine (impl_MerklePath.calls kj24 _ _ t1308 a1 t1311 t1312 _ ?side1 ?side2 A40.out).mono ?_);(case side1=> repeat (first|exact (Kd.R_reads' HO1310.out).2.2|(with_reducible refine Kd.C_alloc ?_ _)|(with_reducible refine Kd.C_drewN ?_ _)|(with_reducible refine Kd.C_drew ?_)));(case side2=> exact (Kd.R_reads' HO1310.out).2.1);rintro e w47 ⟨v1313,rfl,ho0,hb⟩;refine ⟨_,rfl,?_⟩;have n0_:=Aside0.mk (Kd.R_elder' (by (with_reducible repeat (first|apply Kd.R_alloc|apply Kd.R_drewN|apply Kd.R_drew));exact HO_6.out) (Kd.R_base ho0) hb);have n1_:=Aside0.mk (Kd.R_elder' (by (with_reducible repeat (first|apply Kd.R_alloc|apply Kd.R_drewN|apply Kd.R_drew));exact HO_9.out) (Kd.R_base ho0) hb);have n2_:=Aside0.mk (Kd.R_elder' (by (with_reducible repeat (first|apply Kd.R_alloc|apply Kd.R_drewN|apply Kd.R_drew));exact HO1310.out) (Kd.R_base ho0) hb);have n3_:=Aside0.mk (Kd.R_lower (Kd.R_new' (Kd.R_new' (Kd.R_new' ho0 (Kd.R_lt (by (with_reducible repeat (first|apply Kd.R_alloc|apply Kd.R_drewN|apply Kd.R_drew));exact HO_6.out))) (Kd.R_lt (by (with_reducible repeat (first|apply Kd.R_alloc|apply Kd.R_drewN|apply Kd.R_drew));exact HO_9.out))) (Kd.R_lt (by (with_reducible repeat (first|apply Kd.R_alloc|apply Kd.R_drewN|apply Kd.R_drew));exact HO1310.out))) (below_size (by repeat (first|(with_reducible first|exact HB.out|apply bwA|apply bwN|apply bwD)|exact HB.out))));have n4_:=Aside0.mk (below_step (by repeat (first|(with_reducible first|exact HB.out|apply bwA|apply bwN|apply bwD)|exact HB.out)) hb);clear HO_6;clear HO_9;clear HO1310;clear HB;have HO_6:=n0_;have HO_9:=n1_;have HO1310:=n2_;have HO1314:=n3_;have HB:=n4_;clear n0_ n1_ n2_ n3_ n4_;(try clear hb);(try clear hb2);(try clear hk);(try clear hi);(try clear ho0)))
                      (try simp only [Act.put,List.setIfInBounds_toArray,List.set_cons_zero,List.set_cons_succ])
                      go_cut [92] (fun v92 wc=> ∃ (kq:Nat) (x92_40:Bool),v92= .bool x92_40 ∧ Aside0 (laws_FnExactMerklePath.j2 kq t1306 t1305 x92_40=some r) ∧ Aside0 (kq ≤ kj24) ∧ Aside0 (Kd.R Kd.string 9 wc w.heap.size (fun _=> True) (.slice Ao42 t1293.length co42) t1306) ∧ Aside0 (Below w.heap.size w wc))
                      case first=>
                        have H:=HC41.out
                        clear HC41
                        replace H:=Option.bind_eq_some_iff.mp H
                        obtain ⟨t1315,A480,H⟩:=H
                        replace H:(if t1315=true then (laws_FnExactMerklePath.j2 kj24 t1306 t1305 (t1312 !=t1287)) else (none))=some r:=H
                        have A48:=Aside0.mk A480
                        clear A480
                        by_cases c49:t1315=true
                        · subst c49
                          have H1:(laws_FnExactMerklePath.j2 kj24 t1306 t1305 (t1312 !=t1287))=some r:=by rw [if_pos rfl] at H;exact H
                          clear H
                          have H:=H1
                          clear H1
                          have H':=Aside0.mk H
                          clear H
                          obtain ⟨Ao50,co50,eo50⟩:=Kd.R_slice HO1314.out
                          subst eo50
                          obtain ⟨Ao51,co51,eo51⟩:=Kd.R_slice HO_6.out
                          subst eo51
                          go_wp2_with (first|((with_reducible refine gate_callee (f:=43) rfl ?_);refine goesL_ (some 86) rfl rfl Try.func43 (by kernel_rfl) rfl #[.slice Ao50 t1311.length co50,.slice Ao51 t1286.length co51] rfl (by (try simp only [List.map_toArray,List.map_cons,List.map_nil]);first|done|rfl|(simp only [List.length_drop,List.length_take];rfl)) ?_;(with_reducible refine (laws_eqStringS.calls kj24 _ _ t1311 _ _ t1286 true _ ?side1 ?side2 ?side3 ?side4 A48.out).mono ?_);(case side1=> repeat (first|exact (Kd.R_reads' HO1314.out).2.2|(with_reducible refine Kd.C_alloc ?_ _)|(with_reducible refine Kd.C_drewN ?_ _)|(with_reducible refine Kd.C_drew ?_)));(case side2=> exact (Kd.R_reads' HO1314.out).2.1);(case side3=> repeat (first|exact (Kd.R_reads' HO_6.out).2.2|(with_reducible refine Kd.C_alloc ?_ _)|(with_reducible refine Kd.C_drewN ?_ _)|(with_reducible refine Kd.C_drew ?_)));(case side4=> exact (Kd.R_reads' HO_6.out).2.1);rintro e w' ⟨rfl,⟨nd,rfl⟩⟩;refine ⟨_,rfl,?_⟩))
                          go_meet
                          case rel=> exact ⟨_,((t1312 !=t1287)),(by first|rfl|(simp;done)|(simp [*];done)),H',⟨by have:=HJ8.out;have:=HJ24.out;first|omega|exact Nat.le_refl _⟩,⟨by (with_reducible repeat (first|apply Kd.R_alloc|apply Kd.R_drewN|apply Kd.R_drew));exact Kd.R_mono HO_9.out (fun _ hk=> trivial)⟩,⟨by repeat (first|(with_reducible first|exact HB.out|apply bwA|apply bwN|apply bwD)|exact HB.out)⟩⟩
                        · replace c49:=Bool.eq_false_iff.mpr c49
                          subst c49
                          have H1:(none)=some r:=by rw [if_neg (show ¬ (false=true) by decide)] at H;exact H
                          clear H
                          have H:=H1
                          clear H1
                          exact absurd H (by simp)
                      case rest=>
                        clear HC41
                        try clear c1
                        try clear c2
                        try clear p2
                        try clear c3
                        try clear c4
                        try clear c4b0
                        try clear c10
                        try clear c17
                        try clear c20
                        try clear c23
                        try clear c29
                        try clear c29b0
                        try clear c31
                        try clear c34
                        try clear c37
                        try clear c37b0
                        try clear c38
                        try clear c38b0
                        try clear c38b1
                        try clear c39
                        try clear c41
                        try clear c43
                        try clear c44
                        try clear c45
                        try clear c46
                        try clear c47
                        try clear c49
                        try clear p2
                        obtain ⟨kq,x92_40,rfl,HA,HJ40,HO_9,HB⟩:=hcut
                        have hl9_40:=(Kd.R_reads' HO_9.out).1
                        rw [hl9_40] at HO_9
                        (try simp only [hl9_40])
                        cases kq with
                        |zero=> exact absurd HA.out (by simp [laws_FnExactMerklePath.j2])
                        |succ kj40=>
                          have H:=HA.out
                          clear HA
                          simp only [laws_FnExactMerklePath.j2] at H
                          by_cases c52:x92_40=true
                          · subst c52
                            have H1:(none)=some r:=by rw [if_pos rfl] at H;exact H
                            clear H
                            have H:=H1
                            clear H1
                            exact absurd H (by simp)
                          · replace c52:=Bool.eq_false_iff.mpr c52
                            subst c52
                            have H1:((laws_heldStringS.f kj40 t1306 1).bind fun t1316=> (if t1316 < 0 then (none) else (if t1316=t1305 then (some true) else (none))))=some r:=by rw [if_neg (show ¬ (false=true) by decide)] at H;exact H
                            clear H
                            have H:=H1
                            clear H1
                            replace H:=Option.bind_eq_some_iff.mp H
                            obtain ⟨t1316,A530,H⟩:=H
                            replace H:(if t1316 < 0 then (none) else (if t1316=t1305 then (some true) else (none)))=some r:=H
                            have A53:=Aside0.mk A530
                            clear A530
                            by_cases c54:t1316 < 0
                            · rw [if_pos c54] at H
                              exact absurd H (by simp)
                            · rw [if_neg c54] at H
                              have c54b0:decide (t1316 < 0)=false:=decide_eq_false c54
                              clear c54
                              by_cases c55:t1316=t1305
                              · rw [if_pos c55] at H
                                have c55b0:(t1316==t1305)=true:=beq_iff_eq.mpr c55
                                have c55b1:(t1316 !=t1305)=false:=bne_eq_false_iff_eq.mpr c55
                                clear c55
                                obtain rfl:=Option.some.inj H
                                go_wp2_with (first|((with_reducible refine gate_callee (f:=47) rfl ?_);refine goesL_ (some 95) rfl rfl Try.func47 (by kernel_rfl) rfl #[.slice Ao42 t1306.length co42,.int .i64 1] rfl (by (try simp only [List.map_toArray,List.map_cons,List.map_nil]);first|done|rfl|(simp only [List.length_drop,List.length_take];rfl)) ?_;(with_reducible refine (laws_heldStringS.calls kj40 _ _ t1306 1 t1316 _ ?side1 ?side2 A53.out).mono ?_);(case side1=> repeat (first|exact (Kd.R_reads' HO_9.out).2.2|(with_reducible refine Kd.C_alloc ?_ _)|(with_reducible refine Kd.C_drewN ?_ _)|(with_reducible refine Kd.C_drew ?_)));(case side2=> exact (Kd.R_reads' HO_9.out).2.1);rintro e w56 ⟨rfl,hb⟩;refine ⟨_,rfl,?_⟩;have n0_:=Aside0.mk (Kd.R_below (by (with_reducible repeat (first|apply Kd.R_alloc|apply Kd.R_drewN|apply Kd.R_drew));exact HO_9.out) hb);have n1_:=Aside0.mk (below_step (by repeat (first|(with_reducible first|exact HB.out|apply bwA|apply bwN|apply bwD)|exact HB.out)) hb);clear HO_9;clear HB;have HO_9:=n0_;have HB:=n1_;clear n0_ n1_;(try clear hb);(try clear hb2);(try clear hk);(try clear hi)))
                                go_ret
                                exact ⟨by first|rfl|(simp [errW_none,errW_some] <;> rfl)|(simp [*,errW_none,errW_some] <;> rfl),by repeat (first|(with_reducible first|exact HB.out|apply bwA|apply bwN|apply bwD)|exact HB.out)⟩
                              · rw [if_neg c55] at H
                                exact absurd H (by simp)
                    · rw [if_neg c38] at H
                      exact absurd H (by simp)
          · replace c23:=Bool.eq_false_iff.mpr c23
            subst c23
            have H1:(none)=some r:=by rw [if_neg (show ¬ (false=true) by decide)] at H;exact H
            clear H
            have H:=H1
            clear H1
            exact absurd H (by simp)
def spec_FieldOK.f (a0:Int):Option (Bool):=(spec_l01In.f a0 0 2130706432).bind fun t209=> (some t209)
set_option maxHeartbeats 8000000 in
set_option maxRecDepth 100000 in
theorem spec_FieldOK.calls (a0:Int) (r:Bool) (w:World) (h:spec_FieldOK.f a0=some r):
    Calls Try.prog 161 #[.int .i64 a0] w fun e w'=> e= .returned (.bool r) ∧ Drawn0 w w':=by
  have H:((spec_l01In.f a0 0 2130706432).bind fun t209=> (some t209))=some r:=h
  clear h
  replace H:=Option.bind_eq_some_iff.mp H
  obtain ⟨t209,A20,H⟩:=H
  replace H:(some t209)=some r:=H
  have A2:=Aside0.mk A20
  clear A20
  obtain rfl:=Option.some.inj H
  go_enter Try.func161,Try.ntmps161
  go_wp2_with (first|((with_reducible refine gate_callee (f:=103) rfl ?_);refine goesL_ (some 4) rfl rfl Try.func103 (by kernel_rfl) rfl #[.int .i64 a0,.int .i64 0,.int .i64 2130706432] rfl (by (try simp only [List.map_toArray,List.map_cons,List.map_nil]);first|done|rfl|(simp only [List.length_drop,List.length_take];rfl)) ?_;(with_reducible refine (spec_l01In.calls a0 0 2130706432 t209 _ A2.out).mono ?_);rintro e w' ⟨rfl,⟨nd,rfl⟩⟩;refine ⟨_,rfl,?_⟩))
  go_ret
  exact ⟨by first|rfl|(simp;done)|(simp [*];done),by repeat (first|exact Drawn0.refl _|apply Drawn0.step)⟩
def spec_l04Root.f (l0:List ByteArray):Option (ByteArray):=(spec_l04Levels.f l0).bind fun t1199=> (if 0 ≤ (wrap64 ((t1199.length:Int) - 1)) then (if (wrap64 ((t1199.length:Int) - 1)) < (t1199.length:Int) then (if 0 < ((rd_L7 t1199 (wrap64 ((t1199.length:Int) - 1))).length:Int) then (some (rdOf ByteArray.empty (rd_L7 t1199 (wrap64 ((t1199.length:Int) - 1))) 0)) else (none)) else (none)) else (none))
set_option maxHeartbeats 8000000 in
set_option maxRecDepth 100000 in
theorem spec_l04Root.calls (A0:Option Addr) (c0:Nat) (l0:List ByteArray) (r:ByteArray) (w:World) (hr0:Kd.C Kd.string w A0 l0.length l0) (hc0:l0.length ≤ c0) (h:spec_l04Root.f l0=some r):
    Calls Try.prog 99 #[.slice A0 l0.length c0] w fun e w'=> e= .returned (.string r) ∧ Below w.heap.size w w':=by
  have HR0:=Aside0.mk hr0
  have HC0:=Aside0.mk hc0
  clear hr0 hc0
  have HB:=Aside0.mk (Below.refl w.heap.size w)
  have H:((spec_l04Levels.f l0).bind fun t1199=> (if 0 ≤ (wrap64 ((t1199.length:Int) - 1)) then (if (wrap64 ((t1199.length:Int) - 1)) < (t1199.length:Int) then (if 0 < ((rd_L7 t1199 (wrap64 ((t1199.length:Int) - 1))).length:Int) then (some (rdOf ByteArray.empty (rd_L7 t1199 (wrap64 ((t1199.length:Int) - 1))) 0)) else (none)) else (none)) else (none)))=some r:=h
  clear h
  replace H:=Option.bind_eq_some_iff.mp H
  obtain ⟨t1199,A20,H⟩:=H
  replace H:(if 0 ≤ (wrap64 ((t1199.length:Int) - 1)) then (if (wrap64 ((t1199.length:Int) - 1)) < (t1199.length:Int) then (if 0 < ((rd_L7 t1199 (wrap64 ((t1199.length:Int) - 1))).length:Int) then (some (rdOf ByteArray.empty (rd_L7 t1199 (wrap64 ((t1199.length:Int) - 1))) 0)) else (none)) else (none)) else (none))=some r:=H
  have A2:=Aside0.mk A20
  clear A20
  obtain ⟨ji3,hji3⟩:∃ j_:Int,(wrap64 ((t1199.length:Int) - 1))=j_:=⟨_,rfl⟩
  replace H:(if 0 ≤ (ji3) then (if (ji3) < (t1199.length:Int) then (if 0 < ((rd_L7 t1199 (ji3)).length:Int) then (some (rdOf ByteArray.empty (rd_L7 t1199 (ji3)) 0)) else (none)) else (none)) else (none))=some r:=by first|(rw [hji3] at H;exact H)|(simp only [hji3] at H ⊢;exact H)
  (try rw [hji3] at A2)
  have hji3w:(IntKind.i64.wrap ((t1199.length:Int) - 1))=ji3:=(i64_w _).trans hji3
  by_cases c4:0 ≤ (ji3)
  · rw [if_pos c4] at H
    have c4b0:decide (0 ≤ (ji3))=true:=decide_eq_true c4
    clear c4
    by_cases c5:(ji3) < (t1199.length:Int)
    · rw [if_pos c5] at H
      have c5b0:decide ((ji3) < (t1199.length:Int))=true:=decide_eq_true c5
      clear c5
      by_cases c6:0 < ((rd_L7 t1199 (ji3)).length:Int)
      · rw [if_pos c6] at H
        have c6b0:decide (0 < ((rd_L7 t1199 (ji3)).length:Int))=true:=decide_eq_true c6
        have c6b1:decide (0 < (rd_L7 t1199 (ji3)).length)=true:=decide_eq_true (by omega)
        clear c6
        obtain rfl:=Option.some.inj H
        go_enter Try.func99,Try.ntmps99
        go_wp2_with (first|((with_reducible refine gate_callee (f:=105) rfl ?_);refine goesL_ (some 5) rfl rfl Try.func105 (by kernel_rfl) rfl #[.slice A0 l0.length c0] rfl (by (try simp only [List.map_toArray,List.map_cons,List.map_nil]);first|done|rfl|(simp only [List.length_drop,List.length_take];rfl)) ?_;(with_reducible refine (spec_l04Levels.calls _ _ l0 t1199 _ ?side1 ?side2 A2.out).mono ?_);(case side1=> repeat (first|exact HR0.out|(with_reducible refine Kd.C_alloc ?_ _)|(with_reducible refine Kd.C_drewN ?_ _)|(with_reducible refine Kd.C_drew ?_)));(case side2=> exact HC0.out);rintro e w7 ⟨v1200,rfl,ho0,hb⟩;refine ⟨_,rfl,?_⟩;have n0_:=Aside0.mk (Kd.S_lower ho0 (below_size (by repeat (first|(with_reducible first|exact HB.out|apply bwA|apply bwN|apply bwD)|exact HB.out))));have n1_:=Aside0.mk (below_step (by repeat (first|(with_reducible first|exact HB.out|apply bwA|apply bwN|apply bwD)|exact HB.out)) hb);clear HB;have HO1201:=n0_;have HB:=n1_;clear n0_ n1_;(try clear hb);(try clear hb2);(try clear hk);(try clear hi);(try clear ho0);obtain ⟨Ao8,co8,eo8⟩:=Kd.S_slice HO1201.out;subst eo8;have p1202:0 ≤ ((ji3):Int):=of_decide_eq_true (by first|(with_reducible assumption)|assumption);have q1202:(ji3) < (t1199.length:Int):=of_decide_eq_true (by first|(with_reducible assumption)|assumption);obtain ⟨ad1202,A1202_0,c1202_0,e1202,hx1202_0,hl1202_0,hi1202_0⟩:=at_L7 (Kd.S_reads' HO1201.out).2.2 (ji3) p1202 q1202;cases e1202;obtain ⟨ce1202,hce1202,hMe1202,hcc1202⟩:=Kd.S_get HO1201.out [] (ji3) p1202 (by first|exact q1202|exact of_decide_eq_true (by first|(with_reducible assumption)|assumption)|(have e_:=(Kd.S_reads' HO1201.out).1;omega));obtain ⟨ve1202_0,rfl,ge1202_0⟩:=hMe1202;have hv1202_0:=hcc1202 0 _ rfl;rw [Nat.add_zero,show ((Kd.slice 9 Kd.string)).sz=1 from rfl,Nat.mul_one] at hv1202_0;replace hv1202_0:=Option.some.inj (hv1202_0.symm.trans hx1202_0);rw [hv1202_0] at ge1202_0;have HL1202_0:=Aside0.mk (show Kd.R Kd.string 9 _ _ _ _ (rd_L7 t1199 (ji3)) from ge1202_0);clear hv1202_0 ge1202_0;clear hcc1202 hce1202;have HR1202_0:=Aside0.mk hi1202_0;have HC1202_0:=Aside0.mk hl1202_0;clear hi1202_0 hl1202_0;replace p1202:=eq_true p1202;replace q1202:=eq_true q1202;have p1203:0 ≤ (0:Int):=(by omega);have q1203:0 < ((rd_L7 t1199 (ji3)).length:Int):=of_decide_eq_true (by first|(with_reducible assumption)|assumption);obtain ⟨ad1203,e1203,hx1203_0⟩:=Kd.at_string (by repeat (first|(with_reducible exact HR1202_0.out)|(with_reducible refine Kd.C_alloc ?_ _)|(with_reducible refine Kd.C_drewN ?_ _)|(with_reducible refine Kd.C_drew ?_)|exact HR1202_0.out)) 0 p1203 q1203;cases e1203;have qi1203:(0 < (rd_L7 t1199 (ji3)).length)=True:=eq_true (by omega);(try rw [show ((0:Int)).toNat=0 from rfl] at hx1203_0);(try rw [Addr.add_zero'] at hx1203_0);replace p1203:=eq_true p1203;replace q1203:=eq_true q1203))
        go_ret
        exact ⟨by first|rfl|(simp [errW_none,errW_some] <;> rfl)|(simp only [← hji3];first|rfl|(simp [errW_none,errW_some] <;> rfl))|(simp [*,errW_none,errW_some] <;> rfl),by repeat (first|(with_reducible first|exact HB.out|apply bwA|apply bwN|apply bwD)|exact HB.out)⟩
      · rw [if_neg c6] at H
        exact absurd H (by simp)
    · rw [if_neg c5] at H
      exact absurd H (by simp)
  · rw [if_neg c4] at H
    exact absurd H (by simp)
def spec_MerkleRoot.f (k:Nat) (l0:List ByteArray):Option (ByteArray × Int):=if (l0.length:Int) > 4096 then (some ((⟨#[]⟩:ByteArray),2)) else ((spec_l04Leaves.f k l0).bind fun t1204=> (if t1204=0 then ((spec_l04Root.f l0).bind fun t1205=> (some (t1205,0))) else (some ((⟨#[]⟩:ByteArray),t1204))))
theorem spec_MerkleRoot.mono:∀ a0 k,LeO (spec_MerkleRoot.f k a0) (spec_MerkleRoot.f (k + 1) a0):=by
  intro a0 k
  unfold spec_MerkleRoot.f
  repeat' first
      |(with_reducible exact spec_l04Leaves.mono _ _)
      |(with_reducible exact LeO.refl _)
      |(with_reducible exact LeO.none _)
      |(with_reducible refine LeO.ite ?_ ?_)
      |(with_reducible refine LeO.bind ?_ (fun _=> ?_))
      |exact spec_l04Leaves.mono _ _
      |exact LeO.none _
      |refine LeO.ite ?_ ?_
      |refine LeO.bind ?_ (fun _=> ?_)
set_option maxHeartbeats 8000000 in
set_option maxRecDepth 100000 in
theorem spec_MerkleRoot.calls (k:Nat) (A0:Option Addr) (c0:Nat) (l0:List ByteArray) (r1:ByteArray) (r2:Int) (w:World) (hr0:Kd.C Kd.string w A0 l0.length l0) (hc0:l0.length ≤ c0) (h:spec_MerkleRoot.f k l0=some (r1,r2)):
    Calls Try.prog 40 #[.slice A0 l0.length c0] w fun e w'=> e= .returned (.tuple #[.string r1,.int .i64 r2]) ∧ Below w.heap.size w w':=by
  have HR0:=Aside0.mk hr0
  have HC0:=Aside0.mk hc0
  clear hr0 hc0
  have HB:=Aside0.mk (Below.refl w.heap.size w)
  have H:(if (l0.length:Int) > 4096 then (some ((⟨#[]⟩:ByteArray),2)) else ((spec_l04Leaves.f k l0).bind fun t1204=> (if t1204=0 then ((spec_l04Root.f l0).bind fun t1205=> (some (t1205,0))) else (some ((⟨#[]⟩:ByteArray),t1204)))))=some (r1,r2):=h
  clear h
  by_cases c2:(l0.length:Int) > 4096
  · rw [if_pos c2] at H
    have c2b0:decide (4096 < (l0.length:Int))=true:=decide_eq_true c2
    have c2b1:decide (4096 < l0.length)=true:=decide_eq_true (by omega)
    clear c2
    simp only [Option.some.injEq,Prod.mk.injEq] at H
    obtain ⟨rfl,rfl⟩:=H
    go_enter Try.func40,Try.ntmps40
    go_wp2
    go_ret2
    exact ⟨by first|rfl|(simp [errW_none,errW_some] <;> rfl)|(simp [*,errW_none,errW_some] <;> rfl),by repeat (first|(with_reducible first|exact HB.out|apply bwA|apply bwN|apply bwD)|exact HB.out)⟩
  · rw [if_neg c2] at H
    have c2b0:decide (4096 < (l0.length:Int))=false:=decide_eq_false c2
    have c2b1:decide (4096 < l0.length)=false:=decide_eq_false (by omega)
    clear c2
    replace H:=Option.bind_eq_some_iff.mp H
    obtain ⟨t1204,A30,H⟩:=H
    replace H:(if t1204=0 then ((spec_l04Root.f l0).bind fun t1205=> (some (t1205,0))) else (some ((⟨#[]⟩:ByteArray),t1204)))=some (r1,r2):=H
    have A3:=Aside0.mk A30
    clear A30
    by_cases c4:t1204=0
    · rw [if_pos c4] at H
      have c4b0:(t1204==0)=true:=beq_iff_eq.mpr c4
      have c4b1:(t1204 !=0)=false:=bne_eq_false_iff_eq.mpr c4
      clear c4
      replace H:=Option.bind_eq_some_iff.mp H
      obtain ⟨t1205,A50,H⟩:=H
      replace H:(some (t1205,0))=some (r1,r2):=H
      have A5:=Aside0.mk A50
      clear A50
      simp only [Option.some.injEq,Prod.mk.injEq] at H
      obtain ⟨rfl,rfl⟩:=H
      go_enter Try.func40,Try.ntmps40
      go_wp2_with (first|((with_reducible refine gate_callee (f:=98) rfl ?_);refine goesL_ (some 9) rfl rfl Try.func98 (by kernel_rfl) rfl #[.slice A0 l0.length c0] rfl (by (try simp only [List.map_toArray,List.map_cons,List.map_nil]);first|done|rfl|(simp only [List.length_drop,List.length_take];rfl)) ?_;(with_reducible refine (spec_l04Leaves.calls k _ _ l0 t1204 _ ?side1 ?side2 A3.out).mono ?_);(case side1=> repeat (first|exact HR0.out|(with_reducible refine Kd.C_alloc ?_ _)|(with_reducible refine Kd.C_drewN ?_ _)|(with_reducible refine Kd.C_drew ?_)));(case side2=> exact HC0.out);rintro e w' ⟨rfl,⟨nd,rfl⟩⟩;refine ⟨_,rfl,?_⟩)|((with_reducible refine gate_callee (f:=99) rfl ?_);refine goesL_ (some 14) rfl rfl Try.func99 (by kernel_rfl) rfl #[.slice A0 l0.length c0] rfl (by (try simp only [List.map_toArray,List.map_cons,List.map_nil]);first|done|rfl|(simp only [List.length_drop,List.length_take];rfl)) ?_;(with_reducible refine (spec_l04Root.calls _ _ l0 t1205 _ ?side1 ?side2 A5.out).mono ?_);(case side1=> repeat (first|exact HR0.out|(with_reducible refine Kd.C_alloc ?_ _)|(with_reducible refine Kd.C_drewN ?_ _)|(with_reducible refine Kd.C_drew ?_)));(case side2=> exact HC0.out);rintro e w6 ⟨rfl,hb⟩;refine ⟨_,rfl,?_⟩;have n0_:=Aside0.mk (below_step (by repeat (first|(with_reducible first|exact HB.out|apply bwA|apply bwN|apply bwD)|exact HB.out)) hb);clear HB;have HB:=n0_;clear n0_;(try clear hb);(try clear hb2);(try clear hk);(try clear hi)))
      go_ret2
      exact ⟨by first|rfl|(simp [errW_none,errW_some] <;> rfl)|(simp [*,errW_none,errW_some] <;> rfl),by repeat (first|(with_reducible first|exact HB.out|apply bwA|apply bwN|apply bwD)|exact HB.out)⟩
    · rw [if_neg c4] at H
      have c4b0:(t1204==0)=false:=beq_eq_false_iff_ne.mpr c4
      have c4b1:(t1204 !=0)=true:=bne_iff_ne.mpr c4
      simp only [Option.some.injEq,Prod.mk.injEq] at H
      obtain ⟨rfl,rfl⟩:=H
      go_enter Try.func40,Try.ntmps40
      go_wp2_with (first|((with_reducible refine gate_callee (f:=98) rfl ?_);refine goesL_ (some 9) rfl rfl Try.func98 (by kernel_rfl) rfl #[.slice A0 l0.length c0] rfl (by (try simp only [List.map_toArray,List.map_cons,List.map_nil]);first|done|rfl|(simp only [List.length_drop,List.length_take];rfl)) ?_;(with_reducible refine (spec_l04Leaves.calls k _ _ l0 t1204 _ ?side1 ?side2 A3.out).mono ?_);(case side1=> repeat (first|exact HR0.out|(with_reducible refine Kd.C_alloc ?_ _)|(with_reducible refine Kd.C_drewN ?_ _)|(with_reducible refine Kd.C_drew ?_)));(case side2=> exact HC0.out);rintro e w' ⟨rfl,⟨nd,rfl⟩⟩;refine ⟨_,rfl,?_⟩))
      go_ret2
      exact ⟨by first|rfl|(simp [errW_none,errW_some] <;> rfl)|(simp [*,errW_none,errW_some] <;> rfl),by repeat (first|(with_reducible first|exact HB.out|apply bwA|apply bwN|apply bwD)|exact HB.out)⟩
def spec_l04Up.l0:Nat → Int → List ByteArray → List ByteArray → ByteArray → Int → Option (List ByteArray × ByteArray)
  |0,_,_,_,_,_=> none
  |k + 1,x0,x2,x8,x9,x10=> if x10 < (x2.length:Int) then (if 1 + x9.size ≤ 9223372036854775807 then (if 0 ≤ x10 then (if ((⟨#[1]⟩:ByteArray) ++ x9).size + (rdOf ByteArray.empty x2 x10).size ≤ 9223372036854775807 then (if (Int.tmod x0 2)=1 then (if 1 + (rdOf ByteArray.empty x2 x10).size ≤ 9223372036854775807 then (if ((⟨#[1]⟩:ByteArray) ++ (rdOf ByteArray.empty x2 x10)).size + x9.size ≤ 9223372036854775807 then (if x8.length < 8796093022208 then ((spec_l03Hash.f (((⟨#[1]⟩:ByteArray) ++ (rdOf ByteArray.empty x2 x10)) ++ x9)).bind fun t1074=> (spec_l04Up.l0 k (wrap64 (Int.tdiv x0 2)) x2 (x8 ++ [((⟨#[1]⟩:ByteArray) ++ (rdOf ByteArray.empty x2 x10)) ++ x9]) t1074 (wrap64 (x10 + 1)))) else (none)) else (none)) else (none)) else (if x8.length < 8796093022208 then ((spec_l03Hash.f (((⟨#[1]⟩:ByteArray) ++ x9) ++ (rdOf ByteArray.empty x2 x10))).bind fun t1078=> (spec_l04Up.l0 k (wrap64 (Int.tdiv x0 2)) x2 (x8 ++ [((⟨#[1]⟩:ByteArray) ++ x9) ++ (rdOf ByteArray.empty x2 x10)]) t1078 (wrap64 (x10 + 1)))) else (none))) else (none)) else (none)) else (none)) else (some (x8,x9))
def spec_l04Up.f (k:Nat) (a0:Int) (a1:ByteArray) (l2:List ByteArray):Option (List ByteArray × ByteArray):=if 1 + a1.size ≤ 9223372036854775807 then ((spec_l04Leaf.f a1).bind fun t1068=> (spec_l04Up.l0 k a0 l2 (([(⟨#[0]⟩:ByteArray) ++ a1]:List ByteArray)) t1068 0)) else (none)
theorem spec_l04Up.mono_l:∀ k,(∀ y0 y1 y2 y3 y4,LeO (spec_l04Up.l0 k y0 y1 y2 y3 y4) (spec_l04Up.l0 (k + 1) y0 y1 y2 y3 y4))
  |0=> fun _ _ _ _ _ r h=> by simp [spec_l04Up.l0] at h
  |k + 1=> by
    have ih0:=spec_l04Up.mono_l k
    · intro y0 y1 y2 y3 y4
      unfold spec_l04Up.l0
      repeat' first
      |(with_reducible exact ih0 _ _ _ _ _)
      |(with_reducible exact LeO.refl _)
      |(with_reducible exact LeO.none _)
      |(with_reducible refine LeO.ite ?_ ?_)
      |(with_reducible refine LeO.bind ?_ (fun _=> ?_))
      |exact ih0 _ _ _ _ _
      |exact LeO.none _
      |refine LeO.ite ?_ ?_
      |refine LeO.bind ?_ (fun _=> ?_)
theorem spec_l04Up.mono:∀ a0 a1 a2 k,LeO (spec_l04Up.f k a0 a1 a2) (spec_l04Up.f (k + 1) a0 a1 a2):=by
  intro a0 a1 a2 k
  have ih0:=spec_l04Up.mono_l k
  unfold spec_l04Up.f
  repeat' first
      |(with_reducible exact ih0 _ _ _ _ _)
      |(with_reducible exact LeO.refl _)
      |(with_reducible exact LeO.none _)
      |(with_reducible refine LeO.ite ?_ ?_)
      |(with_reducible refine LeO.bind ?_ (fun _=> ?_))
      |exact ih0 _ _ _ _ _
      |exact LeO.none _
      |refine LeO.ite ?_ ?_
      |refine LeO.bind ?_ (fun _=> ?_)
set_option maxHeartbeats 8000000 in
set_option maxRecDepth 100000 in
theorem spec_l04Up.calls (k:Nat) (a0:Int) (a1:ByteArray) (A2:Option Addr) (c2:Nat) (l2:List ByteArray) (r1:List ByteArray) (r2:ByteArray) (w:World) (hr2:Kd.C Kd.string w A2 l2.length l2) (hc2:l2.length ≤ c2) (h:spec_l04Up.f k a0 a1 l2=some (r1,r2)):
    Calls Try.prog 112 #[.int .i64 a0,.string a1,.slice A2 l2.length c2] w fun e w'=> ∃ v0_:Value,e= .returned (.tuple #[v0_,.string r2]) ∧ Kd.R Kd.string 9 w' w.heap.size (fun _=> True) v0_ r1 ∧ Below w.heap.size w w':=by
  have HR2:=Aside0.mk hr2
  have HC2:=Aside0.mk hc2
  clear hr2 hc2
  have HB:=Aside0.mk (Below.refl w.heap.size w)
  have H:(if 1 + a1.size ≤ 9223372036854775807 then ((spec_l04Leaf.f a1).bind fun t1068=> (spec_l04Up.l0 k a0 l2 (([(⟨#[0]⟩:ByteArray) ++ a1]:List ByteArray)) t1068 0)) else (none))=some (r1,r2):=h
  clear h
  by_cases c4:1 + a1.size ≤ 9223372036854775807
  · rw [if_pos c4] at H
    have c4b0:=eq_true c4
    have c4b1:decide (1 + a1.size ≤ 9223372036854775807)=true:=decide_eq_true c4
    try have c4b2:(9223372036854775807 < 1 + a1.size)=False:=eq_false (Nat.not_lt.2 c4)
    obtain ⟨y1065,hy1065⟩:∃ y_:List ByteArray,y_=(([(⟨#[0]⟩:ByteArray) ++ a1]:List ByteArray)):=⟨_,rfl⟩
    replace H:((spec_l04Leaf.f a1).bind fun t1068=> (spec_l04Up.l0 k a0 l2 y1065 t1068 0))=some (r1,r2):=by first|(rw [hy1065];with_reducible exact H)|(have H2_:=(Option.bind_some _ _).symm.trans H;rw [hy1065];with_reducible exact H2_)|(have H2_:=(Option.bind_some _ _).symm.trans H;with_reducible exact H2_)|with_reducible exact H|(rw [hy1065];exact H)|exact H
    have Ny1065:=Aside0.mk hy1065
    clear hy1065
    replace H:=Option.bind_eq_some_iff.mp H
    obtain ⟨t1068,A50,H⟩:=H
    replace H:(spec_l04Up.l0 k a0 l2 y1065 t1068 0)=some (r1,r2):=H
    have A5:=Aside0.mk A50
    clear A50
    have H':=Aside0.mk H
    clear H
    go_enter Try.func112,Try.ntmps112
    go_wp2_with (first|((with_reducible refine gate_dst (N:=14) rfl ?_);refine Kd.R_lit Kd.string _ 9 ?hg (N:=14) ?hd (xs:=([(⟨#[0]⟩:ByteArray) ++ a1]:List ByteArray)) (inner:= [.string ((⟨#[0]⟩:ByteArray) ++ a1)]) (ok:=fun _=> True) (okp:=fun _=> True) ?hr ?hp (fun _ hk=> hk) trivial (Below.refl _ _) (Nat.le_refl _) (by simp) ?_;(case hd=> rfl);(case hg=> rfl);(case hr=> first|(go_simp;done)|(go_simp;rfl));(case hp=> exact (Reps.one (show Kd.M Kd.string _ _ _ ((⟨#[0]⟩:ByteArray) ++ a1) [.string ((⟨#[0]⟩:ByteArray) ++ a1)] from rfl) (Reps.none _ _)));intro v1066 w6 ho7 hb hg_ hnew_;clear hg_ hnew_;(first|rw [← Ny1065.out] at ho7|(simp only [Int.reduceToNat] at ho7;rw [← Ny1065.out] at ho7));have n0_:=Aside0.mk (Kd.R_lower ho7 (below_size (by repeat (first|(with_reducible first|exact HB.out|apply bwA|apply bwN|apply bwD)|exact HB.out))));have n1_:=Aside0.mk (below_step (by repeat (first|(with_reducible first|exact HB.out|apply bwA|apply bwN|apply bwD)|exact HB.out)) hb);clear HB;have HO1067:=n0_;have HB:=n1_;clear n0_ n1_;clear hb ho7)|((with_reducible refine gate_callee (f:=89) rfl ?_);refine goesL_ (some 16) rfl rfl Try.func89 (by kernel_rfl) rfl #[.string a1] rfl (by (try simp only [List.map_toArray,List.map_cons,List.map_nil]);first|done|rfl|(simp only [List.length_drop,List.length_take];rfl)) ?_;(with_reducible refine (spec_l04Leaf.calls a1 t1068 _ A5.out).mono ?_);rintro e w8 ⟨rfl,hb⟩;refine ⟨_,rfl,?_⟩;have n0_:=Aside0.mk (Kd.R_below (by (with_reducible repeat (first|apply Kd.R_alloc|apply Kd.R_drewN|apply Kd.R_drew));exact HO1067.out) hb);have n1_:=Aside0.mk (below_step (by repeat (first|(with_reducible first|exact HB.out|apply bwA|apply bwN|apply bwD)|exact HB.out)) hb);clear HO1067;clear HB;have HO1067:=n0_;have HB:=n1_;clear n0_ n1_;(try clear hb);(try clear hb2);(try clear hk);(try clear hi)))
    go_loopg [0,8,9,10] k (fun kq v0 v8 v9 v10 w'=> ∃ (x0_1:Int) (x8_1:List ByteArray) (x9_1:ByteArray) (x10_1:Int),v0= .int .i64 x0_1 ∧ v9= .string x9_1 ∧ v10= .int .i64 x10_1 ∧ Aside0 (spec_l04Up.l0 kq x0_1 l2 x8_1 x9_1 x10_1=some (r1,r2)) ∧ Aside0 (kq ≤ k) ∧ Aside0 (Kd.R Kd.string 9 w' w.heap.size (fun _=> True) v8 x8_1) ∧ Aside0 (Below w.heap.size w w'))
    case atStart=> exact ⟨(a0),(y1065),(t1068),(0),(by first|rfl|(simp;done)|(simp [*];done)),(by first|rfl|(simp;done)|(simp [*];done)),(by first|rfl|(simp;done)|(simp [*];done)),H',⟨Nat.le_refl _⟩,⟨by (with_reducible repeat (first|apply Kd.R_alloc|apply Kd.R_drewN|apply Kd.R_drew));exact HO1067.out⟩,⟨by repeat (first|(with_reducible first|exact HB.out|apply bwA|apply bwN|apply bwD)|exact HB.out)⟩⟩
    case round=>
      clear H'
      try clear c1
      try clear c2
      try clear p2
      try clear c4
      try clear c4b0
      try clear c4b1
      try clear c4b2
      try clear c8
      obtain ⟨x0_1,x8_1,x9_1,x10_1,rfl,rfl,rfl,HA,HK1,HO_8,HB⟩:=hrel
      cases gk with
      |zero=> exact absurd HA.out (by simp [spec_l04Up.l0])
      |succ k1=>
        have H:=HA.out
        clear HA
        simp only [spec_l04Up.l0] at H
        by_cases c9:x10_1 < (l2.length:Int)
        · rw [if_pos c9] at H
          have c9b0:decide (x10_1 < (l2.length:Int))=true:=decide_eq_true c9
          clear c9
          by_cases c10:1 + x9_1.size ≤ 9223372036854775807
          · rw [if_pos c10] at H
            have c10b0:=eq_true c10
            have c10b1:decide (1 + x9_1.size ≤ 9223372036854775807)=true:=decide_eq_true c10
            try have c10b2:(9223372036854775807 < 1 + x9_1.size)=False:=eq_false (Nat.not_lt.2 c10)
            by_cases c11:0 ≤ x10_1
            · rw [if_pos c11] at H
              have c11b0:decide (0 ≤ x10_1)=true:=decide_eq_true c11
              clear c11
              by_cases c12:((⟨#[1]⟩:ByteArray) ++ x9_1).size + (rdOf ByteArray.empty l2 x10_1).size ≤ 9223372036854775807
              · rw [if_pos c12] at H
                have c12b0:=eq_true c12
                have c12b1:decide (((⟨#[1]⟩:ByteArray) ++ x9_1).size + (rdOf ByteArray.empty l2 x10_1).size ≤ 9223372036854775807)=true:=decide_eq_true c12
                try have c12b2:(9223372036854775807 < ((⟨#[1]⟩:ByteArray) ++ x9_1).size + (rdOf ByteArray.empty l2 x10_1).size)=False:=eq_false (Nat.not_lt.2 c12)
                try have c12b3:(9223372036854775807 < 1 + x9_1.size + (rdOf ByteArray.empty l2 x10_1).size)=False:=by have h_:=c12b2;simp only [ByteArray.size_append] at h_;exact h_
                by_cases c13:(Int.tmod x0_1 2)=1
                · rw [if_pos c13] at H
                  have c13b0:((Int.tmod x0_1 2)==1)=true:=beq_iff_eq.mpr c13
                  have c13b1:((Int.tmod x0_1 2) !=1)=false:=bne_eq_false_iff_eq.mpr c13
                  clear c13
                  by_cases c14:1 + (rdOf ByteArray.empty l2 x10_1).size ≤ 9223372036854775807
                  · rw [if_pos c14] at H
                    have c14b0:=eq_true c14
                    have c14b1:decide (1 + (rdOf ByteArray.empty l2 x10_1).size ≤ 9223372036854775807)=true:=decide_eq_true c14
                    try have c14b2:(9223372036854775807 < 1 + (rdOf ByteArray.empty l2 x10_1).size)=False:=eq_false (Nat.not_lt.2 c14)
                    by_cases c15:((⟨#[1]⟩:ByteArray) ++ (rdOf ByteArray.empty l2 x10_1)).size + x9_1.size ≤ 9223372036854775807
                    · rw [if_pos c15] at H
                      have c15b0:=eq_true c15
                      have c15b1:decide (((⟨#[1]⟩:ByteArray) ++ (rdOf ByteArray.empty l2 x10_1)).size + x9_1.size ≤ 9223372036854775807)=true:=decide_eq_true c15
                      try have c15b2:(9223372036854775807 < ((⟨#[1]⟩:ByteArray) ++ (rdOf ByteArray.empty l2 x10_1)).size + x9_1.size)=False:=eq_false (Nat.not_lt.2 c15)
                      try have c15b3:(9223372036854775807 < 1 + (rdOf ByteArray.empty l2 x10_1).size + x9_1.size)=False:=by have h_:=c15b2;simp only [ByteArray.size_append] at h_;exact h_
                      by_cases c16:x8_1.length < 8796093022208
                      · rw [if_pos c16] at H
                        have LMc16:=Aside0.mk c16
                        clear c16
                        obtain ⟨y1071,hy1071⟩:∃ y_:List ByteArray,y_=(x8_1 ++ [((⟨#[1]⟩:ByteArray) ++ (rdOf ByteArray.empty l2 x10_1)) ++ x9_1]):=⟨_,rfl⟩
                        replace H:((spec_l03Hash.f (((⟨#[1]⟩:ByteArray) ++ (rdOf ByteArray.empty l2 x10_1)) ++ x9_1)).bind fun t1074=> (spec_l04Up.l0 k1 (wrap64 (Int.tdiv x0_1 2)) l2 y1071 t1074 (wrap64 (x10_1 + 1))))=some (r1,r2):=by first|(rw [hy1071];with_reducible exact H)|(have H2_:=(Option.bind_some _ _).symm.trans H;rw [hy1071];with_reducible exact H2_)|(have H2_:=(Option.bind_some _ _).symm.trans H;with_reducible exact H2_)|with_reducible exact H|(rw [hy1071];exact H)|exact H
                        have Ny1071:=Aside0.mk hy1071
                        clear hy1071
                        replace H:=Option.bind_eq_some_iff.mp H
                        obtain ⟨t1074,A170,H⟩:=H
                        replace H:(spec_l04Up.l0 k1 (wrap64 (Int.tdiv x0_1 2)) l2 y1071 t1074 (wrap64 (x10_1 + 1)))=some (r1,r2):=H
                        have A17:=Aside0.mk A170
                        clear A170
                        have H':=Aside0.mk H
                        clear H
                        have p1069:0 ≤ (x10_1:Int):=of_decide_eq_true (by first|(with_reducible assumption)|assumption)
                        have q1069:x10_1 < (l2.length:Int):=of_decide_eq_true (by first|(with_reducible assumption)|assumption)
                        obtain ⟨ad1069,e1069,hx1069_0⟩:=Kd.at_string HR2.out x10_1 p1069 q1069
                        cases e1069
                        replace hx1069_0:=(HB.out.cell (World.block_lt_of_cell? w _ hx1069_0)).trans hx1069_0
                        replace p1069:=eq_true p1069
                        replace q1069:=eq_true q1069
                        have p1070:0 ≤ (x10_1:Int):=of_decide_eq_true (by first|(with_reducible assumption)|assumption)
                        have q1070:x10_1 < (l2.length:Int):=of_decide_eq_true (by first|(with_reducible assumption)|assumption)
                        obtain ⟨ad1070,e1070,hx1070_0⟩:=Kd.at_string HR2.out x10_1 p1070 q1070
                        obtain rfl:ad1069=ad1070:=(by injection e1070)
                        replace hx1070_0:=(HB.out.cell (World.block_lt_of_cell? w _ hx1070_0)).trans hx1070_0
                        replace p1070:=eq_true p1070
                        replace q1070:=eq_true q1070
                        go_wp2_with (first|((with_reducible refine gate_builtin (b:= .append) (xs:= #[.tmp 40,.tmp 42]) rfl ?_);at_builtin;refine Kd.R_append Kd.string (w0:=w) w.heap.size rfl (.tmp 40) (.tmp 42) 41 9 (.string ⟨#[]⟩) 16 rfl Try.underlying41 info9 rfl (by decide) (by omega) u8 x8_1 (((⟨#[1]⟩:ByteArray) ++ (rdOf ByteArray.empty l2 x10_1)) ++ x9_1) [.string (((⟨#[1]⟩:ByteArray) ++ (rdOf ByteArray.empty l2 x10_1)) ++ x9_1)] (fun _=> True) (fun _=> False) rfl rfl ?aP (fun _ hk=> hk.elim) ?aF ?aO ?aB ?aS ?aL ?_;(case aP=> exact rfl);(case aB=> exact (by repeat (first|(with_reducible first|exact HB.out|apply bwA|apply bwN|apply bwD)|exact HB.out)));(case aF=> exact (fun _ _=> trivial));(case aO=> exact (by (with_reducible repeat (first|apply Kd.R_alloc|apply Kd.R_drewN|apply Kd.R_drew));exact HO_8.out));(case aS=> exact (below_size (by repeat (first|(with_reducible first|exact HB.out|apply bwA|apply bwN|apply bwD)|exact HB.out))));(case aL=> have:=LMc16.out;omega);intro v1072 w18 ho hb hg hat;rw [← Ny1071.out] at ho;have n0_:=Aside0.mk (hb);have n1_:=Aside0.mk (ho);clear HB;clear HO_8;have HB:=n0_;have HO1073:=n1_;clear n0_ n1_;clear ho hb hg hat)|((with_reducible refine gate_callee (f:=87) rfl ?_);refine goesL_ (some 45) rfl rfl Try.func87 (by kernel_rfl) rfl #[.string (((⟨#[1]⟩:ByteArray) ++ (rdOf ByteArray.empty l2 x10_1)) ++ x9_1)] rfl (by (try simp only [List.map_toArray,List.map_cons,List.map_nil]);first|done|rfl|(simp only [List.length_drop,List.length_take];rfl)) ?_;(with_reducible refine (spec_l03Hash.calls (((⟨#[1]⟩:ByteArray) ++ (rdOf ByteArray.empty l2 x10_1)) ++ x9_1) t1074 _ A17.out).mono ?_);rintro e w19 ⟨rfl,hb⟩;refine ⟨_,rfl,?_⟩;have n0_:=Aside0.mk (Kd.R_below (by (with_reducible repeat (first|apply Kd.R_alloc|apply Kd.R_drewN|apply Kd.R_drew));exact HO1073.out) hb);have n1_:=Aside0.mk (below_step (by repeat (first|(with_reducible first|exact HB.out|apply bwA|apply bwN|apply bwD)|exact HB.out)) hb);clear HO1073;clear HB;have HO1073:=n0_;have HB:=n1_;clear n0_ n1_;(try clear hb);(try clear hb2);(try clear hk);(try clear hi)))
                        go_roundg k1
                        case measure=> have:=HK1.out;omega
                        case rel=> exact ⟨(wrap64 (Int.tdiv x0_1 2)),(y1071),(t1074),(wrap64 (x10_1 + 1)),(by first|rfl|(simp;done)|(simp [*];done)),(by first|rfl|(simp;done)|(simp [*];done)),(by first|rfl|(simp;done)|(simp [*];done)),H',⟨by have:=HK1.out;omega⟩,⟨by (with_reducible repeat (first|apply Kd.R_alloc|apply Kd.R_drewN|apply Kd.R_drew));exact HO1073.out⟩,⟨by repeat (first|(with_reducible first|exact HB.out|apply bwA|apply bwN|apply bwD)|exact HB.out)⟩⟩
                      · rw [if_neg c16] at H
                        exact absurd H (by simp)
                    · rw [if_neg c15] at H
                      exact absurd H (by simp)
                  · rw [if_neg c14] at H
                    exact absurd H (by simp)
                · rw [if_neg c13] at H
                  have c13b0:((Int.tmod x0_1 2)==1)=false:=beq_eq_false_iff_ne.mpr c13
                  have c13b1:((Int.tmod x0_1 2) !=1)=true:=bne_iff_ne.mpr c13
                  by_cases c20:x8_1.length < 8796093022208
                  · rw [if_pos c20] at H
                    have LMc20:=Aside0.mk c20
                    clear c20
                    obtain ⟨y1075,hy1075⟩:∃ y_:List ByteArray,y_=(x8_1 ++ [((⟨#[1]⟩:ByteArray) ++ x9_1) ++ (rdOf ByteArray.empty l2 x10_1)]):=⟨_,rfl⟩
                    replace H:((spec_l03Hash.f (((⟨#[1]⟩:ByteArray) ++ x9_1) ++ (rdOf ByteArray.empty l2 x10_1))).bind fun t1078=> (spec_l04Up.l0 k1 (wrap64 (Int.tdiv x0_1 2)) l2 y1075 t1078 (wrap64 (x10_1 + 1))))=some (r1,r2):=by first|(rw [hy1075];with_reducible exact H)|(have H2_:=(Option.bind_some _ _).symm.trans H;rw [hy1075];with_reducible exact H2_)|(have H2_:=(Option.bind_some _ _).symm.trans H;with_reducible exact H2_)|with_reducible exact H|(rw [hy1075];exact H)|exact H
                    have Ny1075:=Aside0.mk hy1075
                    clear hy1075
                    replace H:=Option.bind_eq_some_iff.mp H
                    obtain ⟨t1078,A210,H⟩:=H
                    replace H:(spec_l04Up.l0 k1 (wrap64 (Int.tdiv x0_1 2)) l2 y1075 t1078 (wrap64 (x10_1 + 1)))=some (r1,r2):=H
                    have A21:=Aside0.mk A210
                    clear A210
                    have H':=Aside0.mk H
                    clear H
                    have p1069:0 ≤ (x10_1:Int):=of_decide_eq_true (by first|(with_reducible assumption)|assumption)
                    have q1069:x10_1 < (l2.length:Int):=of_decide_eq_true (by first|(with_reducible assumption)|assumption)
                    obtain ⟨ad1069,e1069,hx1069_0⟩:=Kd.at_string HR2.out x10_1 p1069 q1069
                    cases e1069
                    replace hx1069_0:=(HB.out.cell (World.block_lt_of_cell? w _ hx1069_0)).trans hx1069_0
                    replace p1069:=eq_true p1069
                    replace q1069:=eq_true q1069
                    go_wp2_with (first|((with_reducible refine gate_builtin (b:= .append) (xs:= #[.tmp 40,.tmp 42]) rfl ?_);at_builtin;refine Kd.R_append Kd.string (w0:=w) w.heap.size rfl (.tmp 40) (.tmp 42) 41 9 (.string ⟨#[]⟩) 16 rfl Try.underlying41 info9 rfl (by decide) (by omega) u8 x8_1 (((⟨#[1]⟩:ByteArray) ++ x9_1) ++ (rdOf ByteArray.empty l2 x10_1)) [.string (((⟨#[1]⟩:ByteArray) ++ x9_1) ++ (rdOf ByteArray.empty l2 x10_1))] (fun _=> True) (fun _=> False) rfl rfl ?aP (fun _ hk=> hk.elim) ?aF ?aO ?aB ?aS ?aL ?_;(case aP=> exact rfl);(case aB=> exact (by repeat (first|(with_reducible first|exact HB.out|apply bwA|apply bwN|apply bwD)|exact HB.out)));(case aF=> exact (fun _ _=> trivial));(case aO=> exact (by (with_reducible repeat (first|apply Kd.R_alloc|apply Kd.R_drewN|apply Kd.R_drew));exact HO_8.out));(case aS=> exact (below_size (by repeat (first|(with_reducible first|exact HB.out|apply bwA|apply bwN|apply bwD)|exact HB.out))));(case aL=> have:=LMc20.out;omega);intro v1076 w22 ho hb hg hat;rw [← Ny1075.out] at ho;have n0_:=Aside0.mk (hb);have n1_:=Aside0.mk (ho);clear HB;clear HO_8;have HB:=n0_;have HO1077:=n1_;clear n0_ n1_;clear ho hb hg hat)|((with_reducible refine gate_callee (f:=87) rfl ?_);refine goesL_ (some 45) rfl rfl Try.func87 (by kernel_rfl) rfl #[.string (((⟨#[1]⟩:ByteArray) ++ x9_1) ++ (rdOf ByteArray.empty l2 x10_1))] rfl (by (try simp only [List.map_toArray,List.map_cons,List.map_nil]);first|done|rfl|(simp only [List.length_drop,List.length_take];rfl)) ?_;(with_reducible refine (spec_l03Hash.calls (((⟨#[1]⟩:ByteArray) ++ x9_1) ++ (rdOf ByteArray.empty l2 x10_1)) t1078 _ A21.out).mono ?_);rintro e w23 ⟨rfl,hb⟩;refine ⟨_,rfl,?_⟩;have n0_:=Aside0.mk (Kd.R_below (by (with_reducible repeat (first|apply Kd.R_alloc|apply Kd.R_drewN|apply Kd.R_drew));exact HO1077.out) hb);have n1_:=Aside0.mk (below_step (by repeat (first|(with_reducible first|exact HB.out|apply bwA|apply bwN|apply bwD)|exact HB.out)) hb);clear HO1077;clear HB;have HO1077:=n0_;have HB:=n1_;clear n0_ n1_;(try clear hb);(try clear hb2);(try clear hk);(try clear hi)))
                    go_roundg k1
                    case measure=> have:=HK1.out;omega
                    case rel=> exact ⟨(wrap64 (Int.tdiv x0_1 2)),(y1075),(t1078),(wrap64 (x10_1 + 1)),(by first|rfl|(simp;done)|(simp [*];done)),(by first|rfl|(simp;done)|(simp [*];done)),(by first|rfl|(simp;done)|(simp [*];done)),H',⟨by have:=HK1.out;omega⟩,⟨by (with_reducible repeat (first|apply Kd.R_alloc|apply Kd.R_drewN|apply Kd.R_drew));exact HO1077.out⟩,⟨by repeat (first|(with_reducible first|exact HB.out|apply bwA|apply bwN|apply bwD)|exact HB.out)⟩⟩
                  · rw [if_neg c20] at H
                    exact absurd H (by simp)
              · rw [if_neg c12] at H
                exact absurd H (by simp)
            · rw [if_neg c11] at H
              exact absurd H (by simp)
          · rw [if_neg c10] at H
            exact absurd H (by simp)
        · rw [if_neg c9] at H
          have c9b0:decide (x10_1 < (l2.length:Int))=false:=decide_eq_false c9
          clear c9
          simp only [Option.some.injEq,Prod.mk.injEq] at H
          obtain ⟨rfl,rfl⟩:=H
          go_wp2
          go_ret2
          exact ⟨_,by first|rfl|(simp [errW_none,errW_some] <;> rfl)|(simp [*,errW_none,errW_some] <;> rfl),by (with_reducible repeat (first|apply Kd.R_alloc|apply Kd.R_drewN|apply Kd.R_drew));exact HO_8.out,by repeat (first|(with_reducible first|exact HB.out|apply bwA|apply bwN|apply bwD)|exact HB.out)⟩
  · rw [if_neg c4] at H
    exact absurd H (by simp)
end Go.Proofs.Ytlogocmojnhpbaa.Print
