-- Packed by a program of this session (slim.py) out of printed texts; not trusted, Lean checks it.
import Derived.Test.YtlogocmojnhpbaaP0
import Derived.Test.YtlogocmojnhpbaaQFnExactMerklePath0
import Derived.Test.YtlogocmojnhpbaaQFnExactMerklePath1
namespace Go.Proofs.Ytlogocmojnhpbaa.Print
open Go.RowKit Go.Proofs.YtlogocmojnhpbaaW.PrintWords Go.Proofs.YtlogocmojnhpbaaW.PrintLast Go.Proofs.YtlogocmojnhpbaaW.PrintMore
attribute [local go_sem] max2_int min2_int max_two min_two max_three min_three max_four min_four
set_option linter.unusedVariables false
set_option linter.unusedSimpArgs false
def laws_markStringS.l0:Nat → List ByteArray → Int → Int → Option (Int × List ByteArray)
  |0,_,_,_=> none
  |k + 1,x0,x1,x5=> if x5 < (x0.length:Int) then ((laws_markText.f k x1).bind fun t1278=> (if 0 ≤ x5 then (laws_markStringS.l0 k (x0.set (x5:Int).toNat t1278) (wrap64 (x1 + 1)) (wrap64 (x5 + 1))) else (none))) else (some (x1,x0))
def laws_markStringS.f (k:Nat) (l0:List ByteArray) (a1:Int):Option (Int × List ByteArray):=laws_markStringS.l0 k l0 a1 0
theorem laws_markStringS.mono_l:∀ k,(∀ y0 y1 y2,LeO (laws_markStringS.l0 k y0 y1 y2) (laws_markStringS.l0 (k + 1) y0 y1 y2))
  |0=> fun _ _ _ r h=> by simp [laws_markStringS.l0] at h
  |k + 1=> by
    have ih0:=laws_markStringS.mono_l k
    · intro y0 y1 y2
      unfold laws_markStringS.l0
      repeat' first
      |(with_reducible exact ih0 _ _ _)
      |(with_reducible exact laws_markText.mono _ _)
      |(with_reducible exact LeO.refl _)
      |(with_reducible exact LeO.none _)
      |(with_reducible refine LeO.ite ?_ ?_)
      |(with_reducible refine LeO.bind ?_ (fun _=> ?_))
      |exact ih0 _ _ _
      |exact laws_markText.mono _ _
      |exact LeO.none _
      |refine LeO.ite ?_ ?_
      |refine LeO.bind ?_ (fun _=> ?_)
theorem laws_markStringS.mono:∀ a0 a1 k,LeO (laws_markStringS.f k a0 a1) (laws_markStringS.f (k + 1) a0 a1):=by
  intro a0 a1 k
  have ih0:=laws_markStringS.mono_l k
  unfold laws_markStringS.f
  repeat' first
      |(with_reducible exact ih0 _ _ _)
      |(with_reducible exact laws_markText.mono _ _)
      |(with_reducible exact LeO.refl _)
      |(with_reducible exact LeO.none _)
      |(with_reducible refine LeO.ite ?_ ?_)
      |(with_reducible refine LeO.bind ?_ (fun _=> ?_))
      |exact ih0 _ _ _
      |exact laws_markText.mono _ _
      |exact LeO.none _
      |refine LeO.ite ?_ ?_
      |refine LeO.bind ?_ (fun _=> ?_)
set_option maxHeartbeats 8000000 in
set_option maxRecDepth 100000 in
theorem laws_markStringS.calls (k:Nat) (P0_:Nat → Prop) (u9000_:Value) (l0:List ByteArray) (a1:Int) (r1:Int) (r2:List ByteArray) (w0 w:World) (hB:Below w0.heap.size w0 w) (ho0:Kd.R Kd.string 9 w w0.heap.size P0_ u9000_ l0) (h:laws_markStringS.f k l0 a1=some (r1,r2)):
    Calls Try.prog 46 #[u9000_,.int .i64 a1] w fun e w'=> e= .returned (.int .i64 r1) ∧ Kd.R Kd.string 9 w' w0.heap.size (fun k_=> (P0_ k_ ∨ w.heap.size ≤ k_)) u9000_ r2 ∧ Below w0.heap.size w0 w' ∧ Kept w w' (fun k_=> P0_ k_):=by
  have HO0:=Aside0.mk (show Kd.R Kd.string 9 w w0.heap.size (fun k_=> (P0_ k_ ∨ w.heap.size ≤ k_)) u9000_ l0 from Kd.R_mono ho0 (fun k_ hk=> (.inl hk)))
  have HK:=Aside0.mk (Kept.refl w (fun k_=> P0_ k_))
  have HW0:=Aside0.mk hB.size
  have HB:=Aside0.mk hB
  clear hB
  have H:(laws_markStringS.l0 k l0 a1 0)=some (r1,r2):=h
  clear h
  have H':=Aside0.mk H
  clear H
  go_enter Try.func46,Try.ntmps46
  go_wp2
  go_loopg [1,5] k (fun kq v1 v5 w'=> ∃ (x0_1:List ByteArray) (x1_1:Int) (x5_1:Int),v1= .int .i64 x1_1 ∧ v5= .int .i64 x5_1 ∧ Aside0 (laws_markStringS.l0 kq x0_1 x1_1 x5_1=some (r1,r2)) ∧ Aside0 (kq ≤ k) ∧ Aside0 (Kd.R Kd.string 9 w' w0.heap.size (fun k_=> (P0_ k_ ∨ w.heap.size ≤ k_)) u9000_ x0_1) ∧ Aside0 (Kept w w' (fun k_=> P0_ k_)) ∧ Aside0 (Below w0.heap.size w0 w'))
  case atStart=> exact ⟨(l0),(a1),(0),(by first|rfl|(simp;done)|(simp [*];done)),(by first|rfl|(simp;done)|(simp [*];done)),H',⟨Nat.le_refl _⟩,⟨by (with_reducible repeat (first|apply Kd.R_alloc|apply Kd.R_drewN|apply Kd.R_drew));exact HO0.out⟩,⟨by repeat (first|(with_reducible first|exact HK.out|apply Kept.alloc|apply Kept.drewN|apply Kept.drew)|exact HK.out)⟩,⟨by repeat (first|(with_reducible first|exact HB.out|apply bwA|apply bwN|apply bwD)|exact HB.out)⟩⟩
  case round=>
    clear H'
    try clear p2
    obtain ⟨x0_1,x1_1,x5_1,rfl,rfl,HA,HK1,HO_0,HK,HB⟩:=hrel
    cases gk with
    |zero=> exact absurd HA.out (by simp [laws_markStringS.l0])
    |succ k1=>
      have H:=HA.out
      clear HA
      simp only [laws_markStringS.l0] at H
      by_cases c3:x5_1 < (x0_1.length:Int)
      · rw [if_pos c3] at H
        have c3b0:decide (x5_1 < (x0_1.length:Int))=true:=decide_eq_true c3
        clear c3
        replace H:=Option.bind_eq_some_iff.mp H
        obtain ⟨t1278,A40,H⟩:=H
        replace H:(if 0 ≤ x5_1 then (laws_markStringS.l0 k1 (x0_1.set (x5_1:Int).toNat t1278) (wrap64 (x1_1 + 1)) (wrap64 (x5_1 + 1))) else (none))=some (r1,r2):=H
        have A4:=Aside0.mk A40
        clear A40
        by_cases c5:0 ≤ x5_1
        · rw [if_pos c5] at H
          have c5b0:decide (0 ≤ x5_1)=true:=decide_eq_true c5
          clear c5
          obtain ⟨y1279,hy1279⟩:∃ y_:List ByteArray,y_=(x0_1.set (x5_1:Int).toNat t1278):=⟨_,rfl⟩
          replace H:(laws_markStringS.l0 k1 y1279 (wrap64 (x1_1 + 1)) (wrap64 (x5_1 + 1)))=some (r1,r2):=by first|(rw [hy1279];with_reducible exact H)|(have H2_:=(Option.bind_some _ _).symm.trans H;rw [hy1279];with_reducible exact H2_)|(have H2_:=(Option.bind_some _ _).symm.trans H;with_reducible exact H2_)|with_reducible exact H|(rw [hy1279];exact H)|exact H
          have Ny1279:=Aside0.mk hy1279
          clear hy1279
          have H':=Aside0.mk H
          clear H
          obtain ⟨Ao7,co7,eo7⟩:=Kd.R_slice HO_0.out
          subst eo7
          go_wp2_with (first|((with_reducible refine gate_callee (f:=107) rfl ?_);refine goesL_ (some 15) rfl rfl Try.func107 (by kernel_rfl) rfl #[.int .i64 x1_1] rfl (by (try simp only [List.map_toArray,List.map_cons,List.map_nil]);first|done|rfl|(simp only [List.length_drop,List.length_take];rfl)) ?_;(with_reducible refine (laws_markText.calls k1 x1_1 t1278 _ A4.out).mono ?_);rintro e w8 ⟨rfl,hb⟩;refine ⟨_,rfl,?_⟩;have n0_:=Aside0.mk (Kd.R_below (by (with_reducible repeat (first|apply Kd.R_alloc|apply Kd.R_drewN|apply Kd.R_drew));exact HO_0.out) hb);have n1_:=Aside0.mk (Kept.below (S:=(fun k_=> P0_ k_)) (by repeat (first|(with_reducible first|exact HK.out|apply Kept.alloc|apply Kept.drewN|apply Kept.drew)|exact HK.out)) hb);have n2_:=Aside0.mk (below_step (by repeat (first|(with_reducible first|exact HB.out|apply bwA|apply bwN|apply bwD)|exact HB.out)) hb);clear HO_0;clear HK;clear HB;have HO_0:=n0_;have HK:=n1_;have HB:=n2_;clear n0_ n1_ n2_;(try clear hb);(try clear hb2);(try clear hk);(try clear hi);have p6:0 ≤ (x5_1:Int):=of_decide_eq_true (by first|(with_reducible assumption)|assumption);have q6:(x5_1:Int) < ((x0_1.length:Int):Int):=of_decide_eq_true (by first|(with_reducible assumption)|assumption);obtain ⟨go6,co6,eo6,gb6,gl6,cl6,HG6⟩:=Kd.R_form HO_0.out (by omega);(first|cases eo6|(injection eo6 with ea_ en_ ec_;(first|subst ea_|(injection ea_ with ea_;subst ea_));subst ec_;clear en_));have GB6:=Aside0.mk gb6;have GG6:=Aside0.mk HG6;clear gb6 gl6 HG6;have HMgo6:=Aside0.mk (show (P0_ go6 ∨ w.heap.size ≤ go6) from (HO_0.out.1 _ rfl));obtain ⟨hx6_0,hf6_0⟩:=Kd.R_celln (⟨#[]⟩:ByteArray) HO_0.out (x5_1:Int) p6 q6;replace p6:=eq_true p6;replace q6:=eq_true q6;obtain ⟨hy9_,hz9_⟩:=Kd.R_celln (⟨#[]⟩:ByteArray) HO_0.out (x5_1:Int) (of_decide_eq_true (by first|(with_reducible assumption)|assumption)) (of_decide_eq_true (by first|(with_reducible assumption)|assumption));have HP9:=Kd.R_putg HO_0.out (x5_1:Int) t1278)|((with_reducible refine gate_store (t:=9) (p:=16) rfl ?_);refine store_event (t:=9) (p:=16) (v:=?vo_w10) (w1:=(w8.setCell ⟨go6,(x5_1:Int).toNat,none⟩ (.string t1278))) ?hg ?ho ?hn ?hr ?_;(case ho=> rfl);(case hg=> rfl);(case hn=> rfl);(case hr=> first|(go_simp;done)|(go_simp;rfl));intro w10 hw;have hg:w8.grownBy w10 (some go6):=(by rw [hw];exact HP9.2);have hp_:Kd.R Kd.string 9 w10 w0.heap.size (fun k_=> (P0_ k_ ∨ w.heap.size ≤ k_)) (.slice (some ⟨go6,0,none⟩) x0_1.length co7) y1279:=(by rw [hw,Ny1279.out];exact HP9.1);clear HP9;have n0_:=Aside0.mk (hp_);have n1_:=Aside0.mk ((by rw [hw];exact bwS (HB.out) GB6.out:Below w0.heap.size w0 w10));have n2_:=Aside0.mk (Kept.of_grown (S:=(fun k_=> P0_ k_)) hg (by repeat (first|(with_reducible first|exact HK.out|apply Kept.alloc|apply Kept.drewN|apply Kept.drew)|exact HK.out)) (fun k_ e_=> (HO_0.out.1 k_ e_)));clear HO_0;clear HB;clear HK;have HO_0:=n0_;have HB:=n1_;have HK:=n2_;clear n0_ n1_ n2_;clear hg hw hp_))
          go_roundg k1
          case measure=> have:=HK1.out;omega
          case rel=> exact ⟨(y1279),(wrap64 (x1_1 + 1)),(wrap64 (x5_1 + 1)),(by first|rfl|(simp;done)|(simp [*];done)),(by first|rfl|(simp;done)|(simp [*];done)),H',⟨by have:=HK1.out;omega⟩,⟨by (with_reducible repeat (first|apply Kd.R_alloc|apply Kd.R_drewN|apply Kd.R_drew));exact HO_0.out⟩,⟨by repeat (first|(with_reducible first|exact HK.out|apply Kept.alloc|apply Kept.drewN|apply Kept.drew)|exact HK.out)⟩,⟨by repeat (first|(with_reducible first|exact HB.out|apply bwA|apply bwN|apply bwD)|exact HB.out)⟩⟩
        · rw [if_neg c5] at H
          exact absurd H (by simp)
      · rw [if_neg c3] at H
        have c3b0:decide (x5_1 < (x0_1.length:Int))=false:=decide_eq_false c3
        clear c3
        simp only [Option.some.injEq,Prod.mk.injEq] at H
        obtain ⟨rfl,rfl⟩:=H
        obtain ⟨Ao11,co11,eo11⟩:=Kd.R_slice HO_0.out
        subst eo11
        go_wp2
        go_ret
        exact ⟨by first|rfl|(simp [errW_none,errW_some] <;> rfl)|(simp [*,errW_none,errW_some] <;> rfl),by (with_reducible repeat (first|apply Kd.R_alloc|apply Kd.R_drewN|apply Kd.R_drew));exact HO_0.out,by repeat (first|(with_reducible first|exact HB.out|apply bwA|apply bwN|apply bwD)|exact HB.out),by repeat (first|(with_reducible first|exact HK.out|apply Kept.alloc|apply Kept.drewN|apply Kept.drew)|exact HK.out)⟩
def laws_szStringS.l0:Nat → List ByteArray → Int → Int → Option (Int)
  |0,_,_,_=> none
  |k + 1,x0,x1,x5=> if x5 < (x0.length:Int) then (if 0 ≤ x5 then (if (wrap64 (x1 - ((rdOf ByteArray.empty x0 x5).size:Int))) < 0 then (some (-1)) else (laws_szStringS.l0 k x0 (wrap64 (x1 - ((rdOf ByteArray.empty x0 x5).size:Int))) (wrap64 (x5 + 1)))) else (none)) else (some x1)
def laws_szStringS.f (k:Nat) (l0:List ByteArray) (a1:Int):Option (Int):=if (wrap64 (a1 - (l0.length:Int))) < 0 then (some (-1)) else (laws_szStringS.l0 k l0 (wrap64 (a1 - (l0.length:Int))) 0)
theorem laws_szStringS.mono_l:∀ k,(∀ y0 y1 y2,LeO (laws_szStringS.l0 k y0 y1 y2) (laws_szStringS.l0 (k + 1) y0 y1 y2))
  |0=> fun _ _ _ r h=> by simp [laws_szStringS.l0] at h
  |k + 1=> by
    have ih0:=laws_szStringS.mono_l k
    · intro y0 y1 y2
      unfold laws_szStringS.l0
      repeat' first
      |(with_reducible exact ih0 _ _ _)
      |(with_reducible exact LeO.refl _)
      |(with_reducible exact LeO.none _)
      |(with_reducible refine LeO.ite ?_ ?_)
      |(with_reducible refine LeO.bind ?_ (fun _=> ?_))
      |exact ih0 _ _ _
      |exact LeO.none _
      |refine LeO.ite ?_ ?_
      |refine LeO.bind ?_ (fun _=> ?_)
theorem laws_szStringS.mono:∀ a0 a1 k,LeO (laws_szStringS.f k a0 a1) (laws_szStringS.f (k + 1) a0 a1):=by
  intro a0 a1 k
  have ih0:=laws_szStringS.mono_l k
  unfold laws_szStringS.f
  repeat' first
      |(with_reducible exact ih0 _ _ _)
      |(with_reducible exact LeO.refl _)
      |(with_reducible exact LeO.none _)
      |(with_reducible refine LeO.ite ?_ ?_)
      |(with_reducible refine LeO.bind ?_ (fun _=> ?_))
      |exact ih0 _ _ _
      |exact LeO.none _
      |refine LeO.ite ?_ ?_
      |refine LeO.bind ?_ (fun _=> ?_)
set_option maxHeartbeats 8000000 in
set_option maxRecDepth 100000 in
theorem laws_szStringS.calls (k:Nat) (A0:Option Addr) (c0:Nat) (l0:List ByteArray) (a1:Int) (r:Int) (w:World) (hr0:Kd.C Kd.string w A0 l0.length l0) (hc0:l0.length ≤ c0) (h:laws_szStringS.f k l0 a1=some r):
    Calls Try.prog 39 #[.slice A0 l0.length c0,.int .i64 a1] w fun e w'=> e= .returned (.int .i64 r) ∧ Drawn0 w w':=by
  have HR0:=Aside0.mk hr0
  have HC0:=Aside0.mk hc0
  clear hr0 hc0
  have H:(if (wrap64 (a1 - (l0.length:Int))) < 0 then (some (-1)) else (laws_szStringS.l0 k l0 (wrap64 (a1 - (l0.length:Int))) 0))=some r:=h
  clear h
  by_cases c3:(wrap64 (a1 - (l0.length:Int))) < 0
  · rw [if_pos c3] at H
    have c3b0:decide ((wrap64 (a1 - (l0.length:Int))) < 0)=true:=decide_eq_true c3
    clear c3
    obtain rfl:=Option.some.inj H
    go_enter Try.func39,Try.ntmps39
    go_wp2
    go_ret
    exact ⟨by first|rfl|(simp;done)|(simp [*];done),by repeat (first|exact Drawn0.refl _|apply Drawn0.step)⟩
  · rw [if_neg c3] at H
    have c3b0:decide ((wrap64 (a1 - (l0.length:Int))) < 0)=false:=decide_eq_false c3
    clear c3
    have H':=Aside0.mk H
    clear H
    go_enter Try.func39,Try.ntmps39
    go_wp2
    go_loopg [1,5] k (fun kq v1 v5 w'=> ∃ (x1_1:Int) (x5_1:Int),v1= .int .i64 x1_1 ∧ v5= .int .i64 x5_1 ∧ Aside0 (laws_szStringS.l0 kq l0 x1_1 x5_1=some r) ∧ Aside0 (kq ≤ k) ∧ Drawn0 w w')
    case atStart=> exact ⟨(wrap64 (a1 - (l0.length:Int))),(0),(by first|rfl|(simp;done)|(simp [*];done)),(by first|rfl|(simp;done)|(simp [*];done)),H',⟨Nat.le_refl _⟩,by repeat (first|exact Drawn0.refl _|apply Drawn0.step)⟩
    case round=>
      clear H'
      try clear p2
      try clear c3
      try clear c3b0
      obtain ⟨x1_1,x5_1,rfl,rfl,HA,HK1,⟨m1,rfl⟩⟩:=hrel
      cases gk with
      |zero=> exact absurd HA.out (by simp [laws_szStringS.l0])
      |succ k1=>
        have H:=HA.out
        clear HA
        simp only [laws_szStringS.l0] at H
        by_cases c4:x5_1 < (l0.length:Int)
        · rw [if_pos c4] at H
          have c4b0:decide (x5_1 < (l0.length:Int))=true:=decide_eq_true c4
          clear c4
          by_cases c5:0 ≤ x5_1
          · rw [if_pos c5] at H
            have c5b0:decide (0 ≤ x5_1)=true:=decide_eq_true c5
            clear c5
            by_cases c6:(wrap64 (x1_1 - ((rdOf ByteArray.empty l0 x5_1).size:Int))) < 0
            · rw [if_pos c6] at H
              have c6b0:decide ((wrap64 (x1_1 - ((rdOf ByteArray.empty l0 x5_1).size:Int))) < 0)=true:=decide_eq_true c6
              clear c6
              obtain rfl:=Option.some.inj H
              have p1055:0 ≤ (x5_1:Int):=of_decide_eq_true (by first|(with_reducible assumption)|assumption)
              have q1055:x5_1 < (l0.length:Int):=of_decide_eq_true (by first|(with_reducible assumption)|assumption)
              obtain ⟨ad1055,e1055,hx1055_0⟩:=Kd.at_string HR0.out x5_1 p1055 q1055
              cases e1055
              replace p1055:=eq_true p1055
              replace q1055:=eq_true q1055
              go_wp2
              go_ret
              exact ⟨by first|rfl|(simp;done)|(simp [*];done),by repeat (first|exact Drawn0.refl _|apply Drawn0.step)⟩
            · rw [if_neg c6] at H
              have c6b0:decide ((wrap64 (x1_1 - ((rdOf ByteArray.empty l0 x5_1).size:Int))) < 0)=false:=decide_eq_false c6
              clear c6
              have H':=Aside0.mk H
              clear H
              have p1055:0 ≤ (x5_1:Int):=of_decide_eq_true (by first|(with_reducible assumption)|assumption)
              have q1055:x5_1 < (l0.length:Int):=of_decide_eq_true (by first|(with_reducible assumption)|assumption)
              obtain ⟨ad1055,e1055,hx1055_0⟩:=Kd.at_string HR0.out x5_1 p1055 q1055
              cases e1055
              replace p1055:=eq_true p1055
              replace q1055:=eq_true q1055
              go_wp2
              go_roundg k1
              case measure=> have:=HK1.out;omega
              case rel=> exact ⟨(wrap64 (x1_1 - ((rdOf ByteArray.empty l0 x5_1).size:Int))),(wrap64 (x5_1 + 1)),(by first|rfl|(simp;done)|(simp [*];done)),(by first|rfl|(simp;done)|(simp [*];done)),H',⟨by have:=HK1.out;omega⟩,by repeat (first|exact Drawn0.refl _|apply Drawn0.step)⟩
          · rw [if_neg c5] at H
            exact absurd H (by simp)
        · rw [if_neg c4] at H
          have c4b0:decide (x5_1 < (l0.length:Int))=false:=decide_eq_false c4
          clear c4
          obtain rfl:=Option.some.inj H
          go_wp2
          go_ret
          exact ⟨by first|rfl|(simp;done)|(simp [*];done),by repeat (first|exact Drawn0.refl _|apply Drawn0.step)⟩
def laws_toStringS.l0:Nat → List ByteArray → List ByteArray → Int → Option (List ByteArray)
  |0,_,_,_=> none
  |k + 1,x0,x3,x4=> if x4 < (x0.length:Int) then (if 0 ≤ x4 then (if x4 < (x3.length:Int) then (laws_toStringS.l0 k x0 (x3.set (x4:Int).toNat (rdOf ByteArray.empty x0 x4)) (wrap64 (x4 + 1))) else (none)) else (none)) else (some x3)
def laws_toStringS.f (k:Nat) (l0:List ByteArray):Option (List ByteArray):=if 0 ≤ (l0.length:Int) then (if ((l0.length:Int):Int).toNat ≤ 17592186044416 then (laws_toStringS.l0 k l0 (List.replicate ((l0.length:Int):Int).toNat (⟨#[]⟩:ByteArray)) 0) else (none)) else (none)
theorem laws_toStringS.mono_l:∀ k,(∀ y0 y1 y2,LeO (laws_toStringS.l0 k y0 y1 y2) (laws_toStringS.l0 (k + 1) y0 y1 y2))
  |0=> fun _ _ _ r h=> by simp [laws_toStringS.l0] at h
  |k + 1=> by
    have ih0:=laws_toStringS.mono_l k
    · intro y0 y1 y2
      unfold laws_toStringS.l0
      repeat' first
      |(with_reducible exact ih0 _ _ _)
      |(with_reducible exact LeO.refl _)
      |(with_reducible exact LeO.none _)
      |(with_reducible refine LeO.ite ?_ ?_)
      |(with_reducible refine LeO.bind ?_ (fun _=> ?_))
      |exact ih0 _ _ _
      |exact LeO.none _
      |refine LeO.ite ?_ ?_
      |refine LeO.bind ?_ (fun _=> ?_)
theorem laws_toStringS.mono:∀ a0 k,LeO (laws_toStringS.f k a0) (laws_toStringS.f (k + 1) a0):=by
  intro a0 k
  have ih0:=laws_toStringS.mono_l k
  unfold laws_toStringS.f
  repeat' first
      |(with_reducible exact ih0 _ _ _)
      |(with_reducible exact LeO.refl _)
      |(with_reducible exact LeO.none _)
      |(with_reducible refine LeO.ite ?_ ?_)
      |(with_reducible refine LeO.bind ?_ (fun _=> ?_))
      |exact ih0 _ _ _
      |exact LeO.none _
      |refine LeO.ite ?_ ?_
      |refine LeO.bind ?_ (fun _=> ?_)
set_option maxHeartbeats 8000000 in
set_option maxRecDepth 100000 in
theorem laws_toStringS.calls (k:Nat) (A0:Option Addr) (c0:Nat) (l0:List ByteArray) (r:List ByteArray) (w:World) (hr0:Kd.C Kd.string w A0 l0.length l0) (hc0:l0.length ≤ c0) (h:laws_toStringS.f k l0=some r):
    Calls Try.prog 41 #[.slice A0 l0.length c0] w fun e w'=> ∃ v0_:Value,e= .returned (v0_) ∧ Kd.R Kd.string 9 w' w.heap.size (fun _=> True) v0_ r ∧ Below w.heap.size w w':=by
  have HR0:=Aside0.mk hr0
  have HC0:=Aside0.mk hc0
  clear hr0 hc0
  have HB:=Aside0.mk (Below.refl w.heap.size w)
  have H:(if 0 ≤ (l0.length:Int) then (if ((l0.length:Int):Int).toNat ≤ 17592186044416 then (laws_toStringS.l0 k l0 (List.replicate ((l0.length:Int):Int).toNat (⟨#[]⟩:ByteArray)) 0) else (none)) else (none))=some r:=h
  clear h
  by_cases c2:0 ≤ (l0.length:Int)
  · rw [if_pos c2] at H
    have c2b0:=eq_true c2
    have c2b1:decide (0 ≤ (l0.length:Int))=true:=decide_eq_true c2
    clear c2
    by_cases c3:((l0.length:Int):Int).toNat ≤ 17592186044416
    · rw [if_pos c3] at H
      have c3b0:=eq_true c3
      have c3b1:decide (((l0.length:Int):Int).toNat ≤ 17592186044416)=true:=decide_eq_true c3
      clear c3
      obtain ⟨y1056,hy1056⟩:∃ y_:List ByteArray,y_=(List.replicate ((l0.length:Int):Int).toNat (⟨#[]⟩:ByteArray)):=⟨_,rfl⟩
      replace H:(laws_toStringS.l0 k l0 y1056 0)=some r:=by first|(rw [hy1056];with_reducible exact H)|(have H2_:=(Option.bind_some _ _).symm.trans H;rw [hy1056];with_reducible exact H2_)|(have H2_:=(Option.bind_some _ _).symm.trans H;with_reducible exact H2_)|with_reducible exact H|(rw [hy1056];exact H)|exact H
      have Ny1056:=Aside0.mk hy1056
      clear hy1056
      have H':=Aside0.mk H
      clear H
      go_enter Try.func41,Try.ntmps41
      go_wp2_with (first|((with_reducible refine gate_dst (N:=7) rfl ?_);refine Kd.R_make Kd.string _ 9 rfl (N:=7) rfl 41 _ _ rfl (l0.length:Int) rfl rfl Try.underlying41 (.string ⟨#[]⟩) 16 info9 rfl (by decide) (by omega) (⟨#[]⟩:ByteArray) (ok:=fun _=> True) (okp:=fun _=> True) rfl (fun _ hk=> hk) trivial (of_decide_eq_true (by first|(with_reducible assumption)|assumption)) (Nat.le_trans (Nat.mul_le_mul_right _ (of_decide_eq_true (by first|(with_reducible assumption)|assumption):(l0.length:Int).toNat ≤ 17592186044416)) (by omega)) (Below.refl _ _) (Nat.le_refl _) ?_;intro v1057 w4 ho5 hb hg_ hnew_;clear hg_ hnew_;(first|rw [← Ny1056.out] at ho5|(simp only [Int.reduceToNat] at ho5;rw [← Ny1056.out] at ho5));have n0_:=Aside0.mk (Kd.R_lower ho5 (below_size (by repeat (first|(with_reducible first|exact HB.out|apply bwA|apply bwN|apply bwD)|exact HB.out))));have n1_:=Aside0.mk (below_step (by repeat (first|(with_reducible first|exact HB.out|apply bwA|apply bwN|apply bwD)|exact HB.out)) hb);clear HB;have HO1058:=n0_;have HB:=n1_;clear n0_ n1_;clear hb ho5))
      go_loopg [4] k (fun kq v4 w'=> ∃ (x3_1:List ByteArray) (x4_1:Int),v4= .int .i64 x4_1 ∧ Aside0 (laws_toStringS.l0 kq l0 x3_1 x4_1=some r) ∧ Aside0 (kq ≤ k) ∧ Aside0 (Kd.R Kd.string 9 w' w.heap.size (fun _=> True) v1057 x3_1) ∧ Aside0 (Below w.heap.size w w'))
      case atStart=> exact ⟨(y1056),(0),(by first|rfl|(simp;done)|(simp [*];done)),H',⟨Nat.le_refl _⟩,⟨by (with_reducible repeat (first|apply Kd.R_alloc|apply Kd.R_drewN|apply Kd.R_drew));exact HO1058.out⟩,⟨by repeat (first|(with_reducible first|exact HB.out|apply bwA|apply bwN|apply bwD)|exact HB.out)⟩⟩
      case round=>
        clear H'
        try clear c2
        try clear c2b0
        try clear c2b1
        try clear p2
        try clear c3
        try clear c3b0
        try clear c3b1
        try clear c4
        obtain ⟨x3_1,x4_1,rfl,HA,HK1,HO_3,HB⟩:=hrel
        cases gk with
        |zero=> exact absurd HA.out (by simp [laws_toStringS.l0])
        |succ k1=>
          have H:=HA.out
          clear HA
          simp only [laws_toStringS.l0] at H
          by_cases c6:x4_1 < (l0.length:Int)
          · rw [if_pos c6] at H
            have c6b0:decide (x4_1 < (l0.length:Int))=true:=decide_eq_true c6
            clear c6
            by_cases c7:0 ≤ x4_1
            · rw [if_pos c7] at H
              have c7b0:decide (0 ≤ x4_1)=true:=decide_eq_true c7
              clear c7
              by_cases c8:x4_1 < (x3_1.length:Int)
              · rw [if_pos c8] at H
                have c8b0:decide (x4_1 < (x3_1.length:Int))=true:=decide_eq_true c8
                clear c8
                obtain ⟨y1060,hy1060⟩:∃ y_:List ByteArray,y_=(x3_1.set (x4_1:Int).toNat (rdOf ByteArray.empty l0 x4_1)):=⟨_,rfl⟩
                replace H:(laws_toStringS.l0 k1 l0 y1060 (wrap64 (x4_1 + 1)))=some r:=by first|(rw [hy1060];with_reducible exact H)|(have H2_:=(Option.bind_some _ _).symm.trans H;rw [hy1060];with_reducible exact H2_)|(have H2_:=(Option.bind_some _ _).symm.trans H;with_reducible exact H2_)|with_reducible exact H|(rw [hy1060];exact H)|exact H
                have Ny1060:=Aside0.mk hy1060
                clear hy1060
                have H':=Aside0.mk H
                clear H
                have p1059:0 ≤ (x4_1:Int):=of_decide_eq_true (by first|(with_reducible assumption)|assumption)
                have q1059:x4_1 < (l0.length:Int):=of_decide_eq_true (by first|(with_reducible assumption)|assumption)
                obtain ⟨ad1059,e1059,hx1059_0⟩:=Kd.at_string HR0.out x4_1 p1059 q1059
                cases e1059
                replace hx1059_0:=(HB.out.cell (World.block_lt_of_cell? w _ hx1059_0)).trans hx1059_0
                replace p1059:=eq_true p1059
                replace q1059:=eq_true q1059
                have p9:0 ≤ (x4_1:Int):=of_decide_eq_true (by first|(with_reducible assumption)|assumption)
                have q9:(x4_1:Int) < ((x3_1.length:Int):Int):=of_decide_eq_true (by first|(with_reducible assumption)|assumption)
                obtain ⟨go9,co9,eo9,gb9,gl9,cl9,HG9⟩:=Kd.R_form HO_3.out (by omega)
                (first|cases eo9|(injection eo9 with ea_ en_ ec_;(first|subst ea_|(injection ea_ with ea_;subst ea_));subst ec_;clear en_))
                have GB9:=Aside0.mk gb9
                have GG9:=Aside0.mk HG9
                clear gb9 gl9 HG9
                obtain ⟨hx9_0,hf9_0⟩:=Kd.R_celln (⟨#[]⟩:ByteArray) HO_3.out (x4_1:Int) p9 q9
                replace p9:=eq_true p9
                replace q9:=eq_true q9
                have HP10:=Kd.R_putg HO_3.out (x4_1:Int) (rdOf ByteArray.empty l0 x4_1)
                go_wp2_with (first|((with_reducible refine gate_store (t:=9) (p:=20) rfl ?_);refine store_event (t:=9) (p:=20) (v:=?vo_w11) (w1:=(wr.setCell ⟨go9,(x4_1:Int).toNat,none⟩ (.string (rdOf ByteArray.empty l0 x4_1)))) ?hg ?ho ?hn ?hr ?_;(case ho=> rfl);(case hg=> rfl);(case hn=> rfl);(case hr=> first|(go_simp;done)|(go_simp;rfl));intro w11 hw;have hg:wr.grownBy w11 (some go9):=(by rw [hw];exact HP10.2);have hp_:Kd.R Kd.string 9 w11 w.heap.size (fun _=> True) (.slice (some ⟨go9,0,none⟩) x3_1.length co9) y1060:=(by rw [hw,Ny1060.out];exact HP10.1);clear HP10;have n0_:=Aside0.mk (hp_);have n1_:=Aside0.mk ((by rw [hw];exact bwS (HB.out) GB9.out:Below w.heap.size w w11));clear HO_3;clear HB;have HO_3:=n0_;have HB:=n1_;clear n0_ n1_;clear hg hw hp_))
                go_roundg k1
                case measure=> have:=HK1.out;omega
                case rel=> exact ⟨(y1060),(wrap64 (x4_1 + 1)),(by first|rfl|(simp;done)|(simp [*];done)),H',⟨by have:=HK1.out;omega⟩,⟨by (with_reducible repeat (first|apply Kd.R_alloc|apply Kd.R_drewN|apply Kd.R_drew));exact HO_3.out⟩,⟨by repeat (first|(with_reducible first|exact HB.out|apply bwA|apply bwN|apply bwD)|exact HB.out)⟩⟩
              · rw [if_neg c8] at H
                exact absurd H (by simp)
            · rw [if_neg c7] at H
              exact absurd H (by simp)
          · rw [if_neg c6] at H
            have c6b0:decide (x4_1 < (l0.length:Int))=false:=decide_eq_false c6
            clear c6
            obtain rfl:=Option.some.inj H
            go_wp2
            go_ret
            exact ⟨_,by first|rfl|(simp [errW_none,errW_some] <;> rfl)|(simp [*,errW_none,errW_some] <;> rfl),by (with_reducible repeat (first|apply Kd.R_alloc|apply Kd.R_drewN|apply Kd.R_drew));exact HO_3.out,by repeat (first|(with_reducible first|exact HB.out|apply bwA|apply bwN|apply bwD)|exact HB.out)⟩
    · rw [if_neg c3] at H
      exact absurd H (by simp)
  · rw [if_neg c2] at H
    exact absurd H (by simp)
def spec_l01In.f (a0:Int) (a1:Int) (a2:Int):Option (Bool):=if a1 ≤ a0 then (some (decide (a0 ≤ a2))) else (some false)
set_option maxHeartbeats 8000000 in
set_option maxRecDepth 100000 in
theorem spec_l01In.calls (a0:Int) (a1:Int) (a2:Int) (r:Bool) (w:World) (h:spec_l01In.f a0 a1 a2=some r):
    Calls Try.prog 103 #[.int .i64 a0,.int .i64 a1,.int .i64 a2] w fun e w'=> e= .returned (.bool r) ∧ Drawn0 w w':=by
  have H:(if a1 ≤ a0 then (some (decide (a0 ≤ a2))) else (some false))=some r:=h
  clear h
  by_cases c4:a1 ≤ a0
  · rw [if_pos c4] at H
    have c4b0:decide (a1 ≤ a0)=true:=decide_eq_true c4
    clear c4
    obtain rfl:=Option.some.inj H
    go_enter Try.func103,Try.ntmps103
    go_wp2
    go_ret
    exact ⟨by first|rfl|(simp;done)|(simp [*];done),by repeat (first|exact Drawn0.refl _|apply Drawn0.step)⟩
  · rw [if_neg c4] at H
    have c4b0:decide (a1 ≤ a0)=false:=decide_eq_false c4
    clear c4
    obtain rfl:=Option.some.inj H
    go_enter Try.func103,Try.ntmps103
    go_wp2
    go_ret
    exact ⟨by first|rfl|(simp;done)|(simp [*];done),by repeat (first|exact Drawn0.refl _|apply Drawn0.step)⟩
def spec_l04Power.l0:Nat → Int → Int → Int → Option (Bool)
  |0,_,_,_=> none
  |k + 1,x0,x1,x5=> if x5 ≤ x1 then (if x0=x5 then (some true) else (spec_l04Power.l0 k x0 x1 (wrap64 (x5 * 2)))) else (some false)
def spec_l04Power.f (k:Nat) (a0:Int) (a1:Int):Option (Bool):=spec_l04Power.l0 k a0 a1 1
theorem spec_l04Power.mono_l:∀ k,(∀ y0 y1 y2,LeO (spec_l04Power.l0 k y0 y1 y2) (spec_l04Power.l0 (k + 1) y0 y1 y2))
  |0=> fun _ _ _ r h=> by simp [spec_l04Power.l0] at h
  |k + 1=> by
    have ih0:=spec_l04Power.mono_l k
    · intro y0 y1 y2
      unfold spec_l04Power.l0
      repeat' first
      |(with_reducible exact ih0 _ _ _)
      |(with_reducible exact LeO.refl _)
      |(with_reducible exact LeO.none _)
      |(with_reducible refine LeO.ite ?_ ?_)
      |(with_reducible refine LeO.bind ?_ (fun _=> ?_))
      |exact ih0 _ _ _
      |exact LeO.none _
      |refine LeO.ite ?_ ?_
      |refine LeO.bind ?_ (fun _=> ?_)
theorem spec_l04Power.mono:∀ a0 a1 k,LeO (spec_l04Power.f k a0 a1) (spec_l04Power.f (k + 1) a0 a1):=by
  intro a0 a1 k
  have ih0:=spec_l04Power.mono_l k
  unfold spec_l04Power.f
  repeat' first
      |(with_reducible exact ih0 _ _ _)
      |(with_reducible exact LeO.refl _)
      |(with_reducible exact LeO.none _)
      |(with_reducible refine LeO.ite ?_ ?_)
      |(with_reducible refine LeO.bind ?_ (fun _=> ?_))
      |exact ih0 _ _ _
      |exact LeO.none _
      |refine LeO.ite ?_ ?_
      |refine LeO.bind ?_ (fun _=> ?_)
set_option maxHeartbeats 8000000 in
set_option maxRecDepth 100000 in
theorem spec_l04Power.calls (k:Nat) (a0:Int) (a1:Int) (r:Bool) (w:World) (h:spec_l04Power.f k a0 a1=some r):
    Calls Try.prog 142 #[.int .i64 a0,.int .i64 a1] w fun e w'=> e= .returned (.bool r) ∧ Drawn0 w w':=by
  have H:(spec_l04Power.l0 k a0 a1 1)=some r:=h
  clear h
  have H':=Aside0.mk H
  clear H
  go_enter Try.func142,Try.ntmps142
  go_wp2
  go_loopg [5] k (fun kq v5 w'=> ∃ (x5_1:Int),v5= .int .i64 x5_1 ∧ Aside0 (spec_l04Power.l0 kq a0 a1 x5_1=some r) ∧ Aside0 (kq ≤ k) ∧ Drawn0 w w')
  case atStart=> exact ⟨(1),(by first|rfl|(simp;done)|(simp [*];done)),H',⟨Nat.le_refl _⟩,by repeat (first|exact Drawn0.refl _|apply Drawn0.step)⟩
  case round=>
    clear H'
    try clear c1
    try clear p2
    obtain ⟨x5_1,rfl,HA,HK1,⟨m1,rfl⟩⟩:=hrel
    cases gk with
    |zero=> exact absurd HA.out (by simp [spec_l04Power.l0])
    |succ k1=>
      have H:=HA.out
      clear HA
      simp only [spec_l04Power.l0] at H
      by_cases c3:x5_1 ≤ a1
      · rw [if_pos c3] at H
        have c3b0:decide (x5_1 ≤ a1)=true:=decide_eq_true c3
        clear c3
        by_cases c4:a0=x5_1
        · rw [if_pos c4] at H
          have c4b0:(a0==x5_1)=true:=beq_iff_eq.mpr c4
          have c4b1:(a0 !=x5_1)=false:=bne_eq_false_iff_eq.mpr c4
          clear c4
          obtain rfl:=Option.some.inj H
          go_wp2
          go_ret
          exact ⟨by first|rfl|(simp;done)|(simp [*];done),by repeat (first|exact Drawn0.refl _|apply Drawn0.step)⟩
        · rw [if_neg c4] at H
          have c4b0:(a0==x5_1)=false:=beq_eq_false_iff_ne.mpr c4
          have c4b1:(a0 !=x5_1)=true:=bne_iff_ne.mpr c4
          have H':=Aside0.mk H
          clear H
          go_wp2
          go_roundg k1
          case measure=> have:=HK1.out;omega
          case rel=> exact ⟨(wrap64 (x5_1 * 2)),(by first|rfl|(simp;done)|(simp [*];done)),H',⟨by have:=HK1.out;omega⟩,by repeat (first|exact Drawn0.refl _|apply Drawn0.step)⟩
      · rw [if_neg c3] at H
        have c3b0:decide (x5_1 ≤ a1)=false:=decide_eq_false c3
        clear c3
        obtain rfl:=Option.some.inj H
        go_wp2
        go_ret
        exact ⟨by first|rfl|(simp;done)|(simp [*];done),by repeat (first|exact Drawn0.refl _|apply Drawn0.step)⟩
def spec_l04Leaves.l0:Nat → List ByteArray → Int → Option (Int)
  |0,_,_=> none
  |k + 1,x0,x3=> if x3 < (x0.length:Int) then (if 0 ≤ x3 then (if ((rdOf ByteArray.empty x0 x3).size:Int) > 64 then (some 4) else (spec_l04Leaves.l0 k x0 (wrap64 (x3 + 1)))) else (none)) else (some 0)
def spec_l04Leaves.f (k:Nat) (l0:List ByteArray):Option (Int):=if (l0.length:Int) > 4096 then (some 2) else ((spec_l04Power.f k (l0.length:Int) 256).bind fun t1197=> (if t1197=true then (spec_l04Leaves.l0 k l0 0) else (some 8)))
theorem spec_l04Leaves.mono_l:∀ k,(∀ y0 y1,LeO (spec_l04Leaves.l0 k y0 y1) (spec_l04Leaves.l0 (k + 1) y0 y1))
  |0=> fun _ _ r h=> by simp [spec_l04Leaves.l0] at h
  |k + 1=> by
    have ih0:=spec_l04Leaves.mono_l k
    · intro y0 y1
      unfold spec_l04Leaves.l0
      repeat' first
      |(with_reducible exact ih0 _ _)
      |(with_reducible exact spec_l04Power.mono _ _ _)
      |(with_reducible exact LeO.refl _)
      |(with_reducible exact LeO.none _)
      |(with_reducible refine LeO.ite ?_ ?_)
      |(with_reducible refine LeO.bind ?_ (fun _=> ?_))
      |exact ih0 _ _
      |exact spec_l04Power.mono _ _ _
      |exact LeO.none _
      |refine LeO.ite ?_ ?_
      |refine LeO.bind ?_ (fun _=> ?_)
theorem spec_l04Leaves.mono:∀ a0 k,LeO (spec_l04Leaves.f k a0) (spec_l04Leaves.f (k + 1) a0):=by
  intro a0 k
  have ih0:=spec_l04Leaves.mono_l k
  unfold spec_l04Leaves.f
  repeat' first
      |(with_reducible exact ih0 _ _)
      |(with_reducible exact spec_l04Power.mono _ _ _)
      |(with_reducible exact LeO.refl _)
      |(with_reducible exact LeO.none _)
      |(with_reducible refine LeO.ite ?_ ?_)
      |(with_reducible refine LeO.bind ?_ (fun _=> ?_))
      |exact ih0 _ _
      |exact spec_l04Power.mono _ _ _
      |exact LeO.none _
      |refine LeO.ite ?_ ?_
      |refine LeO.bind ?_ (fun _=> ?_)
set_option maxHeartbeats 8000000 in
set_option maxRecDepth 100000 in
theorem spec_l04Leaves.calls (k:Nat) (A0:Option Addr) (c0:Nat) (l0:List ByteArray) (r:Int) (w:World) (hr0:Kd.C Kd.string w A0 l0.length l0) (hc0:l0.length ≤ c0) (h:spec_l04Leaves.f k l0=some r):
    Calls Try.prog 98 #[.slice A0 l0.length c0] w fun e w'=> e= .returned (.int .i64 r) ∧ Drawn0 w w':=by
  have HR0:=Aside0.mk hr0
  have HC0:=Aside0.mk hc0
  clear hr0 hc0
  have H:(if (l0.length:Int) > 4096 then (some 2) else ((spec_l04Power.f k (l0.length:Int) 256).bind fun t1197=> (if t1197=true then (spec_l04Leaves.l0 k l0 0) else (some 8))))=some r:=h
  clear h
  by_cases c2:(l0.length:Int) > 4096
  · rw [if_pos c2] at H
    have c2b0:decide (4096 < (l0.length:Int))=true:=decide_eq_true c2
    have c2b1:decide (4096 < l0.length)=true:=decide_eq_true (by omega)
    clear c2
    obtain rfl:=Option.some.inj H
    go_enter Try.func98,Try.ntmps98
    go_wp2
    go_ret
    exact ⟨by first|rfl|(simp;done)|(simp [*];done),by repeat (first|exact Drawn0.refl _|apply Drawn0.step)⟩
  · rw [if_neg c2] at H
    have c2b0:decide (4096 < (l0.length:Int))=false:=decide_eq_false c2
    have c2b1:decide (4096 < l0.length)=false:=decide_eq_false (by omega)
    clear c2
    replace H:=Option.bind_eq_some_iff.mp H
    obtain ⟨t1197,A30,H⟩:=H
    replace H:(if t1197=true then (spec_l04Leaves.l0 k l0 0) else (some 8))=some r:=H
    have A3:=Aside0.mk A30
    clear A30
    by_cases c4:t1197=true
    · subst c4
      have H1:(spec_l04Leaves.l0 k l0 0)=some r:=by rw [if_pos rfl] at H;exact H
      clear H
      have H:=H1
      clear H1
      have H':=Aside0.mk H
      clear H
      go_enter Try.func98,Try.ntmps98
      go_wp2_with (first|((with_reducible refine gate_callee (f:=142) rfl ?_);refine goesL_ (some 9) rfl rfl Try.func142 (by kernel_rfl) rfl #[.int .i64 (l0.length:Int),.int .i64 256] rfl (by (try simp only [List.map_toArray,List.map_cons,List.map_nil]);first|done|rfl|(simp only [List.length_drop,List.length_take];rfl)) ?_;(with_reducible refine (spec_l04Power.calls k (l0.length:Int) 256 true _ A3.out).mono ?_);rintro e w' ⟨rfl,⟨nd,rfl⟩⟩;refine ⟨_,rfl,?_⟩))
      go_loopg [3] k (fun kq v3 w'=> ∃ (x3_1:Int),v3= .int .i64 x3_1 ∧ Aside0 (spec_l04Leaves.l0 kq l0 x3_1=some r) ∧ Aside0 (kq ≤ k) ∧ Drawn0 w w')
      case atStart=> exact ⟨(0),(by first|rfl|(simp;done)|(simp [*];done)),H',⟨Nat.le_refl _⟩,by repeat (first|exact Drawn0.refl _|apply Drawn0.step)⟩
      case round=>
        clear H'
        try clear c1
        try clear c2
        try clear c2b0
        try clear c2b1
        try clear p2
        try clear c4
        obtain ⟨x3_1,rfl,HA,HK1,⟨m1,rfl⟩⟩:=hrel
        cases gk with
        |zero=> exact absurd HA.out (by simp [spec_l04Leaves.l0])
        |succ k1=>
          have H:=HA.out
          clear HA
          simp only [spec_l04Leaves.l0] at H
          by_cases c5:x3_1 < (l0.length:Int)
          · rw [if_pos c5] at H
            have c5b0:decide (x3_1 < (l0.length:Int))=true:=decide_eq_true c5
            clear c5
            by_cases c6:0 ≤ x3_1
            · rw [if_pos c6] at H
              have c6b0:decide (0 ≤ x3_1)=true:=decide_eq_true c6
              clear c6
              by_cases c7:((rdOf ByteArray.empty l0 x3_1).size:Int) > 64
              · rw [if_pos c7] at H
                have c7b0:decide (64 < ((rdOf ByteArray.empty l0 x3_1).size:Int))=true:=decide_eq_true c7
                have c7b1:decide (64 < (rdOf ByteArray.empty l0 x3_1).size)=true:=decide_eq_true (by omega)
                clear c7
                obtain rfl:=Option.some.inj H
                have p1198:0 ≤ (x3_1:Int):=of_decide_eq_true (by first|(with_reducible assumption)|assumption)
                have q1198:x3_1 < (l0.length:Int):=of_decide_eq_true (by first|(with_reducible assumption)|assumption)
                obtain ⟨ad1198,e1198,hx1198_0⟩:=Kd.at_string HR0.out x3_1 p1198 q1198
                cases e1198
                replace p1198:=eq_true p1198
                replace q1198:=eq_true q1198
                go_wp2
                go_ret
                exact ⟨by first|rfl|(simp;done)|(simp [*];done),by repeat (first|exact Drawn0.refl _|apply Drawn0.step)⟩
              · rw [if_neg c7] at H
                have c7b0:decide (64 < ((rdOf ByteArray.empty l0 x3_1).size:Int))=false:=decide_eq_false c7
                have c7b1:decide (64 < (rdOf ByteArray.empty l0 x3_1).size)=false:=decide_eq_false (by omega)
                clear c7
                have H':=Aside0.mk H
                clear H
                have p1198:0 ≤ (x3_1:Int):=of_decide_eq_true (by first|(with_reducible assumption)|assumption)
                have q1198:x3_1 < (l0.length:Int):=of_decide_eq_true (by first|(with_reducible assumption)|assumption)
                obtain ⟨ad1198,e1198,hx1198_0⟩:=Kd.at_string HR0.out x3_1 p1198 q1198
                cases e1198
                replace p1198:=eq_true p1198
                replace q1198:=eq_true q1198
                go_wp2
                go_roundg k1
                case measure=> have:=HK1.out;omega
                case rel=> exact ⟨(wrap64 (x3_1 + 1)),(by first|rfl|(simp;done)|(simp [*];done)),H',⟨by have:=HK1.out;omega⟩,by repeat (first|exact Drawn0.refl _|apply Drawn0.step)⟩
            · rw [if_neg c6] at H
              exact absurd H (by simp)
          · rw [if_neg c5] at H
            have c5b0:decide (x3_1 < (l0.length:Int))=false:=decide_eq_false c5
            clear c5
            obtain rfl:=Option.some.inj H
            go_wp2
            go_ret
            exact ⟨by first|rfl|(simp;done)|(simp [*];done),by repeat (first|exact Drawn0.refl _|apply Drawn0.step)⟩
    · replace c4:=Bool.eq_false_iff.mpr c4
      subst c4
      have H1:(some 8)=some r:=by rw [if_neg (show ¬ (false=true) by decide)] at H;exact H
      clear H
      have H:=H1
      clear H1
      obtain rfl:=Option.some.inj H
      go_enter Try.func98,Try.ntmps98
      go_wp2_with (first|((with_reducible refine gate_callee (f:=142) rfl ?_);refine goesL_ (some 9) rfl rfl Try.func142 (by kernel_rfl) rfl #[.int .i64 (l0.length:Int),.int .i64 256] rfl (by (try simp only [List.map_toArray,List.map_cons,List.map_nil]);first|done|rfl|(simp only [List.length_drop,List.length_take];rfl)) ?_;(with_reducible refine (spec_l04Power.calls k (l0.length:Int) 256 false _ A3.out).mono ?_);rintro e w' ⟨rfl,⟨nd,rfl⟩⟩;refine ⟨_,rfl,?_⟩))
      go_ret
      exact ⟨by first|rfl|(simp;done)|(simp [*];done),by repeat (first|exact Drawn0.refl _|apply Drawn0.step)⟩
def spec_l04Path.l0:Nat → List (List ByteArray) → Int → List ByteArray → Int → Option (List ByteArray)
  |0,_,_,_,_=> none
  |k + 1,x0,x1,x5,x6=> if (wrap64 (x6 + 1)) < (x0.length:Int) then (if 0 ≤ x6 then (if x6 < (x0.length:Int) then (if 0 ≤ (Go.bits .xor .i64 x1 1) then (if (Go.bits .xor .i64 x1 1) < ((rd_L7 x0 x6).length:Int) then (if x5.length < 8796093022208 then (spec_l04Path.l0 k x0 (wrap64 (Int.tdiv x1 2)) (x5 ++ [rdOf ByteArray.empty (rd_L7 x0 x6) (Go.bits .xor .i64 x1 1)]) (wrap64 (x6 + 1))) else (none)) else (none)) else (none)) else (none)) else (none)) else (some x5)
def spec_l04Path.f (k:Nat) (l0:List (List ByteArray)) (a1:Int):Option (List ByteArray):=spec_l04Path.l0 k l0 a1 (([]:List ByteArray)) 0
theorem spec_l04Path.mono_l:∀ k,(∀ y0 y1 y2 y3,LeO (spec_l04Path.l0 k y0 y1 y2 y3) (spec_l04Path.l0 (k + 1) y0 y1 y2 y3))
  |0=> fun _ _ _ _ r h=> by simp [spec_l04Path.l0] at h
  |k + 1=> by
    have ih0:=spec_l04Path.mono_l k
    · intro y0 y1 y2 y3
      unfold spec_l04Path.l0
      repeat' first
      |(with_reducible exact ih0 _ _ _ _)
      |(with_reducible exact LeO.refl _)
      |(with_reducible exact LeO.none _)
      |(with_reducible refine LeO.ite ?_ ?_)
      |(with_reducible refine LeO.bind ?_ (fun _=> ?_))
      |exact ih0 _ _ _ _
      |exact LeO.none _
      |refine LeO.ite ?_ ?_
      |refine LeO.bind ?_ (fun _=> ?_)
theorem spec_l04Path.mono:∀ a0 a1 k,LeO (spec_l04Path.f k a0 a1) (spec_l04Path.f (k + 1) a0 a1):=by
  intro a0 a1 k
  have ih0:=spec_l04Path.mono_l k
  unfold spec_l04Path.f
  repeat' first
      |(with_reducible exact ih0 _ _ _ _)
      |(with_reducible exact LeO.refl _)
      |(with_reducible exact LeO.none _)
      |(with_reducible refine LeO.ite ?_ ?_)
      |(with_reducible refine LeO.bind ?_ (fun _=> ?_))
      |exact ih0 _ _ _ _
      |exact LeO.none _
      |refine LeO.ite ?_ ?_
      |refine LeO.bind ?_ (fun _=> ?_)
set_option maxHeartbeats 8000000 in
set_option maxRecDepth 100000 in
theorem spec_l04Path.calls (k:Nat) (A0:Option Addr) (c0:Nat) (l0:List (List ByteArray)) (a1:Int) (r:List ByteArray) (w:World) (hr0:Kd.C (Kd.slice 9 Kd.string) w A0 l0.length l0) (hc0:l0.length ≤ c0) (h:spec_l04Path.f k l0 a1=some r):
    Calls Try.prog 104 #[.slice A0 l0.length c0,.int .i64 a1] w fun e w'=> ∃ v0_:Value,e= .returned (v0_) ∧ Kd.R Kd.string 9 w' w.heap.size (fun _=> True) v0_ r ∧ Below w.heap.size w w':=by
  have HR0:=Aside0.mk hr0
  have HC0:=Aside0.mk hc0
  clear hr0 hc0
  have HB:=Aside0.mk (Below.refl w.heap.size w)
  have H:(spec_l04Path.l0 k l0 a1 (([]:List ByteArray)) 0)=some r:=h
  clear h
  obtain ⟨y1230,hy1230⟩:∃ y_:List ByteArray,y_=(([]:List ByteArray)):=⟨_,rfl⟩
  replace H:(spec_l04Path.l0 k l0 a1 y1230 0)=some r:=by first|(rw [hy1230];with_reducible exact H)|(have H2_:=(Option.bind_some _ _).symm.trans H;rw [hy1230];with_reducible exact H2_)|(have H2_:=(Option.bind_some _ _).symm.trans H;with_reducible exact H2_)|with_reducible exact H|(rw [hy1230];exact H)|exact H
  have Ny1230:=Aside0.mk hy1230
  clear hy1230
  have H':=Aside0.mk H
  clear H
  go_enter Try.func104,Try.ntmps104
  go_wp2_with (first|((with_reducible refine gate_dst (N:=7) rfl ?_);refine Kd.R_lit Kd.string _ 9 ?hg (N:=7) ?hd (xs:=([]:List ByteArray)) (inner:= []) (ok:=fun _=> True) (okp:=fun _=> True) ?hr ?hp (fun _ hk=> hk) trivial (Below.refl _ _) (Nat.le_refl _) (by simp) ?_;(case hd=> rfl);(case hg=> rfl);(case hr=> first|(go_simp;done)|(go_simp;rfl));(case hp=> exact (Reps.none _ _));intro v1231 w3 ho4 hb hg_ hnew_;clear hg_ hnew_;(first|rw [← Ny1230.out] at ho4|(simp only [Int.reduceToNat] at ho4;rw [← Ny1230.out] at ho4));have n0_:=Aside0.mk (Kd.R_lower ho4 (below_size (by repeat (first|(with_reducible first|exact HB.out|apply bwA|apply bwN|apply bwD)|exact HB.out))));have n1_:=Aside0.mk (below_step (by repeat (first|(with_reducible first|exact HB.out|apply bwA|apply bwN|apply bwD)|exact HB.out)) hb);clear HB;have HO1232:=n0_;have HB:=n1_;clear n0_ n1_;clear hb ho4))
  go_loopg [1,5,6] k (fun kq v1 v5 v6 w'=> ∃ (x1_1:Int) (x5_1:List ByteArray) (x6_1:Int),v1= .int .i64 x1_1 ∧ v6= .int .i64 x6_1 ∧ Aside0 (spec_l04Path.l0 kq l0 x1_1 x5_1 x6_1=some r) ∧ Aside0 (kq ≤ k) ∧ Aside0 (Kd.R Kd.string 9 w' w.heap.size (fun _=> True) v5 x5_1) ∧ Aside0 (Below w.heap.size w w'))
  case atStart=> exact ⟨(a1),(y1230),(0),(by first|rfl|(simp;done)|(simp [*];done)),(by first|rfl|(simp;done)|(simp [*];done)),H',⟨Nat.le_refl _⟩,⟨by (with_reducible repeat (first|apply Kd.R_alloc|apply Kd.R_drewN|apply Kd.R_drew));exact HO1232.out⟩,⟨by repeat (first|(with_reducible first|exact HB.out|apply bwA|apply bwN|apply bwD)|exact HB.out)⟩⟩
  case round=>
    clear H'
    try clear c1
    try clear p2
    obtain ⟨x1_1,x5_1,x6_1,rfl,rfl,HA,HK1,HO_5,HB⟩:=hrel
    cases gk with
    |zero=> exact absurd HA.out (by simp [spec_l04Path.l0])
    |succ k1=>
      have H:=HA.out
      clear HA
      simp only [spec_l04Path.l0] at H
      by_cases c5:(wrap64 (x6_1 + 1)) < (l0.length:Int)
      · rw [if_pos c5] at H
        have c5b0:decide ((wrap64 (x6_1 + 1)) < (l0.length:Int))=true:=decide_eq_true c5
        clear c5
        by_cases c6:0 ≤ x6_1
        · rw [if_pos c6] at H
          have c6b0:decide (0 ≤ x6_1)=true:=decide_eq_true c6
          clear c6
          by_cases c7:x6_1 < (l0.length:Int)
          · rw [if_pos c7] at H
            have c7b0:decide (x6_1 < (l0.length:Int))=true:=decide_eq_true c7
            clear c7
            by_cases c8:0 ≤ (Go.bits .xor .i64 x1_1 1)
            · rw [if_pos c8] at H
              have c8b0:decide (0 ≤ (Go.bits .xor .i64 x1_1 1))=true:=decide_eq_true c8
              clear c8
              by_cases c9:(Go.bits .xor .i64 x1_1 1) < ((rd_L7 l0 x6_1).length:Int)
              · rw [if_pos c9] at H
                have c9b0:decide ((Go.bits .xor .i64 x1_1 1) < ((rd_L7 l0 x6_1).length:Int))=true:=decide_eq_true c9
                clear c9
                by_cases c10:x5_1.length < 8796093022208
                · rw [if_pos c10] at H
                  have LMc10:=Aside0.mk c10
                  clear c10
                  obtain ⟨y1235,hy1235⟩:∃ y_:List ByteArray,y_=(x5_1 ++ [rdOf ByteArray.empty (rd_L7 l0 x6_1) (Go.bits .xor .i64 x1_1 1)]):=⟨_,rfl⟩
                  replace H:(spec_l04Path.l0 k1 l0 (wrap64 (Int.tdiv x1_1 2)) y1235 (wrap64 (x6_1 + 1)))=some r:=by first|(rw [hy1235];with_reducible exact H)|(have H2_:=(Option.bind_some _ _).symm.trans H;rw [hy1235];with_reducible exact H2_)|(have H2_:=(Option.bind_some _ _).symm.trans H;with_reducible exact H2_)|with_reducible exact H|(rw [hy1235];exact H)|exact H
                  have Ny1235:=Aside0.mk hy1235
                  clear hy1235
                  have H':=Aside0.mk H
                  clear H
                  have p1233:0 ≤ (x6_1:Int):=of_decide_eq_true (by first|(with_reducible assumption)|assumption)
                  have q1233:x6_1 < (l0.length:Int):=of_decide_eq_true (by first|(with_reducible assumption)|assumption)
                  obtain ⟨ad1233,A1233_0,c1233_0,e1233,hx1233_0,hl1233_0,hi1233_0⟩:=at_L7 HR0.out x6_1 p1233 q1233
                  cases e1233
                  replace hx1233_0:=(HB.out.cell (World.block_lt_of_cell? w _ hx1233_0)).trans hx1233_0
                  have HR1233_0:=Aside0.mk hi1233_0
                  have HC1233_0:=Aside0.mk hl1233_0
                  clear hi1233_0 hl1233_0
                  replace p1233:=eq_true p1233
                  replace q1233:=eq_true q1233
                  have p1234:0 ≤ ((Go.bits .xor .i64 x1_1 1):Int):=of_decide_eq_true (by first|(with_reducible assumption)|assumption)
                  have q1234:(Go.bits .xor .i64 x1_1 1) < ((rd_L7 l0 x6_1).length:Int):=of_decide_eq_true (by first|(with_reducible assumption)|assumption)
                  obtain ⟨ad1234,e1234,hx1234_0⟩:=Kd.at_string HR1233_0.out (Go.bits .xor .i64 x1_1 1) p1234 q1234
                  cases e1234
                  replace hx1234_0:=(HB.out.cell (World.block_lt_of_cell? w _ hx1234_0)).trans hx1234_0
                  replace p1234:=eq_true p1234
                  replace q1234:=eq_true q1234
                  go_wp2_with (first|((with_reducible refine gate_builtin (b:= .append) (xs:= #[.tmp 15,.tmp 24]) rfl ?_);at_builtin;refine Kd.R_append Kd.string (w0:=w) w.heap.size rfl (.tmp 15) (.tmp 24) 41 9 (.string ⟨#[]⟩) 16 rfl Try.underlying41 info9 rfl (by decide) (by omega) u5 x5_1 (rdOf ByteArray.empty (rd_L7 l0 x6_1) (Go.bits .xor .i64 x1_1 1)) [.string (rdOf ByteArray.empty (rd_L7 l0 x6_1) (Go.bits .xor .i64 x1_1 1))] (fun _=> True) (fun _=> False) rfl rfl ?aP (fun _ hk=> hk.elim) ?aF ?aO ?aB ?aS ?aL ?_;(case aP=> exact rfl);(case aB=> exact (by repeat (first|(with_reducible first|exact HB.out|apply bwA|apply bwN|apply bwD)|exact HB.out)));(case aF=> exact (fun _ _=> trivial));(case aO=> exact (by (with_reducible repeat (first|apply Kd.R_alloc|apply Kd.R_drewN|apply Kd.R_drew));exact HO_5.out));(case aS=> exact (below_size (by repeat (first|(with_reducible first|exact HB.out|apply bwA|apply bwN|apply bwD)|exact HB.out))));(case aL=> have:=LMc10.out;omega);intro v1236 w11 ho hb hg hat;rw [← Ny1235.out] at ho;have n0_:=Aside0.mk (hb);have n1_:=Aside0.mk (ho);clear HB;clear HO_5;have HB:=n0_;have HO1237:=n1_;clear n0_ n1_;clear ho hb hg hat))
                  go_roundg k1
                  case measure=> have:=HK1.out;omega
                  case rel=> exact ⟨(wrap64 (Int.tdiv x1_1 2)),(y1235),(wrap64 (x6_1 + 1)),(by first|rfl|(simp;done)|(simp [*];done)),(by first|rfl|(simp;done)|(simp [*];done)),H',⟨by have:=HK1.out;omega⟩,⟨by (with_reducible repeat (first|apply Kd.R_alloc|apply Kd.R_drewN|apply Kd.R_drew));exact HO1237.out⟩,⟨by repeat (first|(with_reducible first|exact HB.out|apply bwA|apply bwN|apply bwD)|exact HB.out)⟩⟩
                · rw [if_neg c10] at H
                  exact absurd H (by simp)
              · rw [if_neg c9] at H
                exact absurd H (by simp)
            · rw [if_neg c8] at H
              exact absurd H (by simp)
          · rw [if_neg c7] at H
            exact absurd H (by simp)
        · rw [if_neg c6] at H
          exact absurd H (by simp)
      · rw [if_neg c5] at H
        have c5b0:decide ((wrap64 (x6_1 + 1)) < (l0.length:Int))=false:=decide_eq_false c5
        clear c5
        obtain rfl:=Option.some.inj H
        go_wp2
        go_ret
        exact ⟨_,by first|rfl|(simp [errW_none,errW_some] <;> rfl)|(simp [*,errW_none,errW_some] <;> rfl),by (with_reducible repeat (first|apply Kd.R_alloc|apply Kd.R_drewN|apply Kd.R_drew));exact HO_5.out,by repeat (first|(with_reducible first|exact HB.out|apply bwA|apply bwN|apply bwD)|exact HB.out)⟩
def spec_MerklePath.f (k:Nat) (l0:List ByteArray) (a1:Int):Option (List ByteArray × Int):=if (l0.length:Int) > 4096 then (some ((([]:List ByteArray)),2)) else ((spec_l04Leaves.f k l0).bind fun t1241=> (if t1241=0 then ((spec_l01In.f a1 0 (wrap64 ((l0.length:Int) - 1))).bind fun t1245=> (if t1245=true then ((spec_l04Levels.f l0).bind fun t1246=> ((spec_l04Path.f k t1246 a1).bind fun t1249=> (some (t1249,0)))) else (some ((([]:List ByteArray)),4)))) else (some ((([]:List ByteArray)),t1241))))
theorem spec_MerklePath.mono:∀ a0 a1 k,LeO (spec_MerklePath.f k a0 a1) (spec_MerklePath.f (k + 1) a0 a1):=by
  intro a0 a1 k
  unfold spec_MerklePath.f
  repeat' first
      |(with_reducible exact spec_l04Leaves.mono _ _)
      |(with_reducible exact spec_l04Path.mono _ _ _)
      |(with_reducible exact LeO.refl _)
      |(with_reducible exact LeO.none _)
      |(with_reducible refine LeO.ite ?_ ?_)
      |(with_reducible refine LeO.bind ?_ (fun _=> ?_))
      |exact spec_l04Leaves.mono _ _
      |exact spec_l04Path.mono _ _ _
      |exact LeO.none _
      |refine LeO.ite ?_ ?_
      |refine LeO.bind ?_ (fun _=> ?_)
set_option maxHeartbeats 8000000 in
set_option maxRecDepth 100000 in
theorem spec_MerklePath.calls (k:Nat) (A0:Option Addr) (c0:Nat) (l0:List ByteArray) (a1:Int) (r1:List ByteArray) (r2:Int) (w:World) (hr0:Kd.C Kd.string w A0 l0.length l0) (hc0:l0.length ≤ c0) (h:spec_MerklePath.f k l0 a1=some (r1,r2)):
    Calls Try.prog 44 #[.slice A0 l0.length c0,.int .i64 a1] w fun e w'=> ∃ v0_:Value,e= .returned (.tuple #[v0_,.int .i64 r2]) ∧ Kd.R Kd.string 9 w' w.heap.size (fun _=> True) v0_ r1 ∧ Below w.heap.size w w':=by
  have HR0:=Aside0.mk hr0
  have HC0:=Aside0.mk hc0
  clear hr0 hc0
  have HB:=Aside0.mk (Below.refl w.heap.size w)
  have H:(if (l0.length:Int) > 4096 then (some ((([]:List ByteArray)),2)) else ((spec_l04Leaves.f k l0).bind fun t1241=> (if t1241=0 then ((spec_l01In.f a1 0 (wrap64 ((l0.length:Int) - 1))).bind fun t1245=> (if t1245=true then ((spec_l04Levels.f l0).bind fun t1246=> ((spec_l04Path.f k t1246 a1).bind fun t1249=> (some (t1249,0)))) else (some ((([]:List ByteArray)),4)))) else (some ((([]:List ByteArray)),t1241)))))=some (r1,r2):=h
  clear h
  by_cases c3:(l0.length:Int) > 4096
  · rw [if_pos c3] at H
    have c3b0:decide (4096 < (l0.length:Int))=true:=decide_eq_true c3
    have c3b1:decide (4096 < l0.length)=true:=decide_eq_true (by omega)
    clear c3
    obtain ⟨y1238,hy1238⟩:∃ y_:List ByteArray,y_=(([]:List ByteArray)):=⟨_,rfl⟩
    replace H:(some (y1238,2))=some (r1,r2):=by first|(rw [hy1238];with_reducible exact H)|(have H2_:=(Option.bind_some _ _).symm.trans H;rw [hy1238];with_reducible exact H2_)|(have H2_:=(Option.bind_some _ _).symm.trans H;with_reducible exact H2_)|with_reducible exact H|(rw [hy1238];exact H)|exact H
    have Ny1238:=Aside0.mk hy1238
    clear hy1238
    simp only [Option.some.injEq,Prod.mk.injEq] at H
    obtain ⟨rfl,rfl⟩:=H
    go_enter Try.func44,Try.ntmps44
    go_wp2_with (first|((with_reducible refine gate_dst (N:=10) rfl ?_);refine Kd.R_lit Kd.string _ 9 ?hg (N:=10) ?hd (xs:=([]:List ByteArray)) (inner:= []) (ok:=fun _=> True) (okp:=fun _=> True) ?hr ?hp (fun _ hk=> hk) trivial (Below.refl _ _) (Nat.le_refl _) (by simp) ?_;(case hd=> rfl);(case hg=> rfl);(case hr=> first|(go_simp;done)|(go_simp;rfl));(case hp=> exact (Reps.none _ _));intro v1239 w4 ho5 hb hg_ hnew_;clear hg_ hnew_;(first|rw [← Ny1238.out] at ho5|(simp only [Int.reduceToNat] at ho5;rw [← Ny1238.out] at ho5));have n0_:=Aside0.mk (Kd.R_lower ho5 (below_size (by repeat (first|(with_reducible first|exact HB.out|apply bwA|apply bwN|apply bwD)|exact HB.out))));have n1_:=Aside0.mk (below_step (by repeat (first|(with_reducible first|exact HB.out|apply bwA|apply bwN|apply bwD)|exact HB.out)) hb);clear HB;have HO1240:=n0_;have HB:=n1_;clear n0_ n1_;clear hb ho5))
    go_ret2
    exact ⟨_,by first|rfl|(simp [errW_none,errW_some] <;> rfl)|(simp [*,errW_none,errW_some] <;> rfl),by (with_reducible repeat (first|apply Kd.R_alloc|apply Kd.R_drewN|apply Kd.R_drew));exact HO1240.out,by repeat (first|(with_reducible first|exact HB.out|apply bwA|apply bwN|apply bwD)|exact HB.out)⟩
  · rw [if_neg c3] at H
    have c3b0:decide (4096 < (l0.length:Int))=false:=decide_eq_false c3
    have c3b1:decide (4096 < l0.length)=false:=decide_eq_false (by omega)
    clear c3
    replace H:=Option.bind_eq_some_iff.mp H
    obtain ⟨t1241,A60,H⟩:=H
    replace H:(if t1241=0 then ((spec_l01In.f a1 0 (wrap64 ((l0.length:Int) - 1))).bind fun t1245=> (if t1245=true then ((spec_l04Levels.f l0).bind fun t1246=> ((spec_l04Path.f k t1246 a1).bind fun t1249=> (some (t1249,0)))) else (some ((([]:List ByteArray)),4)))) else (some ((([]:List ByteArray)),t1241)))=some (r1,r2):=H
    have A6:=Aside0.mk A60
    clear A60
    by_cases c7:t1241=0
    · rw [if_pos c7] at H
      have c7b0:(t1241==0)=true:=beq_iff_eq.mpr c7
      have c7b1:(t1241 !=0)=false:=bne_eq_false_iff_eq.mpr c7
      clear c7
      replace H:=Option.bind_eq_some_iff.mp H
      obtain ⟨t1245,A80,H⟩:=H
      replace H:(if t1245=true then ((spec_l04Levels.f l0).bind fun t1246=> ((spec_l04Path.f k t1246 a1).bind fun t1249=> (some (t1249,0)))) else (some ((([]:List ByteArray)),4)))=some (r1,r2):=H
      have A8:=Aside0.mk A80
      clear A80
      by_cases c9:t1245=true
      · subst c9
        have H1:((spec_l04Levels.f l0).bind fun t1246=> ((spec_l04Path.f k t1246 a1).bind fun t1249=> (some (t1249,0))))=some (r1,r2):=by rw [if_pos rfl] at H;exact H
        clear H
        have H:=H1
        clear H1
        replace H:=Option.bind_eq_some_iff.mp H
        obtain ⟨t1246,A100,H⟩:=H
        replace H:((spec_l04Path.f k t1246 a1).bind fun t1249=> (some (t1249,0)))=some (r1,r2):=H
        have A10:=Aside0.mk A100
        clear A100
        replace H:=Option.bind_eq_some_iff.mp H
        obtain ⟨t1249,A110,H⟩:=H
        replace H:(some (t1249,0))=some (r1,r2):=H
        have A11:=Aside0.mk A110
        clear A110
        simp only [Option.some.injEq,Prod.mk.injEq] at H
        obtain ⟨rfl,rfl⟩:=H
        go_enter Try.func44,Try.ntmps44
        go_wp2_with (first|((with_reducible refine gate_callee (f:=98) rfl ?_);refine goesL_ (some 12) rfl rfl Try.func98 (by kernel_rfl) rfl #[.slice A0 l0.length c0] rfl (by (try simp only [List.map_toArray,List.map_cons,List.map_nil]);first|done|rfl|(simp only [List.length_drop,List.length_take];rfl)) ?_;(with_reducible refine (spec_l04Leaves.calls k _ _ l0 t1241 _ ?side1 ?side2 A6.out).mono ?_);(case side1=> repeat (first|exact HR0.out|(with_reducible refine Kd.C_alloc ?_ _)|(with_reducible refine Kd.C_drewN ?_ _)|(with_reducible refine Kd.C_drew ?_)));(case side2=> exact HC0.out);rintro e w' ⟨rfl,⟨nd,rfl⟩⟩;refine ⟨_,rfl,?_⟩)|((with_reducible refine gate_callee (f:=103) rfl ?_);refine goesL_ (some 21) rfl rfl Try.func103 (by kernel_rfl) rfl #[.int .i64 a1,.int .i64 0,.int .i64 (wrap64 ((l0.length:Int) - 1))] rfl (by (try simp only [List.map_toArray,List.map_cons,List.map_nil]);first|done|rfl|(simp only [List.length_drop,List.length_take];rfl)) ?_;(with_reducible refine (spec_l01In.calls a1 0 (wrap64 ((l0.length:Int) - 1)) true _ A8.out).mono ?_);rintro e w' ⟨rfl,⟨nd,rfl⟩⟩;refine ⟨_,rfl,?_⟩)|((with_reducible refine gate_callee (f:=105) rfl ?_);refine goesL_ (some 25) rfl rfl Try.func105 (by kernel_rfl) rfl #[.slice A0 l0.length c0] rfl (by (try simp only [List.map_toArray,List.map_cons,List.map_nil]);first|done|rfl|(simp only [List.length_drop,List.length_take];rfl)) ?_;(with_reducible refine (spec_l04Levels.calls _ _ l0 t1246 _ ?side1 ?side2 A10.out).mono ?_);(case side1=> repeat (first|exact HR0.out|(with_reducible refine Kd.C_alloc ?_ _)|(with_reducible refine Kd.C_drewN ?_ _)|(with_reducible refine Kd.C_drew ?_)));(case side2=> exact HC0.out);rintro e w12 ⟨v1247,rfl,ho0,hb⟩;refine ⟨_,rfl,?_⟩;have n0_:=Aside0.mk (Kd.S_lower ho0 (below_size (by repeat (first|(with_reducible first|exact HB.out|apply bwA|apply bwN|apply bwD)|exact HB.out))));have n1_:=Aside0.mk (below_step (by repeat (first|(with_reducible first|exact HB.out|apply bwA|apply bwN|apply bwD)|exact HB.out)) hb);clear HB;have HO1248:=n0_;have HB:=n1_;clear n0_ n1_;(try clear hb);(try clear hb2);(try clear hk);(try clear hi);(try clear ho0);obtain ⟨Ao13,co13,eo13⟩:=Kd.S_slice HO1248.out;subst eo13)|((with_reducible refine gate_callee (f:=104) rfl ?_);refine goesL_ (some 27) rfl rfl Try.func104 (by kernel_rfl) rfl #[.slice Ao13 t1246.length co13,.int .i64 a1] rfl (by (try simp only [List.map_toArray,List.map_cons,List.map_nil]);first|done|rfl|(simp only [List.length_drop,List.length_take];rfl)) ?_;(with_reducible refine (spec_l04Path.calls k _ _ t1246 a1 t1249 _ ?side1 ?side2 A11.out).mono ?_);(case side1=> repeat (first|exact (Kd.S_reads' HO1248.out).2.2|(with_reducible refine Kd.C_alloc ?_ _)|(with_reducible refine Kd.C_drewN ?_ _)|(with_reducible refine Kd.C_drew ?_)));(case side2=> exact (Kd.S_reads' HO1248.out).2.1);rintro e w14 ⟨v1250,rfl,ho0,hb⟩;refine ⟨_,rfl,?_⟩;have n0_:=Aside0.mk (Kd.S_elder' (by (with_reducible repeat (first|apply Kd.S_alloc|apply Kd.S_drewN|apply Kd.S_drew));exact HO1248.out) (Kd.R_base ho0) hb);have n1_:=Aside0.mk (Kd.R_lower ho0 (below_size (by repeat (first|(with_reducible first|exact HB.out|apply bwA|apply bwN|apply bwD)|exact HB.out))));have n2_:=Aside0.mk (below_step (by repeat (first|(with_reducible first|exact HB.out|apply bwA|apply bwN|apply bwD)|exact HB.out)) hb);clear HO1248;clear HB;have HO1248:=n0_;have HO1251:=n1_;have HB:=n2_;clear n0_ n1_ n2_;(try clear hb);(try clear hb2);(try clear hk);(try clear hi);(try clear ho0)))
        go_ret2
        exact ⟨_,by first|rfl|(simp [errW_none,errW_some] <;> rfl)|(simp [*,errW_none,errW_some] <;> rfl),by (with_reducible repeat (first|apply Kd.R_alloc|apply Kd.R_drewN|apply Kd.R_drew));exact HO1251.out,by repeat (first|(with_reducible first|exact HB.out|apply bwA|apply bwN|apply bwD)|exact HB.out)⟩
      · replace c9:=Bool.eq_false_iff.mpr c9
        subst c9
        have H1:(some ((([]:List ByteArray)),4))=some (r1,r2):=by rw [if_neg (show ¬ (false=true) by decide)] at H;exact H
        clear H
        have H:=H1
        clear H1
        obtain ⟨y1252,hy1252⟩:∃ y_:List ByteArray,y_=(([]:List ByteArray)):=⟨_,rfl⟩
        replace H:(some (y1252,4))=some (r1,r2):=by first|(rw [hy1252];with_reducible exact H)|(have H2_:=(Option.bind_some _ _).symm.trans H;rw [hy1252];with_reducible exact H2_)|(have H2_:=(Option.bind_some _ _).symm.trans H;with_reducible exact H2_)|with_reducible exact H|(rw [hy1252];exact H)|exact H
        have Ny1252:=Aside0.mk hy1252
        clear hy1252
        simp only [Option.some.injEq,Prod.mk.injEq] at H
        obtain ⟨rfl,rfl⟩:=H
        go_enter Try.func44,Try.ntmps44
        go_wp2_with (first|((with_reducible refine gate_callee (f:=98) rfl ?_);refine goesL_ (some 12) rfl rfl Try.func98 (by kernel_rfl) rfl #[.slice A0 l0.length c0] rfl (by (try simp only [List.map_toArray,List.map_cons,List.map_nil]);first|done|rfl|(simp only [List.length_drop,List.length_take];rfl)) ?_;(with_reducible refine (spec_l04Leaves.calls k _ _ l0 t1241 _ ?side1 ?side2 A6.out).mono ?_);(case side1=> repeat (first|exact HR0.out|(with_reducible refine Kd.C_alloc ?_ _)|(with_reducible refine Kd.C_drewN ?_ _)|(with_reducible refine Kd.C_drew ?_)));(case side2=> exact HC0.out);rintro e w' ⟨rfl,⟨nd,rfl⟩⟩;refine ⟨_,rfl,?_⟩)|((with_reducible refine gate_callee (f:=103) rfl ?_);refine goesL_ (some 21) rfl rfl Try.func103 (by kernel_rfl) rfl #[.int .i64 a1,.int .i64 0,.int .i64 (wrap64 ((l0.length:Int) - 1))] rfl (by (try simp only [List.map_toArray,List.map_cons,List.map_nil]);first|done|rfl|(simp only [List.length_drop,List.length_take];rfl)) ?_;(with_reducible refine (spec_l01In.calls a1 0 (wrap64 ((l0.length:Int) - 1)) false _ A8.out).mono ?_);rintro e w' ⟨rfl,⟨nd,rfl⟩⟩;refine ⟨_,rfl,?_⟩)|((with_reducible refine gate_dst (N:=23) rfl ?_);refine Kd.R_lit Kd.string _ 9 ?hg (N:=23) ?hd (xs:=([]:List ByteArray)) (inner:= []) (ok:=fun _=> True) (okp:=fun _=> True) ?hr ?hp (fun _ hk=> hk) trivial (Below.refl _ _) (Nat.le_refl _) (by simp) ?_;(case hd=> rfl);(case hg=> rfl);(case hr=> first|(go_simp;done)|(go_simp;rfl));(case hp=> exact (Reps.none _ _));intro v1253 w15 ho16 hb hg_ hnew_;clear hg_ hnew_;(first|rw [← Ny1252.out] at ho16|(simp only [Int.reduceToNat] at ho16;rw [← Ny1252.out] at ho16));have n0_:=Aside0.mk (Kd.R_lower ho16 (below_size (by repeat (first|(with_reducible first|exact HB.out|apply bwA|apply bwN|apply bwD)|exact HB.out))));have n1_:=Aside0.mk (below_step (by repeat (first|(with_reducible first|exact HB.out|apply bwA|apply bwN|apply bwD)|exact HB.out)) hb);clear HB;have HO1254:=n0_;have HB:=n1_;clear n0_ n1_;clear hb ho16))
        go_ret2
        exact ⟨_,by first|rfl|(simp [errW_none,errW_some] <;> rfl)|(simp [*,errW_none,errW_some] <;> rfl),by (with_reducible repeat (first|apply Kd.R_alloc|apply Kd.R_drewN|apply Kd.R_drew));exact HO1254.out,by repeat (first|(with_reducible first|exact HB.out|apply bwA|apply bwN|apply bwD)|exact HB.out)⟩
    · rw [if_neg c7] at H
      have c7b0:(t1241==0)=false:=beq_eq_false_iff_ne.mpr c7
      have c7b1:(t1241 !=0)=true:=bne_iff_ne.mpr c7
      obtain ⟨y1242,hy1242⟩:∃ y_:List ByteArray,y_=(([]:List ByteArray)):=⟨_,rfl⟩
      replace H:(some (y1242,t1241))=some (r1,r2):=by first|(rw [hy1242];with_reducible exact H)|(have H2_:=(Option.bind_some _ _).symm.trans H;rw [hy1242];with_reducible exact H2_)|(have H2_:=(Option.bind_some _ _).symm.trans H;with_reducible exact H2_)|with_reducible exact H|(rw [hy1242];exact H)|exact H
      have Ny1242:=Aside0.mk hy1242
      clear hy1242
      simp only [Option.some.injEq,Prod.mk.injEq] at H
      obtain ⟨rfl,rfl⟩:=H
      go_enter Try.func44,Try.ntmps44
      go_wp2_with (first|((with_reducible refine gate_callee (f:=98) rfl ?_);refine goesL_ (some 12) rfl rfl Try.func98 (by kernel_rfl) rfl #[.slice A0 l0.length c0] rfl (by (try simp only [List.map_toArray,List.map_cons,List.map_nil]);first|done|rfl|(simp only [List.length_drop,List.length_take];rfl)) ?_;(with_reducible refine (spec_l04Leaves.calls k _ _ l0 t1241 _ ?side1 ?side2 A6.out).mono ?_);(case side1=> repeat (first|exact HR0.out|(with_reducible refine Kd.C_alloc ?_ _)|(with_reducible refine Kd.C_drewN ?_ _)|(with_reducible refine Kd.C_drew ?_)));(case side2=> exact HC0.out);rintro e w' ⟨rfl,⟨nd,rfl⟩⟩;refine ⟨_,rfl,?_⟩)|((with_reducible refine gate_dst (N:=15) rfl ?_);refine Kd.R_lit Kd.string _ 9 ?hg (N:=15) ?hd (xs:=([]:List ByteArray)) (inner:= []) (ok:=fun _=> True) (okp:=fun _=> True) ?hr ?hp (fun _ hk=> hk) trivial (Below.refl _ _) (Nat.le_refl _) (by simp) ?_;(case hd=> rfl);(case hg=> rfl);(case hr=> first|(go_simp;done)|(go_simp;rfl));(case hp=> exact (Reps.none _ _));intro v1243 w17 ho18 hb hg_ hnew_;clear hg_ hnew_;(first|rw [← Ny1242.out] at ho18|(simp only [Int.reduceToNat] at ho18;rw [← Ny1242.out] at ho18));have n0_:=Aside0.mk (Kd.R_lower ho18 (below_size (by repeat (first|(with_reducible first|exact HB.out|apply bwA|apply bwN|apply bwD)|exact HB.out))));have n1_:=Aside0.mk (below_step (by repeat (first|(with_reducible first|exact HB.out|apply bwA|apply bwN|apply bwD)|exact HB.out)) hb);clear HB;have HO1244:=n0_;have HB:=n1_;clear n0_ n1_;clear hb ho18))
      go_ret2
      exact ⟨_,by first|rfl|(simp [errW_none,errW_some] <;> rfl)|(simp [*,errW_none,errW_some] <;> rfl),by (with_reducible repeat (first|apply Kd.R_alloc|apply Kd.R_drewN|apply Kd.R_drew));exact HO1244.out,by repeat (first|(with_reducible first|exact HB.out|apply bwA|apply bwN|apply bwD)|exact HB.out)⟩
end Go.Proofs.Ytlogocmojnhpbaa.Print
