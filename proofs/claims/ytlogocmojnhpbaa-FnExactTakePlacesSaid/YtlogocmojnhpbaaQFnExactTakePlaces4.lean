-- Packed by a program of this session (slim.py) out of printed texts; not trusted, Lean checks it.
import Derived.Test.YtlogocmojnhpbaaP0
namespace Go.Proofs.Ytlogocmojnhpbaa.Print
open Go.RowKit Go.Proofs.YtlogocmojnhpbaaW.PrintWords Go.Proofs.YtlogocmojnhpbaaW.PrintLast Go.Proofs.YtlogocmojnhpbaaW.PrintMore
attribute [local go_sem] max2_int min2_int max_two min_two max_three min_three max_four min_four
set_option linter.unusedVariables false
set_option linter.unusedSimpArgs false
def laws_markIntS.l0:Nat → List Int → Int → Int → Option (Int × List Int)
  |0,_,_,_=> none
  |k + 1,x0,x1,x5=> if x5 < (x0.length:Int) then (if 0 ≤ x5 then (laws_markIntS.l0 k (x0.set (x5:Int).toNat x1) (wrap64 (x1 + 1)) (wrap64 (x5 + 1))) else (none)) else (some (x1,x0))
def laws_markIntS.f (k:Nat) (l0:List Int) (a1:Int):Option (Int × List Int):=laws_markIntS.l0 k l0 a1 0
theorem laws_markIntS.mono_l:∀ k,(∀ y0 y1 y2,LeO (laws_markIntS.l0 k y0 y1 y2) (laws_markIntS.l0 (k + 1) y0 y1 y2))
  |0=> fun _ _ _ r h=> by simp [laws_markIntS.l0] at h
  |k + 1=> by
    have ih0:=laws_markIntS.mono_l k
    · intro y0 y1 y2
      unfold laws_markIntS.l0
      repeat' first
      |(with_reducible exact ih0 _ _ _)
      |(with_reducible exact LeO.refl _)
      |(with_reducible exact LeO.none _)
      |(with_reducible refine LeO.ite ?_ ?_)
      |(with_reducible refine LeO.bind ?_ (fun _=> ?_))
      |exact ih0 _ _ _
      |exact LeO.none _
      |refine LeO.ite ?_ ?_
      |refine LeO.bind ?_ (fun _=> ?_)
theorem laws_markIntS.mono:∀ a0 a1 k,LeO (laws_markIntS.f k a0 a1) (laws_markIntS.f (k + 1) a0 a1):=by
  intro a0 a1 k
  have ih0:=laws_markIntS.mono_l k
  unfold laws_markIntS.f
  repeat' first
      |(with_reducible exact ih0 _ _ _)
      |(with_reducible exact LeO.refl _)
      |(with_reducible exact LeO.none _)
      |(with_reducible refine LeO.ite ?_ ?_)
      |(with_reducible refine LeO.bind ?_ (fun _=> ?_))
      |exact ih0 _ _ _
      |exact LeO.none _
      |refine LeO.ite ?_ ?_
      |refine LeO.bind ?_ (fun _=> ?_)
set_option maxHeartbeats 8000000 in
set_option maxRecDepth 100000 in
theorem laws_markIntS.calls (k:Nat) (P0_:Nat → Prop) (u9000_:Value) (l0:List Int) (a1:Int) (r1:Int) (r2:List Int) (w0 w:World) (hB:Below w0.heap.size w0 w) (ho0:Kd.R (Kd.int .i64) 3 w w0.heap.size P0_ u9000_ l0) (h:laws_markIntS.f k l0 a1=some (r1,r2)):
    Calls Try.prog 78 #[u9000_,.int .i64 a1] w fun e w'=> e= .returned (.int .i64 r1) ∧ Kd.R (Kd.int .i64) 3 w' w0.heap.size (fun k_=> (P0_ k_ ∨ w.heap.size ≤ k_)) u9000_ r2 ∧ Below w0.heap.size w0 w' ∧ Kept w w' (fun k_=> P0_ k_):=by
  have HO0:=Aside0.mk (show Kd.R (Kd.int .i64) 3 w w0.heap.size (fun k_=> (P0_ k_ ∨ w.heap.size ≤ k_)) u9000_ l0 from Kd.R_mono ho0 (fun k_ hk=> (.inl hk)))
  have HK:=Aside0.mk (Kept.refl w (fun k_=> P0_ k_))
  have HW0:=Aside0.mk hB.size
  have HB:=Aside0.mk hB
  clear hB
  have H:(laws_markIntS.l0 k l0 a1 0)=some (r1,r2):=h
  clear h
  have H':=Aside0.mk H
  clear H
  go_enter Try.func78,Try.ntmps78
  go_wp2
  go_loopg [1,5] k (fun kq v1 v5 w'=> ∃ (x0_1:List Int) (x1_1:Int) (x5_1:Int),v1= .int .i64 x1_1 ∧ v5= .int .i64 x5_1 ∧ Aside0 (laws_markIntS.l0 kq x0_1 x1_1 x5_1=some (r1,r2)) ∧ Aside0 (kq ≤ k) ∧ Aside0 (Kd.R (Kd.int .i64) 3 w' w0.heap.size (fun k_=> (P0_ k_ ∨ w.heap.size ≤ k_)) u9000_ x0_1) ∧ Aside0 (Kept w w' (fun k_=> P0_ k_)) ∧ Aside0 (Below w0.heap.size w0 w'))
  case atStart=> exact ⟨(l0),(a1),(0),(by first|rfl|(simp;done)|(simp [*];done)),(by first|rfl|(simp;done)|(simp [*];done)),H',⟨Nat.le_refl _⟩,⟨by (with_reducible repeat (first|apply Kd.R_alloc|apply Kd.R_drewN|apply Kd.R_drew));exact HO0.out⟩,⟨by repeat (first|(with_reducible first|exact HK.out|apply Kept.alloc|apply Kept.drewN|apply Kept.drew)|exact HK.out)⟩,⟨by repeat (first|(with_reducible first|exact HB.out|apply bwA|apply bwN|apply bwD)|exact HB.out)⟩⟩
  case round=>
    clear H'
    try clear p2
    obtain ⟨x0_1,x1_1,x5_1,rfl,rfl,HA,HK1,HO_0,HK,HB⟩:=hrel
    cases gk with
    |zero=> exact absurd HA.out (by simp [laws_markIntS.l0])
    |succ k1=>
      have H:=HA.out
      clear HA
      simp only [laws_markIntS.l0] at H
      by_cases c3:x5_1 < (x0_1.length:Int)
      · rw [if_pos c3] at H
        have c3b0:decide (x5_1 < (x0_1.length:Int))=true:=decide_eq_true c3
        clear c3
        by_cases c4:0 ≤ x5_1
        · rw [if_pos c4] at H
          have c4b0:decide (0 ≤ x5_1)=true:=decide_eq_true c4
          clear c4
          obtain ⟨y976,hy976⟩:∃ y_:List Int,y_=(x0_1.set (x5_1:Int).toNat x1_1):=⟨_,rfl⟩
          replace H:(laws_markIntS.l0 k1 y976 (wrap64 (x1_1 + 1)) (wrap64 (x5_1 + 1)))=some (r1,r2):=by first|(rw [hy976];with_reducible exact H)|(have H2_:=(Option.bind_some _ _).symm.trans H;rw [hy976];with_reducible exact H2_)|(have H2_:=(Option.bind_some _ _).symm.trans H;with_reducible exact H2_)|with_reducible exact H|(rw [hy976];exact H)|exact H
          have Ny976:=Aside0.mk hy976
          clear hy976
          have H':=Aside0.mk H
          clear H
          obtain ⟨Ao6,co6,eo6⟩:=Kd.R_slice HO_0.out
          subst eo6
          have p5:0 ≤ (x5_1:Int):=of_decide_eq_true (by first|(with_reducible assumption)|assumption)
          have q5:(x5_1:Int) < ((x0_1.length:Int):Int):=of_decide_eq_true (by first|(with_reducible assumption)|assumption)
          obtain ⟨go5,co5,eo5,gb5,gl5,cl5,HG5⟩:=Kd.R_form HO_0.out (by omega)
          (first|cases eo5|(injection eo5 with ea_ en_ ec_;(first|subst ea_|(injection ea_ with ea_;subst ea_));subst ec_;clear en_))
          have GB5:=Aside0.mk gb5
          have GG5:=Aside0.mk HG5
          clear gb5 gl5 HG5
          have HMgo5:=Aside0.mk (show (P0_ go5 ∨ w.heap.size ≤ go5) from (HO_0.out.1 _ rfl))
          obtain ⟨hx5_0,hf5_0⟩:=Kd.R_celln 0 HO_0.out (x5_1:Int) p5 q5
          replace p5:=eq_true p5
          replace q5:=eq_true q5
          have HP7:=Kd.R_putg HO_0.out (x5_1:Int) x1_1
          go_wp2_with (first|((with_reducible refine gate_store (t:=3) (p:=15) rfl ?_);refine store_event (t:=3) (p:=15) (v:=?vo_w8) (w1:=(wr.setCell ⟨go5,(x5_1:Int).toNat,none⟩ (.int .i64 x1_1))) ?hg ?ho ?hn ?hr ?_;(case ho=> rfl);(case hg=> rfl);(case hn=> rfl);(case hr=> first|(go_simp;done)|(go_simp;rfl));intro w8 hw;have hg:wr.grownBy w8 (some go5):=(by rw [hw];exact HP7.2);have hp_:Kd.R (Kd.int .i64) 3 w8 w0.heap.size (fun k_=> (P0_ k_ ∨ w.heap.size ≤ k_)) (.slice (some ⟨go5,0,none⟩) x0_1.length co6) y976:=(by rw [hw,Ny976.out];exact HP7.1);clear HP7;have n0_:=Aside0.mk (hp_);have n1_:=Aside0.mk ((by rw [hw];exact bwS (HB.out) GB5.out:Below w0.heap.size w0 w8));have n2_:=Aside0.mk (Kept.of_grown (S:=(fun k_=> P0_ k_)) hg (by repeat (first|(with_reducible first|exact HK.out|apply Kept.alloc|apply Kept.drewN|apply Kept.drew)|exact HK.out)) (fun k_ e_=> (HO_0.out.1 k_ e_)));clear HO_0;clear HB;clear HK;have HO_0:=n0_;have HB:=n1_;have HK:=n2_;clear n0_ n1_ n2_;clear hg hw hp_))
          go_roundg k1
          case measure=> have:=HK1.out;omega
          case rel=> exact ⟨(y976),(wrap64 (x1_1 + 1)),(wrap64 (x5_1 + 1)),(by first|rfl|(simp;done)|(simp [*];done)),(by first|rfl|(simp;done)|(simp [*];done)),H',⟨by have:=HK1.out;omega⟩,⟨by (with_reducible repeat (first|apply Kd.R_alloc|apply Kd.R_drewN|apply Kd.R_drew));exact HO_0.out⟩,⟨by repeat (first|(with_reducible first|exact HK.out|apply Kept.alloc|apply Kept.drewN|apply Kept.drew)|exact HK.out)⟩,⟨by repeat (first|(with_reducible first|exact HB.out|apply bwA|apply bwN|apply bwD)|exact HB.out)⟩⟩
        · rw [if_neg c4] at H
          exact absurd H (by simp)
      · rw [if_neg c3] at H
        have c3b0:decide (x5_1 < (x0_1.length:Int))=false:=decide_eq_false c3
        clear c3
        simp only [Option.some.injEq,Prod.mk.injEq] at H
        obtain ⟨rfl,rfl⟩:=H
        obtain ⟨Ao9,co9,eo9⟩:=Kd.R_slice HO_0.out
        subst eo9
        go_wp2
        go_ret
        exact ⟨by first|rfl|(simp [errW_none,errW_some] <;> rfl)|(simp [*,errW_none,errW_some] <;> rfl),by (with_reducible repeat (first|apply Kd.R_alloc|apply Kd.R_drewN|apply Kd.R_drew));exact HO_0.out,by repeat (first|(with_reducible first|exact HB.out|apply bwA|apply bwN|apply bwD)|exact HB.out),by repeat (first|(with_reducible first|exact HK.out|apply Kept.alloc|apply Kept.drewN|apply Kept.drew)|exact HK.out)⟩
def laws_markExtS.l0:Nat → List (S79) → Int → Int → Option (Int × (List (S79)))
  |0,_,_,_=> none
  |k + 1,x0,x1,x5=> if x5 < (x0.length:Int) then (if 0 ≤ x5 then ((some (x0.set (x5:Int).toNat (⟨x1,(rd_T79 x0 x5).f1⟩:S79):List (S79))).bind fun y170=> (laws_markExtS.l0 k (y170.set (x5:Int).toNat (⟨(rd_T79 y170 x5).f0,wrap64 (x1 + 1)⟩:S79)) (wrap64 ((wrap64 (x1 + 1)) + 1)) (wrap64 (x5 + 1)))) else (none)) else (some (x1,x0))
def laws_markExtS.f (k:Nat) (l0:List (S79)) (a1:Int):Option (Int × (List (S79))):=laws_markExtS.l0 k l0 a1 0
theorem laws_markExtS.mono_l:∀ k,(∀ y0 y1 y2,LeO (laws_markExtS.l0 k y0 y1 y2) (laws_markExtS.l0 (k + 1) y0 y1 y2))
  |0=> fun _ _ _ r h=> by simp [laws_markExtS.l0] at h
  |k + 1=> by
    have ih0:=laws_markExtS.mono_l k
    · intro y0 y1 y2
      unfold laws_markExtS.l0
      repeat' first
      |(with_reducible exact ih0 _ _ _)
      |(with_reducible exact LeO.refl _)
      |(with_reducible exact LeO.none _)
      |(with_reducible refine LeO.ite ?_ ?_)
      |(with_reducible refine LeO.bind ?_ (fun _=> ?_))
      |exact ih0 _ _ _
      |exact LeO.none _
      |refine LeO.ite ?_ ?_
      |refine LeO.bind ?_ (fun _=> ?_)
theorem laws_markExtS.mono:∀ a0 a1 k,LeO (laws_markExtS.f k a0 a1) (laws_markExtS.f (k + 1) a0 a1):=by
  intro a0 a1 k
  have ih0:=laws_markExtS.mono_l k
  unfold laws_markExtS.f
  repeat' first
      |(with_reducible exact ih0 _ _ _)
      |(with_reducible exact LeO.refl _)
      |(with_reducible exact LeO.none _)
      |(with_reducible refine LeO.ite ?_ ?_)
      |(with_reducible refine LeO.bind ?_ (fun _=> ?_))
      |exact ih0 _ _ _
      |exact LeO.none _
      |refine LeO.ite ?_ ?_
      |refine LeO.bind ?_ (fun _=> ?_)
set_option maxHeartbeats 8000000 in
set_option maxRecDepth 100000 in
theorem laws_markExtS.calls (k:Nat) (P0_:Nat → Prop) (u9000_:Value) (l0:List (S79)) (a1:Int) (r1:Int) (r2:List (S79)) (w0 w:World) (hB:Below w0.heap.size w0 w) (ho0:Kd.R k79 79 w w0.heap.size P0_ u9000_ l0) (h:laws_markExtS.f k l0 a1=some (r1,r2)):
    Calls Try.prog 64 #[u9000_,.int .i64 a1] w fun e w'=> e= .returned (.int .i64 r1) ∧ Kd.R k79 79 w' w0.heap.size (fun k_=> (P0_ k_ ∨ w.heap.size ≤ k_)) u9000_ r2 ∧ Below w0.heap.size w0 w' ∧ Kept w w' (fun k_=> P0_ k_):=by
  have HO0:=Aside0.mk (show Kd.R k79 79 w w0.heap.size (fun k_=> (P0_ k_ ∨ w.heap.size ≤ k_)) u9000_ l0 from Kd.R_mono ho0 (fun k_ hk=> (.inl hk)))
  have HK:=Aside0.mk (Kept.refl w (fun k_=> P0_ k_))
  have HW0:=Aside0.mk hB.size
  have HB:=Aside0.mk hB
  clear hB
  have H:(laws_markExtS.l0 k l0 a1 0)=some (r1,r2):=h
  clear h
  have H':=Aside0.mk H
  clear H
  go_enter Try.func64,Try.ntmps64
  go_wp2
  go_loopg [1,5] k (fun kq v1 v5 w'=> ∃ (x0_1:List (S79)) (x1_1:Int) (x5_1:Int),v1= .int .i64 x1_1 ∧ v5= .int .i64 x5_1 ∧ Aside0 (laws_markExtS.l0 kq x0_1 x1_1 x5_1=some (r1,r2)) ∧ Aside0 (kq ≤ k) ∧ Aside0 (Kd.R k79 79 w' w0.heap.size (fun k_=> (P0_ k_ ∨ w.heap.size ≤ k_)) u9000_ x0_1) ∧ Aside0 (Kept w w' (fun k_=> P0_ k_)) ∧ Aside0 (Below w0.heap.size w0 w'))
  case atStart=> exact ⟨(l0),(a1),(0),(by first|rfl|(simp;done)|(simp [*];done)),(by first|rfl|(simp;done)|(simp [*];done)),H',⟨Nat.le_refl _⟩,⟨by (with_reducible repeat (first|apply Kd.R_alloc|apply Kd.R_drewN|apply Kd.R_drew));exact HO0.out⟩,⟨by repeat (first|(with_reducible first|exact HK.out|apply Kept.alloc|apply Kept.drewN|apply Kept.drew)|exact HK.out)⟩,⟨by repeat (first|(with_reducible first|exact HB.out|apply bwA|apply bwN|apply bwD)|exact HB.out)⟩⟩
  case round=>
    clear H'
    try clear p2
    obtain ⟨x0_1,x1_1,x5_1,rfl,rfl,HA,HK1,HO_0,HK,HB⟩:=hrel
    cases gk with
    |zero=> exact absurd HA.out (by simp [laws_markExtS.l0])
    |succ k1=>
      have H:=HA.out
      clear HA
      simp only [laws_markExtS.l0] at H
      by_cases c3:x5_1 < (x0_1.length:Int)
      · rw [if_pos c3] at H
        have c3b0:decide (x5_1 < (x0_1.length:Int))=true:=decide_eq_true c3
        clear c3
        by_cases c4:0 ≤ x5_1
        · rw [if_pos c4] at H
          have c4b0:decide (0 ≤ x5_1)=true:=decide_eq_true c4
          clear c4
          obtain ⟨y170,hy170⟩:∃ y_:List (S79),y_=(x0_1.set (x5_1:Int).toNat (⟨x1_1,(rd_T79 x0_1 x5_1).f1⟩:S79)):=⟨_,rfl⟩
          replace H:(laws_markExtS.l0 k1 (y170.set (x5_1:Int).toNat (⟨(rd_T79 y170 x5_1).f0,wrap64 (x1_1 + 1)⟩:S79)) (wrap64 ((wrap64 (x1_1 + 1)) + 1)) (wrap64 (x5_1 + 1)))=some (r1,r2):=by first|(rw [hy170];with_reducible exact H)|(have H2_:=(Option.bind_some _ _).symm.trans H;rw [hy170];with_reducible exact H2_)|(have H2_:=(Option.bind_some _ _).symm.trans H;with_reducible exact H2_)|with_reducible exact H|(rw [hy170];exact H)|exact H
          have Ny170:=Aside0.mk hy170
          clear hy170
          obtain ⟨y171,hy171⟩:∃ y_:List (S79),y_=(y170.set (x5_1:Int).toNat (⟨(rd_T79 y170 x5_1).f0,wrap64 (x1_1 + 1)⟩:S79)):=⟨_,rfl⟩
          replace H:(laws_markExtS.l0 k1 y171 (wrap64 ((wrap64 (x1_1 + 1)) + 1)) (wrap64 (x5_1 + 1)))=some (r1,r2):=by first|(rw [hy171];with_reducible exact H)|(have H2_:=(Option.bind_some _ _).symm.trans H;rw [hy171];with_reducible exact H2_)|(have H2_:=(Option.bind_some _ _).symm.trans H;with_reducible exact H2_)|with_reducible exact H|(rw [hy171];exact H)|exact H
          have Ny171:=Aside0.mk hy171
          clear hy171
          have H':=Aside0.mk H
          clear H
          obtain ⟨Ao7,co7,eo7⟩:=Kd.R_slice HO_0.out
          subst eo7
          have p5:0 ≤ (x5_1:Int):=of_decide_eq_true (by first|(with_reducible assumption)|assumption)
          have q5:(x5_1:Int) < ((x0_1.length:Int):Int):=of_decide_eq_true (by first|(with_reducible assumption)|assumption)
          obtain ⟨go5,co5,eo5,gb5,gl5,cl5,HG5⟩:=Kd.R_form HO_0.out (by omega)
          (first|cases eo5|(injection eo5 with ea_ en_ ec_;(first|subst ea_|(injection ea_ with ea_;subst ea_));subst ec_;clear en_))
          have GB5:=Aside0.mk gb5
          have GG5:=Aside0.mk HG5
          clear gb5 gl5 HG5
          have HMgo5:=Aside0.mk (show (P0_ go5 ∨ w.heap.size ≤ go5) from (HO_0.out.1 _ rfl))
          obtain ⟨ce5,hcl5,hM5,hcc5,hfr5⟩:=Kd.R_elem HO_0.out z79 (x5_1:Int) p5 q5
          obtain rfl:=k79_openM hM5
          have hx5_0:wr.cell? ⟨go5,(x5_1:Int).toNat * 2,none⟩=some (.int .i64 ((rd_T79 x0_1 x5_1).f0)):=hcc5 0 _ rfl
          have hx5_1:wr.cell? ⟨go5,(x5_1:Int).toNat * 2 + 1,none⟩=some (.int .i64 ((rd_T79 x0_1 x5_1).f1)):=hcc5 1 _ rfl
          have hf5_0:wr.frozen? ⟨go5,(x5_1:Int).toNat * 2,none⟩=false:=hfr5 0
          have hf5_1:wr.frozen? ⟨go5,(x5_1:Int).toNat * 2 + 1,none⟩=false:=hfr5 1
          clear hcl5 hcc5 hfr5 hM5
          replace p5:=eq_true p5
          replace q5:=eq_true q5
          have HX8:=Aside0.mk (show Kd.R k79 79 wr w0.heap.size (fun k_=> (P0_ k_ ∨ w.heap.size ≤ k_)) (.slice (some ⟨go5,0,none⟩) x0_1.length co7) x0_1 from (by (with_reducible repeat (first|apply Kd.R_alloc|apply Kd.R_drewN|apply Kd.R_drew));exact HO_0.out))
          obtain ⟨ce8,hcl8,hM8,hcc8,hfr8⟩:=Kd.R_elem HX8.out z79 (x5_1:Int) (of_decide_eq_true (by first|(with_reducible assumption)|assumption)) (by have h_:(x5_1:Int) < ((x0_1.length:Int):Int):=of_decide_eq_true (by first|(with_reducible assumption)|assumption);first|exact h_|(have e_:=(Kd.R_reads' HO_0.out).1;omega)|simpa using h_)
          obtain rfl:=k79_openM hM8
          have HP8:=Kd.R_seg HX8.out (x5_1:Int) (of_decide_eq_true (by first|(with_reducible assumption)|assumption)) (by have h_:(x5_1:Int) < ((x0_1.length:Int):Int):=of_decide_eq_true (by first|(with_reducible assumption)|assumption);first|exact h_|(have e_:=(Kd.R_reads' HO_0.out).1;omega)|simpa using h_) (seg:= [.int .i64 x1_1]) (j:=0) hcl8 hcc8 (show 1 ≤ 2 from by decide) (x':=(⟨x1_1,(rd_T79 x0_1 x5_1).f1⟩:S79)) (k79_mkM _ _ _ (⟨x1_1,(rd_T79 x0_1 x5_1).f1⟩:S79)) (fun _ hk=> hk)
          have hx8_0:=hcc8 0 _ rfl
          (try simp only [show (k79).sz=2 from rfl,Nat.mul_one,Nat.add_zero] at hx8_0)
          have hf8_0:=hfr8 0
          (try simp only [show (k79).sz=2 from rfl,Nat.mul_one,Nat.add_zero] at hf8_0)
          clear hcl8 hcc8 hfr8 hM8
          go_wp2_with (first|((with_reducible refine gate_store (t:=3) (p:=16) rfl ?_);refine store_event (t:=3) (p:=16) (v:=?vo_w9) (w1:=(wr.setCell ⟨go5,(x5_1:Int).toNat * 2,none⟩ (.int .i64 x1_1))) ?hg ?ho ?hn ?hr ?_;(case ho=> rfl);(case hg=> rfl);(case hn=> rfl);(case hr=> first|(go_simp;done)|(go_simp;rfl));intro w9 hw;have hg:wr.grownBy w9 (some go5):=(by rw [hw];exact HP8.2);have hp_:Kd.R k79 79 w9 w0.heap.size (fun k_=> (P0_ k_ ∨ w.heap.size ≤ k_)) (.slice (some ⟨go5,0,none⟩) x0_1.length co7) y170:=(by rw [hw,Ny170.out];exact HP8.1);clear HP8;have n0_:=Aside0.mk (hp_);have n1_:=Aside0.mk ((by rw [hw];exact bwS (HB.out) GB5.out:Below w0.heap.size w0 w9));have n2_:=Aside0.mk (Kept.of_grown (S:=(fun k_=> P0_ k_)) hg (by repeat (first|(with_reducible first|exact HK.out|apply Kept.alloc|apply Kept.drewN|apply Kept.drew)|exact HK.out)) (fun k_ e_=> (HO_0.out.1 k_ e_)));clear HO_0;clear HB;clear HK;have HO_0:=n0_;have HB:=n1_;have HK:=n2_;clear n0_ n1_ n2_;clear hg hw hp_;have p6:0 ≤ (x5_1:Int):=of_decide_eq_true (by first|(with_reducible assumption)|assumption);have q6:(x5_1:Int) < ((x0_1.length:Int):Int):=of_decide_eq_true (by first|(with_reducible assumption)|assumption);obtain ⟨ce6,hcl6,hM6,hcc6,hfr6⟩:=Kd.R_elem HO_0.out z79 (x5_1:Int) p6 q6;obtain rfl:=k79_openM hM6;have hx6_0:w9.cell? ⟨go5,(x5_1:Int).toNat * 2,none⟩=some (.int .i64 ((rd_T79 y170 x5_1).f0)):=hcc6 0 _ rfl;have hx6_1:w9.cell? ⟨go5,(x5_1:Int).toNat * 2 + 1,none⟩=some (.int .i64 ((rd_T79 y170 x5_1).f1)):=hcc6 1 _ rfl;have hf6_0:w9.frozen? ⟨go5,(x5_1:Int).toNat * 2,none⟩=false:=hfr6 0;have hf6_1:w9.frozen? ⟨go5,(x5_1:Int).toNat * 2 + 1,none⟩=false:=hfr6 1;clear hcl6 hcc6 hfr6 hM6;replace p6:=eq_true p6;replace q6:=eq_true q6;have HX10:=Aside0.mk (show Kd.R k79 79 w9 w0.heap.size (fun k_=> (P0_ k_ ∨ w.heap.size ≤ k_)) (.slice (some ⟨go5,0,none⟩) x0_1.length co7) y170 from (by (with_reducible repeat (first|apply Kd.R_alloc|apply Kd.R_drewN|apply Kd.R_drew));exact HO_0.out));obtain ⟨ce10,hcl10,hM10,hcc10,hfr10⟩:=Kd.R_elem HX10.out z79 (x5_1:Int) (of_decide_eq_true (by first|(with_reducible assumption)|assumption)) (by have h_:(x5_1:Int) < ((x0_1.length:Int):Int):=of_decide_eq_true (by first|(with_reducible assumption)|assumption);first|exact h_|(have e_:=(Kd.R_reads' HO_0.out).1;omega)|simpa using h_);obtain rfl:=k79_openM hM10;have HP10:=Kd.R_seg HX10.out (x5_1:Int) (of_decide_eq_true (by first|(with_reducible assumption)|assumption)) (by have h_:(x5_1:Int) < ((x0_1.length:Int):Int):=of_decide_eq_true (by first|(with_reducible assumption)|assumption);first|exact h_|(have e_:=(Kd.R_reads' HO_0.out).1;omega)|simpa using h_) (seg:= [.int .i64 (wrap64 (x1_1 + 1))]) (j:=1) hcl10 hcc10 (show 2 ≤ 2 from by decide) (x':=(⟨(rd_T79 y170 x5_1).f0,wrap64 (x1_1 + 1)⟩:S79)) (k79_mkM _ _ _ (⟨(rd_T79 y170 x5_1).f0,wrap64 (x1_1 + 1)⟩:S79)) (fun _ hk=> hk);have hx10_1:=hcc10 1 _ rfl;(try simp only [show (k79).sz=2 from rfl,Nat.mul_one,Nat.add_zero] at hx10_1);have hf10_1:=hfr10 1;(try simp only [show (k79).sz=2 from rfl,Nat.mul_one,Nat.add_zero] at hf10_1);clear hcl10 hcc10 hfr10 hM10)|((with_reducible refine gate_store (t:=3) (p:=23) rfl ?_);refine store_event (t:=3) (p:=23) (v:=?vo_w11) (w1:=(w9.setCell ⟨go5,(x5_1:Int).toNat * 2 + 1,none⟩ (.int .i64 (wrap64 (x1_1 + 1))))) ?hg ?ho ?hn ?hr ?_;(case ho=> rfl);(case hg=> rfl);(case hn=> rfl);(case hr=> first|(go_simp;done)|(go_simp;rfl));intro w11 hw;have hg:w9.grownBy w11 (some go5):=(by rw [hw];exact HP10.2);have hp_:Kd.R k79 79 w11 w0.heap.size (fun k_=> (P0_ k_ ∨ w.heap.size ≤ k_)) (.slice (some ⟨go5,0,none⟩) x0_1.length co7) y171:=(by rw [hw,Ny171.out];exact HP10.1);clear HP10;have n0_:=Aside0.mk (hp_);have n1_:=Aside0.mk ((by rw [hw];exact bwS (HB.out) GB5.out:Below w0.heap.size w0 w11));have n2_:=Aside0.mk (Kept.of_grown (S:=(fun k_=> P0_ k_)) hg (by repeat (first|(with_reducible first|exact HK.out|apply Kept.alloc|apply Kept.drewN|apply Kept.drew)|exact HK.out)) (fun k_ e_=> (HO_0.out.1 k_ e_)));clear HO_0;clear HB;clear HK;have HO_0:=n0_;have HB:=n1_;have HK:=n2_;clear n0_ n1_ n2_;clear hg hw hp_))
          go_roundg k1
          case measure=> have:=HK1.out;omega
          case rel=> exact ⟨(y171),(wrap64 ((wrap64 (x1_1 + 1)) + 1)),(wrap64 (x5_1 + 1)),(by first|rfl|(simp;done)|(simp [*];done)),(by first|rfl|(simp;done)|(simp [*];done)),H',⟨by have:=HK1.out;omega⟩,⟨by (with_reducible repeat (first|apply Kd.R_alloc|apply Kd.R_drewN|apply Kd.R_drew));exact HO_0.out⟩,⟨by repeat (first|(with_reducible first|exact HK.out|apply Kept.alloc|apply Kept.drewN|apply Kept.drew)|exact HK.out)⟩,⟨by repeat (first|(with_reducible first|exact HB.out|apply bwA|apply bwN|apply bwD)|exact HB.out)⟩⟩
        · rw [if_neg c4] at H
          exact absurd H (by simp)
      · rw [if_neg c3] at H
        have c3b0:decide (x5_1 < (x0_1.length:Int))=false:=decide_eq_false c3
        clear c3
        simp only [Option.some.injEq,Prod.mk.injEq] at H
        obtain ⟨rfl,rfl⟩:=H
        obtain ⟨Ao12,co12,eo12⟩:=Kd.R_slice HO_0.out
        subst eo12
        go_wp2
        go_ret
        exact ⟨by first|rfl|(simp [errW_none,errW_some] <;> rfl)|(simp [*,errW_none,errW_some] <;> rfl),by (with_reducible repeat (first|apply Kd.R_alloc|apply Kd.R_drewN|apply Kd.R_drew));exact HO_0.out,by repeat (first|(with_reducible first|exact HB.out|apply bwA|apply bwN|apply bwD)|exact HB.out),by repeat (first|(with_reducible first|exact HK.out|apply Kept.alloc|apply Kept.drewN|apply Kept.drew)|exact HK.out)⟩
def laws_markSource.f (k:Nat) (l0_0:List (S79)) (a0_1:Int) (a0_2:ByteArray) (a0_3:Int) (a1:Int):Option (Int × (List (S79))):=(laws_markExtS.f k l0_0 a1).bind fun bt173=> (some (bt173.1,bt173.2))
theorem laws_markSource.mono:∀ a0 a1 a2 a3 a4 k,LeO (laws_markSource.f k a0 a1 a2 a3 a4) (laws_markSource.f (k + 1) a0 a1 a2 a3 a4):=by
  intro a0 a1 a2 a3 a4 k
  unfold laws_markSource.f
  repeat' first
      |(with_reducible exact laws_markExtS.mono _ _ _)
      |(with_reducible exact LeO.refl _)
      |(with_reducible exact LeO.none _)
      |(with_reducible refine LeO.ite ?_ ?_)
      |(with_reducible refine LeO.bind ?_ (fun _=> ?_))
      |exact laws_markExtS.mono _ _ _
      |exact LeO.none _
      |refine LeO.ite ?_ ?_
      |refine LeO.bind ?_ (fun _=> ?_)
set_option maxHeartbeats 8000000 in
set_option maxRecDepth 100000 in
theorem laws_markSource.calls (k:Nat) (P0_0_:Nat → Prop) (u9000_:Value) (l0_0:List (S79)) (a0_1:Int) (a0_2:ByteArray) (a0_3:Int) (a1:Int) (r1:Int) (r2:List (S79)) (w0 w:World) (hB:Below w0.heap.size w0 w) (ho0_0:Kd.R k79 79 w w0.heap.size P0_0_ u9000_ l0_0) (h:laws_markSource.f k l0_0 a0_1 a0_2 a0_3 a1=some (r1,r2)):
    Calls Try.prog 37 #[.agg #[u9000_,.int .i64 a0_1,.string a0_2,.int .i64 a0_3],.int .i64 a1] w fun e w'=> e= .returned (.int .i64 r1) ∧ Kd.R k79 79 w' w0.heap.size (fun k_=> (P0_0_ k_ ∨ w.heap.size ≤ k_)) u9000_ r2 ∧ Below w0.heap.size w0 w' ∧ Kept w w' (fun k_=> P0_0_ k_):=by
  have hu36:=Try.underlying36
  have HO0_0:=Aside0.mk (show Kd.R k79 79 w w0.heap.size (fun k_=> (P0_0_ k_ ∨ w.heap.size ≤ k_)) u9000_ l0_0 from Kd.R_mono ho0_0 (fun k_ hk=> (.inl hk)))
  have HK:=Aside0.mk (Kept.refl w (fun k_=> P0_0_ k_))
  have HW0:=Aside0.mk hB.size
  have HB:=Aside0.mk hB
  clear hB
  have H:((laws_markExtS.f k l0_0 a1).bind fun bt173=> (some (bt173.1,bt173.2)))=some (r1,r2):=h
  clear h
  replace H:=Option.bind_eq_some_iff.mp H
  obtain ⟨⟨t173,t174⟩,A30,H⟩:=H
  replace H:(some (t173,t174))=some (r1,r2):=H
  have A3:=Aside0.mk A30
  clear A30
  simp only [Option.some.injEq,Prod.mk.injEq] at H
  obtain ⟨rfl,rfl⟩:=H
  obtain ⟨Ao4,co4,eo4⟩:=Kd.R_slice HO0_0.out
  subst eo4
  go_enter Try.func37,Try.ntmps37
  go_wp2_with (first|((with_reducible refine gate_dst (N:=2) rfl ?_);refine box_event ?hg (N:=2) ?hd (cs:= #[.slice Ao4 l0_0.length co4,.int .i64 a0_1,.string a0_2,.int .i64 a0_3]) (t:=36) ?hr ?_;(case hd=> rfl);(case hg=> rfl);(case hr=> first|(go_simp;done)|(go_simp;rfl));intro gb172 hg w5 hbox hb;have n0_:=Aside0.mk (Kd.R_below (by (with_reducible repeat (first|apply Kd.R_alloc|apply Kd.R_drewN|apply Kd.R_drew));exact HO0_0.out) hb);have n1_:=Aside0.mk (Kept.below (S:=(fun k_=> P0_0_ k_)) (by repeat (first|(with_reducible first|exact HK.out|apply Kept.alloc|apply Kept.drewN|apply Kept.drew)|exact HK.out)) hb);have n2_:=Aside0.mk (below_step (by repeat (first|(with_reducible first|exact HB.out|apply bwA|apply bwN|apply bwD)|exact HB.out)) hb);have n3_:=Aside0.mk (hbox);have n4_:=Aside0.mk ((by rw [hg];exact (by first|exact HK.out.1|exact (show Kept w _ (fun k_=> P0_0_ k_) from by repeat (first|(with_reducible first|exact HK.out|apply Kept.alloc|apply Kept.drewN|apply Kept.drew)|exact HK.out)).1):w.heap.size ≤ gb172));have n5_:=Aside0.mk ((by rw [hg];exact (below_size (by repeat (first|(with_reducible first|exact HB.out|apply bwA|apply bwN|apply bwD)|exact HB.out))):w0.heap.size ≤ gb172));clear HO0_0;clear HK;clear HB;have HO0_0:=n0_;have HK:=n1_;have HB:=n2_;have BK172:=n3_;have GW172:=n4_;have GE172:=n5_;clear n0_ n1_ n2_ n3_ n4_ n5_;clear hb hbox hg;have hcz6_0:w5.cell? ⟨gb172,0,none⟩=some (.slice Ao4 l0_0.length co4):=(blk_cell BK172.out 0).trans rfl;have hcz6_1:w5.cell? ⟨gb172,1,none⟩=some (.int .i64 a0_1):=(blk_cell BK172.out 1).trans rfl;have hcz6_2:w5.cell? ⟨gb172,2,none⟩=some (.string a0_2):=(blk_cell BK172.out 2).trans rfl;have hcz6_3:w5.cell? ⟨gb172,3,none⟩=some (.int .i64 a0_3):=(blk_cell BK172.out 3).trans rfl;have hfz6_0:=blk_frozen BK172.out 0;have hfz6_1:=blk_frozen BK172.out 1;have hfz6_2:=blk_frozen BK172.out 2;have hfz6_3:=blk_frozen BK172.out 3)|((with_reducible refine gate_callee (f:=64) rfl ?_);refine goesL_ (some 8) rfl rfl Try.func64 (by kernel_rfl) rfl #[.slice Ao4 l0_0.length co4,.int .i64 a1] rfl (by (try simp only [List.map_toArray,List.map_cons,List.map_nil]);first|done|rfl|(simp only [List.length_drop,List.length_take];rfl)) ?_;(with_reducible refine (laws_markExtS.calls k (fun k_=> some k_=(.slice Ao4 l0_0.length co4:Value).ownBlock) (.slice Ao4 l0_0.length co4) l0_0 a1 t173 t174 w0 _ ?side1 ?side2 A3.out).mono ?_);(case side1=> repeat (first|(with_reducible first|exact HB.out|apply bwA|apply bwN|apply bwD|refine bwS ?_ GE172.out)|exact HB.out));(case side2=> exact Kd.R_tight rfl HO0_0.out);rintro e w7 ⟨rfl,hy0,hb,hkp⟩;refine ⟨_,rfl,?_⟩;have n0_:=Aside0.mk (Kd.R_reok rfl hy0 (fun k_ e_=> HO0_0.out.1 k_ e_));have n1_:=Aside0.mk (blk_kept (by (with_reducible repeat (first|apply bN|apply bd|apply bA));exact BK172.out) hkp (fun hs_=> (fun e_=> (Kd.R_ne HO0_0.out BK172.out (by decide)) e_) hs_));have n2_:=Aside0.mk (Kept.then_ (S:=(fun k_=> P0_0_ k_)) (by repeat (first|(with_reducible first|exact HK.out|apply Kept.alloc|apply Kept.drewN|apply Kept.drew|refine Kept.setCell ?_ (.inr GW172.out) _)|exact HK.out)) hkp (fun k_ hs_=> (fun e_=> (HO0_0.out.1 k_ e_.symm)) hs_));have n3_:=Aside0.mk (hb);clear HO0_0;clear BK172;clear HK;clear HB;have HO0_0:=n0_;have BK172:=n1_;have HK:=n2_;have HB:=n3_;clear n0_ n1_ n2_ n3_;(try clear hb);(try clear hkp);(try clear hy0)))
  go_ret
  exact ⟨by first|rfl|(simp [errW_none,errW_some] <;> rfl)|(simp [*,errW_none,errW_some] <;> rfl),by (with_reducible repeat (first|apply Kd.R_alloc|apply Kd.R_drewN|apply Kd.R_drew));exact HO0_0.out,by repeat (first|(with_reducible first|exact HB.out|apply bwA|apply bwN|apply bwD|refine bwS ?_ GE172.out)|exact HB.out),by repeat (first|(with_reducible first|exact HK.out|apply Kept.alloc|apply Kept.drewN|apply Kept.drew|refine Kept.setCell ?_ (.inr GW172.out) _)|exact HK.out)⟩
def laws_szExtS.f (l0:List (S125)) (a1:Int):Option (Int):=if (wrap64 (a1 - (l0.length:Int))) < 0 then (some (-1)) else (some (wrap64 (a1 - (l0.length:Int))))
set_option maxHeartbeats 8000000 in
set_option maxRecDepth 100000 in
theorem laws_szExtS.calls (A0:Option Addr) (c0:Nat) (l0:List (S125)) (a1:Int) (r:Int) (w:World) (hr0:Kd.C k125 w A0 l0.length l0) (hc0:l0.length ≤ c0) (h:laws_szExtS.f l0 a1=some r):
    Calls Try.prog 59 #[.slice A0 l0.length c0,.int .i64 a1] w fun e w'=> e= .returned (.int .i64 r) ∧ Drawn0 w w':=by
  have HR0:=Aside0.mk hr0
  have HC0:=Aside0.mk hc0
  clear hr0 hc0
  have H:(if (wrap64 (a1 - (l0.length:Int))) < 0 then (some (-1)) else (some (wrap64 (a1 - (l0.length:Int)))))=some r:=h
  clear h
  by_cases c3:(wrap64 (a1 - (l0.length:Int))) < 0
  · rw [if_pos c3] at H
    have c3b0:decide ((wrap64 (a1 - (l0.length:Int))) < 0)=true:=decide_eq_true c3
    clear c3
    obtain rfl:=Option.some.inj H
    go_enter Try.func59,Try.ntmps59
    go_wp2
    go_ret
    exact ⟨by first|rfl|(simp;done)|(simp [*];done),by repeat (first|exact Drawn0.refl _|apply Drawn0.step)⟩
  · rw [if_neg c3] at H
    have c3b0:decide ((wrap64 (a1 - (l0.length:Int))) < 0)=false:=decide_eq_false c3
    clear c3
    obtain rfl:=Option.some.inj H
    go_enter Try.func59,Try.ntmps59
    go_wp2
    go_ret
    exact ⟨by first|rfl|(simp;done)|(simp [*];done),by repeat (first|exact Drawn0.refl _|apply Drawn0.step)⟩
def laws_szSource.f (l0_0:List (S125)) (a0_1:Int) (a0_2:ByteArray) (a0_3:Int) (a1:Int):Option (Int):=(laws_szExtS.f l0_0 a1).bind fun t300=> (if t300 < 0 then (some (-1)) else (if (wrap64 (t300 - (a0_2.size:Int))) < 0 then (some (-1)) else (some (wrap64 (t300 - (a0_2.size:Int))))))
set_option maxHeartbeats 8000000 in
set_option maxRecDepth 100000 in
theorem laws_szSource.calls (A0_0:Option Addr) (c0_0:Nat) (l0_0:List (S125)) (a0_1:Int) (a0_2:ByteArray) (a0_3:Int) (a1:Int) (r:Int) (w:World) (hr0_0:Kd.C k125 w A0_0 l0_0.length l0_0) (hc0_0:l0_0.length ≤ c0_0) (h:laws_szSource.f l0_0 a0_1 a0_2 a0_3 a1=some r):
    Calls Try.prog 53 #[.agg #[.slice A0_0 l0_0.length c0_0,.int .i64 a0_1,.string a0_2,.int .i64 a0_3],.int .i64 a1] w fun e w'=> e= .returned (.int .i64 r) ∧ Below w.heap.size w w':=by
  have hu61:=Try.underlying61
  have HR0_0:=Aside0.mk hr0_0
  have HC0_0:=Aside0.mk hc0_0
  clear hr0_0 hc0_0
  have HB:=Aside0.mk (Below.refl w.heap.size w)
  have H:((laws_szExtS.f l0_0 a1).bind fun t300=> (if t300 < 0 then (some (-1)) else (if (wrap64 (t300 - (a0_2.size:Int))) < 0 then (some (-1)) else (some (wrap64 (t300 - (a0_2.size:Int)))))))=some r:=h
  clear h
  replace H:=Option.bind_eq_some_iff.mp H
  obtain ⟨t300,A30,H⟩:=H
  replace H:(if t300 < 0 then (some (-1)) else (if (wrap64 (t300 - (a0_2.size:Int))) < 0 then (some (-1)) else (some (wrap64 (t300 - (a0_2.size:Int))))))=some r:=H
  have A3:=Aside0.mk A30
  clear A30
  by_cases c4:t300 < 0
  · rw [if_pos c4] at H
    have c4b0:decide (t300 < 0)=true:=decide_eq_true c4
    clear c4
    obtain rfl:=Option.some.inj H
    go_enter Try.func53,Try.ntmps53
    go_wp2_with (first|((with_reducible refine gate_dst (N:=2) rfl ?_);refine box_event ?hg (N:=2) ?hd (cs:= #[.slice A0_0 l0_0.length c0_0,.int .i64 a0_1,.string a0_2,.int .i64 a0_3]) (t:=61) ?hr ?_;(case hd=> rfl);(case hg=> rfl);(case hr=> first|(go_simp;done)|(go_simp;rfl));intro gb299 hg w5 hbox hb;have n0_:=Aside0.mk (below_step (by repeat (first|(with_reducible first|exact HB.out|apply bwA|apply bwN|apply bwD)|exact HB.out)) hb);have n1_:=Aside0.mk (hbox);have n2_:=Aside0.mk ((by rw [hg];exact (below_size (by repeat (first|(with_reducible first|exact HB.out|apply bwA|apply bwN|apply bwD)|exact HB.out))):w.heap.size ≤ gb299));have n3_:=Aside0.mk ((by rw [hg];exact (below_size (by repeat (first|(with_reducible first|exact HB.out|apply bwA|apply bwN|apply bwD)|exact HB.out))):w.heap.size ≤ gb299));clear HB;have HB:=n0_;have BK299:=n1_;have GW299:=n2_;have GE299:=n3_;clear n0_ n1_ n2_ n3_;clear hb hbox hg;have hcz6_0:w5.cell? ⟨gb299,0,none⟩=some (.slice A0_0 l0_0.length c0_0):=(blk_cell BK299.out 0).trans rfl;have hcz6_1:w5.cell? ⟨gb299,1,none⟩=some (.int .i64 a0_1):=(blk_cell BK299.out 1).trans rfl;have hcz6_2:w5.cell? ⟨gb299,2,none⟩=some (.string a0_2):=(blk_cell BK299.out 2).trans rfl;have hcz6_3:w5.cell? ⟨gb299,3,none⟩=some (.int .i64 a0_3):=(blk_cell BK299.out 3).trans rfl;have hfz6_0:=blk_frozen BK299.out 0;have hfz6_1:=blk_frozen BK299.out 1;have hfz6_2:=blk_frozen BK299.out 2;have hfz6_3:=blk_frozen BK299.out 3)|((with_reducible refine gate_callee (f:=59) rfl ?_);refine goesL_ (some 8) rfl rfl Try.func59 (by kernel_rfl) rfl #[.slice A0_0 l0_0.length c0_0,.int .i64 a1] rfl (by (try simp only [List.map_toArray,List.map_cons,List.map_nil]);first|done|rfl|(simp only [List.length_drop,List.length_take];rfl)) ?_;(with_reducible refine (laws_szExtS.calls _ _ l0_0 a1 t300 _ ?side1 ?side2 A3.out).mono ?_);(case side1=> repeat (first|exact (Kd.C_below HR0_0.out HB.out)|(with_reducible refine Kd.C_alloc ?_ _)|(with_reducible refine Kd.C_drewN ?_ _)|(with_reducible refine Kd.C_drew ?_)));(case side2=> exact HC0_0.out);rintro e w' ⟨rfl,⟨nd,rfl⟩⟩;refine ⟨_,rfl,?_⟩))
    go_ret
    exact ⟨by first|rfl|(simp [errW_none,errW_some] <;> rfl)|(simp [*,errW_none,errW_some] <;> rfl),by repeat (first|(with_reducible first|exact HB.out|apply bwA|apply bwN|apply bwD|refine bwS ?_ GE299.out)|exact HB.out)⟩
  · rw [if_neg c4] at H
    have c4b0:decide (t300 < 0)=false:=decide_eq_false c4
    clear c4
    by_cases c7:(wrap64 (t300 - (a0_2.size:Int))) < 0
    · rw [if_pos c7] at H
      have c7b0:decide ((wrap64 (t300 - (a0_2.size:Int))) < 0)=true:=decide_eq_true c7
      clear c7
      obtain rfl:=Option.some.inj H
      go_enter Try.func53,Try.ntmps53
      go_wp2_with (first|((with_reducible refine gate_dst (N:=2) rfl ?_);refine box_event ?hg (N:=2) ?hd (cs:= #[.slice A0_0 l0_0.length c0_0,.int .i64 a0_1,.string a0_2,.int .i64 a0_3]) (t:=61) ?hr ?_;(case hd=> rfl);(case hg=> rfl);(case hr=> first|(go_simp;done)|(go_simp;rfl));intro gb299 hg w8 hbox hb;have n0_:=Aside0.mk (below_step (by repeat (first|(with_reducible first|exact HB.out|apply bwA|apply bwN|apply bwD)|exact HB.out)) hb);have n1_:=Aside0.mk (hbox);have n2_:=Aside0.mk ((by rw [hg];exact (below_size (by repeat (first|(with_reducible first|exact HB.out|apply bwA|apply bwN|apply bwD)|exact HB.out))):w.heap.size ≤ gb299));have n3_:=Aside0.mk ((by rw [hg];exact (below_size (by repeat (first|(with_reducible first|exact HB.out|apply bwA|apply bwN|apply bwD)|exact HB.out))):w.heap.size ≤ gb299));clear HB;have HB:=n0_;have BK299:=n1_;have GW299:=n2_;have GE299:=n3_;clear n0_ n1_ n2_ n3_;clear hb hbox hg;have hcz9_0:w8.cell? ⟨gb299,0,none⟩=some (.slice A0_0 l0_0.length c0_0):=(blk_cell BK299.out 0).trans rfl;have hcz9_1:w8.cell? ⟨gb299,1,none⟩=some (.int .i64 a0_1):=(blk_cell BK299.out 1).trans rfl;have hcz9_2:w8.cell? ⟨gb299,2,none⟩=some (.string a0_2):=(blk_cell BK299.out 2).trans rfl;have hcz9_3:w8.cell? ⟨gb299,3,none⟩=some (.int .i64 a0_3):=(blk_cell BK299.out 3).trans rfl;have hfz9_0:=blk_frozen BK299.out 0;have hfz9_1:=blk_frozen BK299.out 1;have hfz9_2:=blk_frozen BK299.out 2;have hfz9_3:=blk_frozen BK299.out 3)|((with_reducible refine gate_callee (f:=59) rfl ?_);refine goesL_ (some 8) rfl rfl Try.func59 (by kernel_rfl) rfl #[.slice A0_0 l0_0.length c0_0,.int .i64 a1] rfl (by (try simp only [List.map_toArray,List.map_cons,List.map_nil]);first|done|rfl|(simp only [List.length_drop,List.length_take];rfl)) ?_;(with_reducible refine (laws_szExtS.calls _ _ l0_0 a1 t300 _ ?side1 ?side2 A3.out).mono ?_);(case side1=> repeat (first|exact (Kd.C_below HR0_0.out HB.out)|(with_reducible refine Kd.C_alloc ?_ _)|(with_reducible refine Kd.C_drewN ?_ _)|(with_reducible refine Kd.C_drew ?_)));(case side2=> exact HC0_0.out);rintro e w' ⟨rfl,⟨nd,rfl⟩⟩;refine ⟨_,rfl,?_⟩))
      go_ret
      exact ⟨by first|rfl|(simp [errW_none,errW_some] <;> rfl)|(simp [*,errW_none,errW_some] <;> rfl),by repeat (first|(with_reducible first|exact HB.out|apply bwA|apply bwN|apply bwD|refine bwS ?_ GE299.out)|exact HB.out)⟩
    · rw [if_neg c7] at H
      have c7b0:decide ((wrap64 (t300 - (a0_2.size:Int))) < 0)=false:=decide_eq_false c7
      clear c7
      obtain rfl:=Option.some.inj H
      go_enter Try.func53,Try.ntmps53
      go_wp2_with (first|((with_reducible refine gate_dst (N:=2) rfl ?_);refine box_event ?hg (N:=2) ?hd (cs:= #[.slice A0_0 l0_0.length c0_0,.int .i64 a0_1,.string a0_2,.int .i64 a0_3]) (t:=61) ?hr ?_;(case hd=> rfl);(case hg=> rfl);(case hr=> first|(go_simp;done)|(go_simp;rfl));intro gb299 hg w10 hbox hb;have n0_:=Aside0.mk (below_step (by repeat (first|(with_reducible first|exact HB.out|apply bwA|apply bwN|apply bwD)|exact HB.out)) hb);have n1_:=Aside0.mk (hbox);have n2_:=Aside0.mk ((by rw [hg];exact (below_size (by repeat (first|(with_reducible first|exact HB.out|apply bwA|apply bwN|apply bwD)|exact HB.out))):w.heap.size ≤ gb299));have n3_:=Aside0.mk ((by rw [hg];exact (below_size (by repeat (first|(with_reducible first|exact HB.out|apply bwA|apply bwN|apply bwD)|exact HB.out))):w.heap.size ≤ gb299));clear HB;have HB:=n0_;have BK299:=n1_;have GW299:=n2_;have GE299:=n3_;clear n0_ n1_ n2_ n3_;clear hb hbox hg;have hcz11_0:w10.cell? ⟨gb299,0,none⟩=some (.slice A0_0 l0_0.length c0_0):=(blk_cell BK299.out 0).trans rfl;have hcz11_1:w10.cell? ⟨gb299,1,none⟩=some (.int .i64 a0_1):=(blk_cell BK299.out 1).trans rfl;have hcz11_2:w10.cell? ⟨gb299,2,none⟩=some (.string a0_2):=(blk_cell BK299.out 2).trans rfl;have hcz11_3:w10.cell? ⟨gb299,3,none⟩=some (.int .i64 a0_3):=(blk_cell BK299.out 3).trans rfl;have hfz11_0:=blk_frozen BK299.out 0;have hfz11_1:=blk_frozen BK299.out 1;have hfz11_2:=blk_frozen BK299.out 2;have hfz11_3:=blk_frozen BK299.out 3)|((with_reducible refine gate_callee (f:=59) rfl ?_);refine goesL_ (some 8) rfl rfl Try.func59 (by kernel_rfl) rfl #[.slice A0_0 l0_0.length c0_0,.int .i64 a1] rfl (by (try simp only [List.map_toArray,List.map_cons,List.map_nil]);first|done|rfl|(simp only [List.length_drop,List.length_take];rfl)) ?_;(with_reducible refine (laws_szExtS.calls _ _ l0_0 a1 t300 _ ?side1 ?side2 A3.out).mono ?_);(case side1=> repeat (first|exact (Kd.C_below HR0_0.out HB.out)|(with_reducible refine Kd.C_alloc ?_ _)|(with_reducible refine Kd.C_drewN ?_ _)|(with_reducible refine Kd.C_drew ?_)));(case side2=> exact HC0_0.out);rintro e w' ⟨rfl,⟨nd,rfl⟩⟩;refine ⟨_,rfl,?_⟩))
      go_ret
      exact ⟨by first|rfl|(simp [errW_none,errW_some] <;> rfl)|(simp [*,errW_none,errW_some] <;> rfl),by repeat (first|(with_reducible first|exact HB.out|apply bwA|apply bwN|apply bwD|refine bwS ?_ GE299.out)|exact HB.out)⟩
def laws_toExt.f (a0_0:Int) (a0_1:Int):Option (Int × Int):=some (a0_0,a0_1)
set_option maxHeartbeats 8000000 in
set_option maxRecDepth 100000 in
theorem laws_toExt.calls (a0_0:Int) (a0_1:Int) (r1:Int) (r2:Int) (w:World) (h:laws_toExt.f a0_0 a0_1=some (r1,r2)):
    Calls Try.prog 121 #[.agg #[.int .i64 a0_0,.int .i64 a0_1]] w fun e w'=> e= .returned (.agg #[.int .i64 r1,.int .i64 r2]) ∧ Below w.heap.size w w':=by
  have hu125:=Try.underlying125
  have hu79:=Try.underlying79
  have HB:=Aside0.mk (Below.refl w.heap.size w)
  have H:(some (a0_0,a0_1))=some (r1,r2):=h
  clear h
  simp only [Option.some.injEq,Prod.mk.injEq] at H
  obtain ⟨rfl,rfl⟩:=H
  go_enter Try.func121,Try.ntmps121
  go_wp2_with (first|((with_reducible refine gate_dst (N:=1) rfl ?_);refine box_event ?hg (N:=1) ?hd (cs:= #[.int .i64 a0_0,.int .i64 a0_1]) (t:=125) ?hr ?_;(case hd=> rfl);(case hg=> rfl);(case hr=> first|(go_simp;done)|(go_simp;rfl));intro gb230 hg w2 hbox hb;have n0_:=Aside0.mk (below_step (by repeat (first|(with_reducible first|exact HB.out|apply bwA|apply bwN|apply bwD)|exact HB.out)) hb);have n1_:=Aside0.mk (hbox);have n2_:=Aside0.mk ((by rw [hg];exact (below_size (by repeat (first|(with_reducible first|exact HB.out|apply bwA|apply bwN|apply bwD)|exact HB.out))):w.heap.size ≤ gb230));have n3_:=Aside0.mk ((by rw [hg];exact (below_size (by repeat (first|(with_reducible first|exact HB.out|apply bwA|apply bwN|apply bwD)|exact HB.out))):w.heap.size ≤ gb230));clear HB;have HB:=n0_;have BK230:=n1_;have GW230:=n2_;have GE230:=n3_;clear n0_ n1_ n2_ n3_;clear hb hbox hg)|((with_reducible refine gate_dst (N:=2) rfl ?_);refine box_event ?hg (N:=2) ?hd (cs:= #[.int .i64 0,.int .i64 0]) (t:=79) ?hr ?_;(case hd=> rfl);(case hg=> rfl);(case hr=> first|(go_simp;done)|(go_simp;rfl));intro gb231 hg w3 hbox hb;have n0_:=Aside0.mk (blk_below (g:=gb230) (o:= .cells #[.int .i64 a0_0,.int .i64 a0_1] 125 (0,0)) (by (with_reducible repeat (first|apply bN|apply bd|apply bA));exact BK230.out) hb);have n1_:=Aside0.mk (below_step (by repeat (first|(with_reducible first|exact HB.out|apply bwA|apply bwN|apply bwD|refine bwS ?_ GE230.out)|exact HB.out)) hb);have n2_:=Aside0.mk (hbox);have n3_:=Aside0.mk ((by rw [hg];exact (below_size (by repeat (first|(with_reducible first|exact HB.out|apply bwA|apply bwN|apply bwD|refine bwS ?_ GE230.out)|exact HB.out))):w.heap.size ≤ gb231));have n4_:=Aside0.mk ((by rw [hg];exact (below_size (by repeat (first|(with_reducible first|exact HB.out|apply bwA|apply bwN|apply bwD|refine bwS ?_ GE230.out)|exact HB.out))):w.heap.size ≤ gb231));have n5_:=Aside0.mk ((by rw [hg];exact Nat.ne_of_lt (blk_lt (g:=gb230) (o:= .cells #[.int .i64 a0_0,.int .i64 a0_1] 125 (0,0)) (by (with_reducible repeat (first|apply bN|apply bd|apply bA));exact BK230.out)):gb230 ≠ gb231));have n6_:=Aside0.mk ((by rw [hg];exact Nat.ne_of_gt (blk_lt (g:=gb230) (o:= .cells #[.int .i64 a0_0,.int .i64 a0_1] 125 (0,0)) (by (with_reducible repeat (first|apply bN|apply bd|apply bA));exact BK230.out)):gb231 ≠ gb230));clear BK230;clear HB;have BK230:=n0_;have HB:=n1_;have BK231:=n2_;have GW231:=n3_;have GE231:=n4_;have NB230_231:=n5_;have NB231_230:=n6_;clear n0_ n1_ n2_ n3_ n4_ n5_ n6_;clear hb hbox hg)|((with_reducible refine gate_dst (N:=3) rfl ?_);refine box_event ?hg (N:=3) ?hd (cs:= #[.int .i64 0,.int .i64 0]) (t:=79) ?hr ?_;(case hd=> rfl);(case hg=> rfl);(case hr=> first|(go_simp;done)|(go_simp;rfl));intro gb232 hg w4 hbox hb;have n0_:=Aside0.mk (blk_below (g:=gb230) (o:= .cells #[.int .i64 a0_0,.int .i64 a0_1] 125 (0,0)) (by (with_reducible repeat (first|apply bN|apply bd|apply bA));exact BK230.out) hb);have n1_:=Aside0.mk (blk_below (g:=gb231) (o:= .cells #[.int .i64 0,.int .i64 0] 79 (0,0)) (by (with_reducible repeat (first|apply bN|apply bd|apply bA));exact BK231.out) hb);have n2_:=Aside0.mk (below_step (by repeat (first|(with_reducible first|exact HB.out|apply bwA|apply bwN|apply bwD|refine bwS ?_ GE230.out|refine bwS ?_ GE231.out)|exact HB.out)) hb);have n3_:=Aside0.mk (hbox);have n4_:=Aside0.mk ((by rw [hg];exact (below_size (by repeat (first|(with_reducible first|exact HB.out|apply bwA|apply bwN|apply bwD|refine bwS ?_ GE230.out|refine bwS ?_ GE231.out)|exact HB.out))):w.heap.size ≤ gb232));have n5_:=Aside0.mk ((by rw [hg];exact (below_size (by repeat (first|(with_reducible first|exact HB.out|apply bwA|apply bwN|apply bwD|refine bwS ?_ GE230.out|refine bwS ?_ GE231.out)|exact HB.out))):w.heap.size ≤ gb232));have n6_:=Aside0.mk ((by rw [hg];exact Nat.ne_of_lt (blk_lt (g:=gb230) (o:= .cells #[.int .i64 a0_0,.int .i64 a0_1] 125 (0,0)) (by (with_reducible repeat (first|apply bN|apply bd|apply bA));exact BK230.out)):gb230 ≠ gb232));have n7_:=Aside0.mk ((by rw [hg];exact Nat.ne_of_gt (blk_lt (g:=gb230) (o:= .cells #[.int .i64 a0_0,.int .i64 a0_1] 125 (0,0)) (by (with_reducible repeat (first|apply bN|apply bd|apply bA));exact BK230.out)):gb232 ≠ gb230));have n8_:=Aside0.mk ((by rw [hg];exact Nat.ne_of_lt (blk_lt (g:=gb231) (o:= .cells #[.int .i64 0,.int .i64 0] 79 (0,0)) (by (with_reducible repeat (first|apply bN|apply bd|apply bA));exact BK231.out)):gb231 ≠ gb232));have n9_:=Aside0.mk ((by rw [hg];exact Nat.ne_of_gt (blk_lt (g:=gb231) (o:= .cells #[.int .i64 0,.int .i64 0] 79 (0,0)) (by (with_reducible repeat (first|apply bN|apply bd|apply bA));exact BK231.out)):gb232 ≠ gb231));clear BK230;clear BK231;clear HB;have BK230:=n0_;have BK231:=n1_;have HB:=n2_;have BK232:=n3_;have GW232:=n4_;have GE232:=n5_;have NB230_232:=n6_;have NB232_230:=n7_;have NB231_232:=n8_;have NB232_231:=n9_;clear n0_ n1_ n2_ n3_ n4_ n5_ n6_ n7_ n8_ n9_;clear hb hbox hg;have hnb5:=NB230_231.out;have hnc5:=NB231_230.out;have hnb6:=NB230_232.out;have hnc6:=NB232_230.out;have hcz7_0:w4.cell? ⟨gb230,0,none⟩=some (.int .i64 a0_0):=(blk_cell BK230.out 0).trans rfl;have hcz7_1:w4.cell? ⟨gb230,1,none⟩=some (.int .i64 a0_1):=(blk_cell BK230.out 1).trans rfl;have hfz7_0:=blk_frozen BK230.out 0;have hfz7_1:=blk_frozen BK230.out 1;have hnb8:=NB232_231.out;have hnc8:=NB231_232.out;have hcz9_0:w4.cell? ⟨gb232,0,none⟩=some (.int .i64 0):=(blk_cell BK232.out 0).trans rfl;have hcz9_1:w4.cell? ⟨gb232,1,none⟩=some (.int .i64 0):=(blk_cell BK232.out 1).trans rfl;have hfz9_0:=blk_frozen BK232.out 0;have hfz9_1:=blk_frozen BK232.out 1;have hcz10_0:w4.cell? ⟨gb231,0,none⟩=some (.int .i64 0):=(blk_cell BK231.out 0).trans rfl;have hcz10_1:w4.cell? ⟨gb231,1,none⟩=some (.int .i64 0):=(blk_cell BK231.out 1).trans rfl;have hfz10_0:=blk_frozen BK231.out 0;have hfz10_1:=blk_frozen BK231.out 1))
  refine bodyPost_ret (results_cell_row rfl _ _ gb231 79 #[.int .i64 a0_0,.int .i64 a0_1] (0,0) _ rfl (by (with_reducible repeat (first|apply bN|apply bd|apply bA));refine blk_put (cs:= #[.int .i64 a0_0,.int .i64 0]) ?_ 1 _ rfl;(with_reducible repeat (first|apply bN|apply bd|apply bA));refine blk_put (cs:= #[.int .i64 0,.int .i64 0]) ?_ 0 _ rfl;(with_reducible repeat (first|apply bN|apply bd|apply bA));refine blk_far ?_ NB231_232.out _;(with_reducible repeat (first|apply bN|apply bd|apply bA));refine blk_far ?_ NB231_232.out _;(with_reducible repeat (first|apply bN|apply bd|apply bA));exact BK231.out) Try.underlying79 rfl (by kernel_rfl)) rfl ?_
  exact ⟨by first|rfl|(simp [errW_none,errW_some] <;> rfl)|(simp [*,errW_none,errW_some] <;> rfl),by repeat (first|(with_reducible first|exact HB.out|apply bwA|apply bwN|apply bwD|refine bwS ?_ GE230.out|refine bwS ?_ GE231.out|refine bwS ?_ GE232.out)|exact HB.out)⟩
def laws_toExtS.l0:Nat → List (S125) → List (S79) → Int → Option ((List (S79)))
  |0,_,_,_=> none
  |k + 1,x0,x3,x4=> if x4 < (x0.length:Int) then (if 0 ≤ x4 then ((laws_toExt.f ((rd_T125 x0 x4).f0) ((rd_T125 x0 x4).f1)).bind fun bt237=> (if x4 < (x3.length:Int) then (laws_toExtS.l0 k x0 (x3.set (x4:Int).toNat (⟨bt237.1,bt237.2⟩:S79)) (wrap64 (x4 + 1))) else (none))) else (none)) else (some x3)
def laws_toExtS.f (k:Nat) (l0:List (S125)):Option ((List (S79))):=if 0 ≤ (l0.length:Int) then (if ((l0.length:Int):Int).toNat ≤ 17592186044416 then (laws_toExtS.l0 k l0 (List.replicate ((l0.length:Int):Int).toNat z79) 0) else (none)) else (none)
theorem laws_toExtS.mono_l:∀ k,(∀ y0 y1 y2,LeO (laws_toExtS.l0 k y0 y1 y2) (laws_toExtS.l0 (k + 1) y0 y1 y2))
  |0=> fun _ _ _ r h=> by simp [laws_toExtS.l0] at h
  |k + 1=> by
    have ih0:=laws_toExtS.mono_l k
    · intro y0 y1 y2
      unfold laws_toExtS.l0
      repeat' first
      |(with_reducible exact ih0 _ _ _)
      |(with_reducible exact LeO.refl _)
      |(with_reducible exact LeO.none _)
      |(with_reducible refine LeO.ite ?_ ?_)
      |(with_reducible refine LeO.bind ?_ (fun _=> ?_))
      |exact ih0 _ _ _
      |exact LeO.none _
      |refine LeO.ite ?_ ?_
      |refine LeO.bind ?_ (fun _=> ?_)
theorem laws_toExtS.mono:∀ a0 k,LeO (laws_toExtS.f k a0) (laws_toExtS.f (k + 1) a0):=by
  intro a0 k
  have ih0:=laws_toExtS.mono_l k
  unfold laws_toExtS.f
  repeat' first
      |(with_reducible exact ih0 _ _ _)
      |(with_reducible exact LeO.refl _)
      |(with_reducible exact LeO.none _)
      |(with_reducible refine LeO.ite ?_ ?_)
      |(with_reducible refine LeO.bind ?_ (fun _=> ?_))
      |exact ih0 _ _ _
      |exact LeO.none _
      |refine LeO.ite ?_ ?_
      |refine LeO.bind ?_ (fun _=> ?_)
set_option maxHeartbeats 8000000 in
set_option maxRecDepth 100000 in
theorem laws_toExtS.calls (k:Nat) (A0:Option Addr) (c0:Nat) (l0:List (S125)) (r:List (S79)) (w:World) (hr0:Kd.C k125 w A0 l0.length l0) (hc0:l0.length ≤ c0) (h:laws_toExtS.f k l0=some r):
    Calls Try.prog 61 #[.slice A0 l0.length c0] w fun e w'=> ∃ v0_:Value,e= .returned (v0_) ∧ Kd.R k79 79 w' w.heap.size (fun _=> True) v0_ r ∧ Below w.heap.size w w':=by
  have hu125:=Try.underlying125
  have hu79:=Try.underlying79
  have HR0:=Aside0.mk hr0
  have HC0:=Aside0.mk hc0
  clear hr0 hc0
  have HB:=Aside0.mk (Below.refl w.heap.size w)
  have H:(if 0 ≤ (l0.length:Int) then (if ((l0.length:Int):Int).toNat ≤ 17592186044416 then (laws_toExtS.l0 k l0 (List.replicate ((l0.length:Int):Int).toNat z79) 0) else (none)) else (none))=some r:=h
  clear h
  by_cases c2:0 ≤ (l0.length:Int)
  · rw [if_pos c2] at H
    have c2b0:=eq_true c2
    have c2b1:decide (0 ≤ (l0.length:Int))=true:=decide_eq_true c2
    clear c2
    by_cases c3:((l0.length:Int):Int).toNat ≤ 17592186044416
    · rw [if_pos c3] at H
      have c3b0:=eq_true c3
      have c3b1:decide (((l0.length:Int):Int).toNat ≤ 17592186044416)=true:=decide_eq_true c3
      clear c3
      obtain ⟨y233,hy233⟩:∃ y_:List (S79),y_=(List.replicate ((l0.length:Int):Int).toNat z79):=⟨_,rfl⟩
      replace H:(laws_toExtS.l0 k l0 y233 0)=some r:=by first|(rw [hy233];with_reducible exact H)|(have H2_:=(Option.bind_some _ _).symm.trans H;rw [hy233];with_reducible exact H2_)|(have H2_:=(Option.bind_some _ _).symm.trans H;with_reducible exact H2_)|with_reducible exact H|(rw [hy233];exact H)|exact H
      have Ny233:=Aside0.mk hy233
      clear hy233
      have H':=Aside0.mk H
      clear H
      go_enter Try.func61,Try.ntmps61
      go_wp2_with (first|((with_reducible refine gate_dst (N:=7) rfl ?_);refine Kd.R_make k79 _ 79 rfl (N:=7) rfl 34 _ _ rfl (l0.length:Int) rfl rfl Try.underlying34 (.agg #[(.int .i64 0),(.int .i64 0)]) 16 info79 rfl (by decide) (by omega) z79 (ok:=fun _=> True) (okp:=fun _=> True) (k79_mkM _ _ _ z79) (fun _ hk=> hk) trivial (of_decide_eq_true (by first|(with_reducible assumption)|assumption)) (Nat.le_trans (Nat.mul_le_mul_right _ (of_decide_eq_true (by first|(with_reducible assumption)|assumption):(l0.length:Int).toNat ≤ 17592186044416)) (by omega)) (Below.refl _ _) (Nat.le_refl _) ?_;intro v234 w4 ho5 hb hg_ hnew_;clear hg_ hnew_;(first|rw [← Ny233.out] at ho5|(simp only [Int.reduceToNat] at ho5;rw [← Ny233.out] at ho5));have n0_:=Aside0.mk (Kd.R_lower ho5 (below_size (by repeat (first|(with_reducible first|exact HB.out|apply bwA|apply bwN|apply bwD)|exact HB.out))));have n1_:=Aside0.mk (below_step (by repeat (first|(with_reducible first|exact HB.out|apply bwA|apply bwN|apply bwD)|exact HB.out)) hb);clear HB;have HO235:=n0_;have HB:=n1_;clear n0_ n1_;clear hb ho5))
      go_loopg [4] k (fun kq v4 w'=> ∃ (x3_1:List (S79)) (x4_1:Int),v4= .int .i64 x4_1 ∧ Aside0 (laws_toExtS.l0 kq l0 x3_1 x4_1=some r) ∧ Aside0 (kq ≤ k) ∧ Aside0 (Kd.R k79 79 w' w.heap.size (fun _=> True) v234 x3_1) ∧ Aside0 (Below w.heap.size w w'))
      case atStart=> exact ⟨(y233),(0),(by first|rfl|(simp;done)|(simp [*];done)),H',⟨Nat.le_refl _⟩,⟨by (with_reducible repeat (first|apply Kd.R_alloc|apply Kd.R_drewN|apply Kd.R_drew));exact HO235.out⟩,⟨by repeat (first|(with_reducible first|exact HB.out|apply bwA|apply bwN|apply bwD)|exact HB.out)⟩⟩
      case round=>
        clear H'
        try clear c2
        try clear c2b0
        try clear c2b1
        try clear p2
        try clear c3
        try clear c3b0
        try clear c3b1
        obtain ⟨x3_1,x4_1,rfl,HA,HK1,HO_3,HB⟩:=hrel
        cases gk with
        |zero=> exact absurd HA.out (by simp [laws_toExtS.l0])
        |succ k1=>
          have H:=HA.out
          clear HA
          simp only [laws_toExtS.l0] at H
          by_cases c6:x4_1 < (l0.length:Int)
          · rw [if_pos c6] at H
            have c6b0:decide (x4_1 < (l0.length:Int))=true:=decide_eq_true c6
            clear c6
            by_cases c7:0 ≤ x4_1
            · rw [if_pos c7] at H
              have c7b0:decide (0 ≤ x4_1)=true:=decide_eq_true c7
              clear c7
              replace H:=Option.bind_eq_some_iff.mp H
              obtain ⟨⟨t237,t238⟩,A80,H⟩:=H
              replace H:(if x4_1 < (x3_1.length:Int) then (laws_toExtS.l0 k1 l0 (x3_1.set (x4_1:Int).toNat (⟨t237,t238⟩:S79)) (wrap64 (x4_1 + 1))) else (none))=some r:=H
              have A8:=Aside0.mk A80
              clear A80
              by_cases c9:x4_1 < (x3_1.length:Int)
              · rw [if_pos c9] at H
                have c9b0:decide (x4_1 < (x3_1.length:Int))=true:=decide_eq_true c9
                clear c9
                obtain ⟨y239,hy239⟩:∃ y_:List (S79),y_=(x3_1.set (x4_1:Int).toNat (⟨t237,t238⟩:S79)):=⟨_,rfl⟩
                replace H:(laws_toExtS.l0 k1 l0 y239 (wrap64 (x4_1 + 1)))=some r:=by first|(rw [hy239];with_reducible exact H)|(have H2_:=(Option.bind_some _ _).symm.trans H;rw [hy239];with_reducible exact H2_)|(have H2_:=(Option.bind_some _ _).symm.trans H;with_reducible exact H2_)|with_reducible exact H|(rw [hy239];exact H)|exact H
                have Ny239:=Aside0.mk hy239
                clear hy239
                have H':=Aside0.mk H
                clear H
                have p236:0 ≤ (x4_1:Int):=of_decide_eq_true (by first|(with_reducible assumption)|assumption)
                have q236:x4_1 < (l0.length:Int):=of_decide_eq_true (by first|(with_reducible assumption)|assumption)
                obtain ⟨ad236,e236,hx236_0,hx236_1⟩:=at_T125 HR0.out x4_1 p236 q236
                cases e236
                replace hx236_0:=(HB.out.cell (World.block_lt_of_cell? w _ hx236_0)).trans hx236_0
                replace hx236_1:=(HB.out.cell (World.block_lt_of_cell? w _ hx236_1)).trans hx236_1
                replace p236:=eq_true p236
                replace q236:=eq_true q236
                go_wp2_with (first|((with_reducible refine gate_callee (f:=121) rfl ?_);refine goesL_ (some 20) rfl rfl Try.func121 (by kernel_rfl) rfl #[.agg #[.int .i64 ((rd_T125 l0 x4_1).f0),.int .i64 ((rd_T125 l0 x4_1).f1)]] rfl (by (try simp only [List.map_toArray,List.map_cons,List.map_nil]);first|done|rfl|(simp only [List.length_drop,List.length_take];rfl)) ?_;(with_reducible refine (laws_toExt.calls ((rd_T125 l0 x4_1).f0) ((rd_T125 l0 x4_1).f1) t237 t238 _ A8.out).mono ?_);rintro e w11 ⟨rfl,hb⟩;refine ⟨_,rfl,?_⟩;have n0_:=Aside0.mk (Kd.R_below (by (with_reducible repeat (first|apply Kd.R_alloc|apply Kd.R_drewN|apply Kd.R_drew));exact HO_3.out) hb);have n1_:=Aside0.mk (below_step (by repeat (first|(with_reducible first|exact HB.out|apply bwA|apply bwN|apply bwD)|exact HB.out)) hb);clear HO_3;clear HB;have HO_3:=n0_;have HB:=n1_;clear n0_ n1_;(try clear hb);(try clear hb2);(try clear hk);(try clear hi);have p10:0 ≤ (x4_1:Int):=of_decide_eq_true (by first|(with_reducible assumption)|assumption);have q10:(x4_1:Int) < ((x3_1.length:Int):Int):=of_decide_eq_true (by first|(with_reducible assumption)|assumption);obtain ⟨go10,co10,eo10,gb10,gl10,cl10,HG10⟩:=Kd.R_form HO_3.out (by omega);(first|cases eo10|(injection eo10 with ea_ en_ ec_;(first|subst ea_|(injection ea_ with ea_;subst ea_));subst ec_;clear en_));have GB10:=Aside0.mk gb10;have GG10:=Aside0.mk HG10;clear gb10 gl10 HG10;obtain ⟨ce10,hcl10,hM10,hcc10,hfr10⟩:=Kd.R_elem HO_3.out z79 (x4_1:Int) p10 q10;obtain rfl:=k79_openM hM10;have hx10_0:w11.cell? ⟨go10,(x4_1:Int).toNat * 2,none⟩=some (.int .i64 ((rd_T79 x3_1 x4_1).f0)):=hcc10 0 _ rfl;have hx10_1:w11.cell? ⟨go10,(x4_1:Int).toNat * 2 + 1,none⟩=some (.int .i64 ((rd_T79 x3_1 x4_1).f1)):=hcc10 1 _ rfl;have hf10_0:w11.frozen? ⟨go10,(x4_1:Int).toNat * 2,none⟩=false:=hfr10 0;have hf10_1:w11.frozen? ⟨go10,(x4_1:Int).toNat * 2 + 1,none⟩=false:=hfr10 1;clear hcl10 hcc10 hfr10 hM10;replace p10:=eq_true p10;replace q10:=eq_true q10;have HX12:=Aside0.mk (show Kd.R k79 79 w11 w.heap.size (fun _=> True) (.slice (some ⟨go10,0,none⟩) x3_1.length co10) x3_1 from (by (with_reducible repeat (first|apply Kd.R_alloc|apply Kd.R_drewN|apply Kd.R_drew));exact HO_3.out));obtain ⟨ce12,hcl12,hM12,hcc12,hfr12⟩:=Kd.R_elem HX12.out z79 (x4_1:Int) (of_decide_eq_true (by first|(with_reducible assumption)|assumption)) (by have h_:(x4_1:Int) < ((x3_1.length:Int):Int):=of_decide_eq_true (by first|(with_reducible assumption)|assumption);first|exact h_|(have e_:=(Kd.R_reads' HO_3.out).1;omega)|simpa using h_);obtain rfl:=k79_openM hM12;have HP12:=Kd.R_seg HX12.out (x4_1:Int) (of_decide_eq_true (by first|(with_reducible assumption)|assumption)) (by have h_:(x4_1:Int) < ((x3_1.length:Int):Int):=of_decide_eq_true (by first|(with_reducible assumption)|assumption);first|exact h_|(have e_:=(Kd.R_reads' HO_3.out).1;omega)|simpa using h_) (seg:= [.int .i64 t237,.int .i64 t238]) (j:=0) hcl12 hcc12 (show 2 ≤ 2 from by decide) (x':=(⟨t237,t238⟩:S79)) (k79_mkM _ _ _ (⟨t237,t238⟩:S79)) (fun _ hk=> hk);have hx12_0:=hcc12 0 _ rfl;(try simp only [show (k79).sz=2 from rfl,Nat.mul_one,Nat.add_zero] at hx12_0);have hf12_0:=hfr12 0;(try simp only [show (k79).sz=2 from rfl,Nat.mul_one,Nat.add_zero] at hf12_0);have hx12_1:=hcc12 1 _ rfl;(try simp only [show (k79).sz=2 from rfl,Nat.mul_one,Nat.add_zero] at hx12_1);have hf12_1:=hfr12 1;(try simp only [show (k79).sz=2 from rfl,Nat.mul_one,Nat.add_zero] at hf12_1);clear hcl12 hcc12 hfr12 hM12)|((with_reducible refine gate_store (t:=79) (p:=21) rfl ?_);refine store_event (t:=79) (p:=21) (v:=?vo_w13) (w1:=((w11.setCell ⟨go10,(x4_1:Int).toNat * 2,none⟩ (.int .i64 t237)).setCell ⟨go10,(x4_1:Int).toNat * 2 + 1,none⟩ (.int .i64 t238))) ?hg ?ho ?hn ?hr ?_;(case ho=> rfl);(case hg=> rfl);(case hn=> rfl);(case hr=> first|(go_simp;done)|(go_simp;rfl));intro w13 hw;have hg:w11.grownBy w13 (some go10):=(by rw [hw];exact HP12.2);have hp_:Kd.R k79 79 w13 w.heap.size (fun _=> True) (.slice (some ⟨go10,0,none⟩) x3_1.length co10) y239:=(by rw [hw,Ny239.out];exact HP12.1);clear HP12;have n0_:=Aside0.mk (hp_);have n1_:=Aside0.mk ((by rw [hw];exact bwS (bwS (HB.out) GB10.out) GB10.out:Below w.heap.size w w13));clear HO_3;clear HB;have HO_3:=n0_;have HB:=n1_;clear n0_ n1_;clear hg hw hp_))
                go_roundg k1
                case measure=> have:=HK1.out;omega
                case rel=> exact ⟨(y239),(wrap64 (x4_1 + 1)),(by first|rfl|(simp;done)|(simp [*];done)),H',⟨by have:=HK1.out;omega⟩,⟨by (with_reducible repeat (first|apply Kd.R_alloc|apply Kd.R_drewN|apply Kd.R_drew));exact HO_3.out⟩,⟨by repeat (first|(with_reducible first|exact HB.out|apply bwA|apply bwN|apply bwD)|exact HB.out)⟩⟩
              · rw [if_neg c9] at H
                exact absurd H (by simp)
            · rw [if_neg c7] at H
              exact absurd H (by simp)
          · rw [if_neg c6] at H
            have c6b0:decide (x4_1 < (l0.length:Int))=false:=decide_eq_false c6
            clear c6
            obtain rfl:=Option.some.inj H
            go_wp2
            go_ret
            exact ⟨_,by first|rfl|(simp [errW_none,errW_some] <;> rfl)|(simp [*,errW_none,errW_some] <;> rfl),by (with_reducible repeat (first|apply Kd.R_alloc|apply Kd.R_drewN|apply Kd.R_drew));exact HO_3.out,by repeat (first|(with_reducible first|exact HB.out|apply bwA|apply bwN|apply bwD)|exact HB.out)⟩
    · rw [if_neg c3] at H
      exact absurd H (by simp)
  · rw [if_neg c2] at H
    exact absurd H (by simp)
def laws_toSource.f (k:Nat) (l0_0:List (S125)) (a0_1:Int) (a0_2:ByteArray) (a0_3:Int):Option ((List (S79)) × Int × ByteArray × Int):=(laws_toExtS.f k l0_0).bind fun t324=> (some (t324,a0_1,a0_2,a0_3))
theorem laws_toSource.mono:∀ a0 a1 a2 a3 k,LeO (laws_toSource.f k a0 a1 a2 a3) (laws_toSource.f (k + 1) a0 a1 a2 a3):=by
  intro a0 a1 a2 a3 k
  unfold laws_toSource.f
  repeat' first
      |(with_reducible exact laws_toExtS.mono _ _)
      |(with_reducible exact LeO.refl _)
      |(with_reducible exact LeO.none _)
      |(with_reducible refine LeO.ite ?_ ?_)
      |(with_reducible refine LeO.bind ?_ (fun _=> ?_))
      |exact laws_toExtS.mono _ _
      |exact LeO.none _
      |refine LeO.ite ?_ ?_
      |refine LeO.bind ?_ (fun _=> ?_)
set_option maxHeartbeats 8000000 in
set_option maxRecDepth 100000 in
theorem laws_toSource.calls (k:Nat) (A0_0:Option Addr) (c0_0:Nat) (l0_0:List (S125)) (a0_1:Int) (a0_2:ByteArray) (a0_3:Int) (r1:List (S79)) (r2:Int) (r3:ByteArray) (r4:Int) (w:World) (hr0_0:Kd.C k125 w A0_0 l0_0.length l0_0) (hc0_0:l0_0.length ≤ c0_0) (h:laws_toSource.f k l0_0 a0_1 a0_2 a0_3=some (r1,r2,r3,r4)):
    Calls Try.prog 55 #[.agg #[.slice A0_0 l0_0.length c0_0,.int .i64 a0_1,.string a0_2,.int .i64 a0_3]] w fun e w'=> ∃ v0_:Value,e= .returned (.agg #[v0_,.int .i64 r2,.string r3,.int .i64 r4]) ∧ Kd.R k79 79 w' w.heap.size (fun _=> True) v0_ r1 ∧ Below w.heap.size w w':=by
  have hu61:=Try.underlying61
  have hu36:=Try.underlying36
  have HR0_0:=Aside0.mk hr0_0
  have HC0_0:=Aside0.mk hc0_0
  clear hr0_0 hc0_0
  have HB:=Aside0.mk (Below.refl w.heap.size w)
  have H:((laws_toExtS.f k l0_0).bind fun t324=> (some (t324,a0_1,a0_2,a0_3)))=some (r1,r2,r3,r4):=h
  clear h
  replace H:=Option.bind_eq_some_iff.mp H
  obtain ⟨t324,A20,H⟩:=H
  replace H:(some (t324,a0_1,a0_2,a0_3))=some (r1,r2,r3,r4):=H
  have A2:=Aside0.mk A20
  clear A20
  simp only [Option.some.injEq,Prod.mk.injEq] at H
  obtain ⟨rfl,rfl,rfl,rfl⟩:=H
  go_enter Try.func55,Try.ntmps55
  go_wp2_with (first|((with_reducible refine gate_dst (N:=1) rfl ?_);refine box_event ?hg (N:=1) ?hd (cs:= #[.slice A0_0 l0_0.length c0_0,.int .i64 a0_1,.string a0_2,.int .i64 a0_3]) (t:=61) ?hr ?_;(case hd=> rfl);(case hg=> rfl);(case hr=> first|(go_simp;done)|(go_simp;rfl));intro gb321 hg w3 hbox hb;have n0_:=Aside0.mk (below_step (by repeat (first|(with_reducible first|exact HB.out|apply bwA|apply bwN|apply bwD)|exact HB.out)) hb);have n1_:=Aside0.mk (hbox);have n2_:=Aside0.mk ((by rw [hg];exact (below_size (by repeat (first|(with_reducible first|exact HB.out|apply bwA|apply bwN|apply bwD)|exact HB.out))):w.heap.size ≤ gb321));have n3_:=Aside0.mk ((by rw [hg];exact (below_size (by repeat (first|(with_reducible first|exact HB.out|apply bwA|apply bwN|apply bwD)|exact HB.out))):w.heap.size ≤ gb321));clear HB;have HB:=n0_;have BK321:=n1_;have GW321:=n2_;have GE321:=n3_;clear n0_ n1_ n2_ n3_;clear hb hbox hg)|((with_reducible refine gate_dst (N:=2) rfl ?_);refine box_event ?hg (N:=2) ?hd (cs:= #[.slice none 0 0,.int .i64 0,.string (⟨#[]⟩:ByteArray),.int .i64 0]) (t:=36) ?hr ?_;(case hd=> rfl);(case hg=> rfl);(case hr=> first|(go_simp;done)|(go_simp;rfl));intro gb322 hg w4 hbox hb;have n0_:=Aside0.mk (blk_below (g:=gb321) (o:= .cells #[.slice A0_0 l0_0.length c0_0,.int .i64 a0_1,.string a0_2,.int .i64 a0_3] 61 (0,0)) (by (with_reducible repeat (first|apply bN|apply bd|apply bA));exact BK321.out) hb);have n1_:=Aside0.mk (below_step (by repeat (first|(with_reducible first|exact HB.out|apply bwA|apply bwN|apply bwD|refine bwS ?_ GE321.out)|exact HB.out)) hb);have n2_:=Aside0.mk (hbox);have n3_:=Aside0.mk ((by rw [hg];exact (below_size (by repeat (first|(with_reducible first|exact HB.out|apply bwA|apply bwN|apply bwD|refine bwS ?_ GE321.out)|exact HB.out))):w.heap.size ≤ gb322));have n4_:=Aside0.mk ((by rw [hg];exact (below_size (by repeat (first|(with_reducible first|exact HB.out|apply bwA|apply bwN|apply bwD|refine bwS ?_ GE321.out)|exact HB.out))):w.heap.size ≤ gb322));have n5_:=Aside0.mk ((by rw [hg];exact Nat.ne_of_lt (blk_lt (g:=gb321) (o:= .cells #[.slice A0_0 l0_0.length c0_0,.int .i64 a0_1,.string a0_2,.int .i64 a0_3] 61 (0,0)) (by (with_reducible repeat (first|apply bN|apply bd|apply bA));exact BK321.out)):gb321 ≠ gb322));have n6_:=Aside0.mk ((by rw [hg];exact Nat.ne_of_gt (blk_lt (g:=gb321) (o:= .cells #[.slice A0_0 l0_0.length c0_0,.int .i64 a0_1,.string a0_2,.int .i64 a0_3] 61 (0,0)) (by (with_reducible repeat (first|apply bN|apply bd|apply bA));exact BK321.out)):gb322 ≠ gb321));clear BK321;clear HB;have BK321:=n0_;have HB:=n1_;have BK322:=n2_;have GW322:=n3_;have GE322:=n4_;have NB321_322:=n5_;have NB322_321:=n6_;clear n0_ n1_ n2_ n3_ n4_ n5_ n6_;clear hb hbox hg)|((with_reducible refine gate_dst (N:=3) rfl ?_);refine box_event ?hg (N:=3) ?hd (cs:= #[.slice none 0 0,.int .i64 0,.string (⟨#[]⟩:ByteArray),.int .i64 0]) (t:=36) ?hr ?_;(case hd=> rfl);(case hg=> rfl);(case hr=> first|(go_simp;done)|(go_simp;rfl));intro gb323 hg w5 hbox hb;have n0_:=Aside0.mk (blk_below (g:=gb321) (o:= .cells #[.slice A0_0 l0_0.length c0_0,.int .i64 a0_1,.string a0_2,.int .i64 a0_3] 61 (0,0)) (by (with_reducible repeat (first|apply bN|apply bd|apply bA));exact BK321.out) hb);have n1_:=Aside0.mk (blk_below (g:=gb322) (o:= .cells #[.slice none 0 0,.int .i64 0,.string (⟨#[]⟩:ByteArray),.int .i64 0] 36 (0,0)) (by (with_reducible repeat (first|apply bN|apply bd|apply bA));exact BK322.out) hb);have n2_:=Aside0.mk (below_step (by repeat (first|(with_reducible first|exact HB.out|apply bwA|apply bwN|apply bwD|refine bwS ?_ GE321.out|refine bwS ?_ GE322.out)|exact HB.out)) hb);have n3_:=Aside0.mk (hbox);have n4_:=Aside0.mk ((by rw [hg];exact (below_size (by repeat (first|(with_reducible first|exact HB.out|apply bwA|apply bwN|apply bwD|refine bwS ?_ GE321.out|refine bwS ?_ GE322.out)|exact HB.out))):w.heap.size ≤ gb323));have n5_:=Aside0.mk ((by rw [hg];exact (below_size (by repeat (first|(with_reducible first|exact HB.out|apply bwA|apply bwN|apply bwD|refine bwS ?_ GE321.out|refine bwS ?_ GE322.out)|exact HB.out))):w.heap.size ≤ gb323));have n6_:=Aside0.mk ((by rw [hg];exact Nat.ne_of_lt (blk_lt (g:=gb321) (o:= .cells #[.slice A0_0 l0_0.length c0_0,.int .i64 a0_1,.string a0_2,.int .i64 a0_3] 61 (0,0)) (by (with_reducible repeat (first|apply bN|apply bd|apply bA));exact BK321.out)):gb321 ≠ gb323));have n7_:=Aside0.mk ((by rw [hg];exact Nat.ne_of_gt (blk_lt (g:=gb321) (o:= .cells #[.slice A0_0 l0_0.length c0_0,.int .i64 a0_1,.string a0_2,.int .i64 a0_3] 61 (0,0)) (by (with_reducible repeat (first|apply bN|apply bd|apply bA));exact BK321.out)):gb323 ≠ gb321));have n8_:=Aside0.mk ((by rw [hg];exact Nat.ne_of_lt (blk_lt (g:=gb322) (o:= .cells #[.slice none 0 0,.int .i64 0,.string (⟨#[]⟩:ByteArray),.int .i64 0] 36 (0,0)) (by (with_reducible repeat (first|apply bN|apply bd|apply bA));exact BK322.out)):gb322 ≠ gb323));have n9_:=Aside0.mk ((by rw [hg];exact Nat.ne_of_gt (blk_lt (g:=gb322) (o:= .cells #[.slice none 0 0,.int .i64 0,.string (⟨#[]⟩:ByteArray),.int .i64 0] 36 (0,0)) (by (with_reducible repeat (first|apply bN|apply bd|apply bA));exact BK322.out)):gb323 ≠ gb322));clear BK321;clear BK322;clear HB;have BK321:=n0_;have BK322:=n1_;have HB:=n2_;have BK323:=n3_;have GW323:=n4_;have GE323:=n5_;have NB321_323:=n6_;have NB323_321:=n7_;have NB322_323:=n8_;have NB323_322:=n9_;clear n0_ n1_ n2_ n3_ n4_ n5_ n6_ n7_ n8_ n9_;clear hb hbox hg;have hnb6:=NB321_322.out;have hnc6:=NB322_321.out;have hnb7:=NB321_323.out;have hnc7:=NB323_321.out;have hcz8_0:w5.cell? ⟨gb321,0,none⟩=some (.slice A0_0 l0_0.length c0_0):=(blk_cell BK321.out 0).trans rfl;have hcz8_1:w5.cell? ⟨gb321,1,none⟩=some (.int .i64 a0_1):=(blk_cell BK321.out 1).trans rfl;have hcz8_2:w5.cell? ⟨gb321,2,none⟩=some (.string a0_2):=(blk_cell BK321.out 2).trans rfl;have hcz8_3:w5.cell? ⟨gb321,3,none⟩=some (.int .i64 a0_3):=(blk_cell BK321.out 3).trans rfl;have hfz8_0:=blk_frozen BK321.out 0;have hfz8_1:=blk_frozen BK321.out 1;have hfz8_2:=blk_frozen BK321.out 2;have hfz8_3:=blk_frozen BK321.out 3)|((with_reducible refine gate_callee (f:=61) rfl ?_);refine goesL_ (some 6) rfl rfl Try.func61 (by kernel_rfl) rfl #[.slice A0_0 l0_0.length c0_0] rfl (by (try simp only [List.map_toArray,List.map_cons,List.map_nil]);first|done|rfl|(simp only [List.length_drop,List.length_take];rfl)) ?_;(with_reducible refine (laws_toExtS.calls k _ _ l0_0 t324 _ ?side1 ?side2 A2.out).mono ?_);(case side1=> repeat (first|exact (Kd.C_below HR0_0.out HB.out)|(with_reducible refine Kd.C_alloc ?_ _)|(with_reducible refine Kd.C_drewN ?_ _)|(with_reducible refine Kd.C_drew ?_)));(case side2=> exact HC0_0.out);rintro e w9 ⟨v325,rfl,ho0,hb⟩;refine ⟨_,rfl,?_⟩;have n0_:=Aside0.mk (Kd.R_lower ho0 (below_size (by repeat (first|(with_reducible first|exact HB.out|apply bwA|apply bwN|apply bwD|refine bwS ?_ GE321.out|refine bwS ?_ GE322.out|refine bwS ?_ GE323.out)|exact HB.out))));have n1_:=Aside0.mk (blk_below (g:=gb321) (o:= .cells #[.slice A0_0 l0_0.length c0_0,.int .i64 a0_1,.string a0_2,.int .i64 a0_3] 61 (0,0)) (by (with_reducible repeat (first|apply bN|apply bd|apply bA));exact BK321.out) hb);have n2_:=Aside0.mk (blk_below (g:=gb322) (o:= .cells #[.slice none 0 0,.int .i64 0,.string (⟨#[]⟩:ByteArray),.int .i64 0] 36 (0,0)) (by (with_reducible repeat (first|apply bN|apply bd|apply bA));exact BK322.out) hb);have n3_:=Aside0.mk (blk_below (g:=gb323) (o:= .cells #[.slice none 0 0,.int .i64 0,.string (⟨#[]⟩:ByteArray),.int .i64 0] 36 (0,0)) (by (with_reducible repeat (first|apply bN|apply bd|apply bA));exact BK323.out) hb);have n4_:=Aside0.mk (below_step (by repeat (first|(with_reducible first|exact HB.out|apply bwA|apply bwN|apply bwD|refine bwS ?_ GE321.out|refine bwS ?_ GE322.out|refine bwS ?_ GE323.out)|exact HB.out)) hb);clear BK321;clear BK322;clear BK323;clear HB;have HO326:=n0_;have BK321:=n1_;have BK322:=n2_;have BK323:=n3_;have HB:=n4_;clear n0_ n1_ n2_ n3_ n4_;(try clear hb);(try clear hb2);(try clear hk);(try clear hi);(try clear ho0);obtain ⟨Ao10,co10,eo10⟩:=Kd.R_slice HO326.out;subst eo10;have hnb11:=NB323_322.out;have hnc11:=NB322_323.out;have hcz12_0:w9.cell? ⟨gb323,0,none⟩=some (.slice none 0 0):=(blk_cell BK323.out 0).trans rfl;have hcz12_1:w9.cell? ⟨gb323,1,none⟩=some (.int .i64 0):=(blk_cell BK323.out 1).trans rfl;have hcz12_2:w9.cell? ⟨gb323,2,none⟩=some (.string (⟨#[]⟩:ByteArray)):=(blk_cell BK323.out 2).trans rfl;have hcz12_3:w9.cell? ⟨gb323,3,none⟩=some (.int .i64 0):=(blk_cell BK323.out 3).trans rfl;have hfz12_0:=blk_frozen BK323.out 0;have hfz12_1:=blk_frozen BK323.out 1;have hfz12_2:=blk_frozen BK323.out 2;have hfz12_3:=blk_frozen BK323.out 3;have hcz13_0:w9.cell? ⟨gb321,0,none⟩=some (.slice A0_0 l0_0.length c0_0):=(blk_cell BK321.out 0).trans rfl;have hcz13_1:w9.cell? ⟨gb321,1,none⟩=some (.int .i64 a0_1):=(blk_cell BK321.out 1).trans rfl;have hcz13_2:w9.cell? ⟨gb321,2,none⟩=some (.string a0_2):=(blk_cell BK321.out 2).trans rfl;have hcz13_3:w9.cell? ⟨gb321,3,none⟩=some (.int .i64 a0_3):=(blk_cell BK321.out 3).trans rfl;have hfz13_0:=blk_frozen BK321.out 0;have hfz13_1:=blk_frozen BK321.out 1;have hfz13_2:=blk_frozen BK321.out 2;have hfz13_3:=blk_frozen BK321.out 3;have hcz14_0:w9.cell? ⟨gb322,0,none⟩=some (.slice none 0 0):=(blk_cell BK322.out 0).trans rfl;have hcz14_1:w9.cell? ⟨gb322,1,none⟩=some (.int .i64 0):=(blk_cell BK322.out 1).trans rfl;have hcz14_2:w9.cell? ⟨gb322,2,none⟩=some (.string (⟨#[]⟩:ByteArray)):=(blk_cell BK322.out 2).trans rfl;have hcz14_3:w9.cell? ⟨gb322,3,none⟩=some (.int .i64 0):=(blk_cell BK322.out 3).trans rfl;have hfz14_0:=blk_frozen BK322.out 0;have hfz14_1:=blk_frozen BK322.out 1;have hfz14_2:=blk_frozen BK322.out 2;have hfz14_3:=blk_frozen BK322.out 3))
  refine bodyPost_ret (results_cell_row rfl _ _ gb322 36 #[.slice Ao10 t324.length co10,.int .i64 a0_1,.string a0_2,.int .i64 a0_3] (0,0) _ rfl (by (with_reducible repeat (first|apply bN|apply bd|apply bA));refine blk_put (cs:= #[.slice Ao10 t324.length co10,.int .i64 a0_1,.string a0_2,.int .i64 0]) ?_ 3 _ rfl;(with_reducible repeat (first|apply bN|apply bd|apply bA));refine blk_put (cs:= #[.slice Ao10 t324.length co10,.int .i64 a0_1,.string (⟨#[]⟩:ByteArray),.int .i64 0]) ?_ 2 _ rfl;(with_reducible repeat (first|apply bN|apply bd|apply bA));refine blk_put (cs:= #[.slice Ao10 t324.length co10,.int .i64 0,.string (⟨#[]⟩:ByteArray),.int .i64 0]) ?_ 1 _ rfl;(with_reducible repeat (first|apply bN|apply bd|apply bA));refine blk_put (cs:= #[.slice none 0 0,.int .i64 0,.string (⟨#[]⟩:ByteArray),.int .i64 0]) ?_ 0 _ rfl;(with_reducible repeat (first|apply bN|apply bd|apply bA));refine blk_far ?_ NB322_323.out _;(with_reducible repeat (first|apply bN|apply bd|apply bA));refine blk_far ?_ NB322_323.out _;(with_reducible repeat (first|apply bN|apply bd|apply bA));refine blk_far ?_ NB322_323.out _;(with_reducible repeat (first|apply bN|apply bd|apply bA));refine blk_far ?_ NB322_323.out _;(with_reducible repeat (first|apply bN|apply bd|apply bA));exact BK322.out) Try.underlying36 rfl (by kernel_rfl)) rfl ?_
  exact ⟨_,by first|rfl|(simp [errW_none,errW_some] <;> rfl)|(simp [*,errW_none,errW_some] <;> rfl),by (with_reducible repeat (first|apply Kd.R_alloc|apply Kd.R_drewN|apply Kd.R_drew));exact Kd.R_mono (Kd.R_far (p:=⟨gb322,3,none⟩) (Kd.R_far (p:=⟨gb322,2,none⟩) (Kd.R_far (p:=⟨gb322,1,none⟩) (Kd.R_far (p:=⟨gb322,0,none⟩) (Kd.R_far (p:=⟨gb323,3,none⟩) (Kd.R_far (p:=⟨gb323,2,none⟩) (Kd.R_far (p:=⟨gb323,1,none⟩) (Kd.R_far (p:=⟨gb323,0,none⟩) (Kd.R_types (Kd.R_types HO326.out BK323.out (by decide)) BK322.out (by decide)) (fun _ hk=> hk.1.2) (.slice Ao10 t324.length co10)) (fun _ hk=> hk.1.2) (.int .i64 a0_1)) (fun _ hk=> hk.1.2) (.string a0_2)) (fun _ hk=> hk.1.2) (.int .i64 a0_3)) (fun _ hk=> hk.2) (.slice Ao10 t324.length co10)) (fun _ hk=> hk.2) (.int .i64 a0_1)) (fun _ hk=> hk.2) (.string a0_2)) (fun _ hk=> hk.2) (.int .i64 a0_3)) (fun _ hk=> trivial),by repeat (first|(with_reducible first|exact HB.out|apply bwA|apply bwN|apply bwD|refine bwS ?_ GE321.out|refine bwS ?_ GE322.out|refine bwS ?_ GE323.out)|exact HB.out)⟩
def spec_l01In.f (a0:Int) (a1:Int) (a2:Int):Option (Bool):=if a1 ≤ a0 then (some (decide (a0 ≤ a2))) else (some false)
set_option maxHeartbeats 8000000 in
set_option maxRecDepth 100000 in
theorem spec_l01In.calls (a0:Int) (a1:Int) (a2:Int) (r:Bool) (w:World) (h:spec_l01In.f a0 a1 a2=some r):
    Calls Try.prog 103 #[.int .i64 a0,.int .i64 a1,.int .i64 a2] w fun e w'=> e= .returned (.bool r) ∧ Drawn0 w w':=by
  have H:(if a1 ≤ a0 then (some (decide (a0 ≤ a2))) else (some false))=some r:=h
  clear h
  by_cases c4:a1 ≤ a0
  · rw [if_pos c4] at H
    have c4b0:decide (a1 ≤ a0)=true:=decide_eq_true c4
    clear c4
    obtain rfl:=Option.some.inj H
    go_enter Try.func103,Try.ntmps103
    go_wp2
    go_ret
    exact ⟨by first|rfl|(simp;done)|(simp [*];done),by repeat (first|exact Drawn0.refl _|apply Drawn0.step)⟩
  · rw [if_neg c4] at H
    have c4b0:decide (a1 ≤ a0)=false:=decide_eq_false c4
    clear c4
    obtain rfl:=Option.some.inj H
    go_enter Try.func103,Try.ntmps103
    go_wp2
    go_ret
    exact ⟨by first|rfl|(simp;done)|(simp [*];done),by repeat (first|exact Drawn0.refl _|apply Drawn0.step)⟩
def spec_FieldOK.f (a0:Int):Option (Bool):=(spec_l01In.f a0 0 2130706432).bind fun t209=> (some t209)
set_option maxHeartbeats 8000000 in
set_option maxRecDepth 100000 in
theorem spec_FieldOK.calls (a0:Int) (r:Bool) (w:World) (h:spec_FieldOK.f a0=some r):
    Calls Try.prog 161 #[.int .i64 a0] w fun e w'=> e= .returned (.bool r) ∧ Drawn0 w w':=by
  have H:((spec_l01In.f a0 0 2130706432).bind fun t209=> (some t209))=some r:=h
  clear h
  replace H:=Option.bind_eq_some_iff.mp H
  obtain ⟨t209,A20,H⟩:=H
  replace H:(some t209)=some r:=H
  have A2:=Aside0.mk A20
  clear A20
  obtain rfl:=Option.some.inj H
  go_enter Try.func161,Try.ntmps161
  go_wp2_with (first|((with_reducible refine gate_callee (f:=103) rfl ?_);refine goesL_ (some 4) rfl rfl Try.func103 (by kernel_rfl) rfl #[.int .i64 a0,.int .i64 0,.int .i64 2130706432] rfl (by (try simp only [List.map_toArray,List.map_cons,List.map_nil]);first|done|rfl|(simp only [List.length_drop,List.length_take];rfl)) ?_;(with_reducible refine (spec_l01In.calls a0 0 2130706432 t209 _ A2.out).mono ?_);rintro e w' ⟨rfl,⟨nd,rfl⟩⟩;refine ⟨_,rfl,?_⟩))
  go_ret
  exact ⟨by first|rfl|(simp;done)|(simp [*];done),by repeat (first|exact Drawn0.refl _|apply Drawn0.step)⟩
def spec_ExtOK.f (a0_0:Int) (a0_1:Int):Option (Bool):=(spec_FieldOK.f a0_0).bind fun t211=> (if t211=true then ((spec_FieldOK.f a0_1).bind fun t212=> (some t212)) else (some false))
set_option maxHeartbeats 8000000 in
set_option maxRecDepth 100000 in
theorem spec_ExtOK.calls (a0_0:Int) (a0_1:Int) (r:Bool) (w:World) (h:spec_ExtOK.f a0_0 a0_1=some r):
    Calls Try.prog 151 #[.agg #[.int .i64 a0_0,.int .i64 a0_1]] w fun e w'=> e= .returned (.bool r) ∧ Below w.heap.size w w':=by
  have hu79:=Try.underlying79
  have HB:=Aside0.mk (Below.refl w.heap.size w)
  have H:((spec_FieldOK.f a0_0).bind fun t211=> (if t211=true then ((spec_FieldOK.f a0_1).bind fun t212=> (some t212)) else (some false)))=some r:=h
  clear h
  replace H:=Option.bind_eq_some_iff.mp H
  obtain ⟨t211,A20,H⟩:=H
  replace H:(if t211=true then ((spec_FieldOK.f a0_1).bind fun t212=> (some t212)) else (some false))=some r:=H
  have A2:=Aside0.mk A20
  clear A20
  by_cases c3:t211=true
  · subst c3
    have H1:((spec_FieldOK.f a0_1).bind fun t212=> (some t212))=some r:=by rw [if_pos rfl] at H;exact H
    clear H
    have H:=H1
    clear H1
    replace H:=Option.bind_eq_some_iff.mp H
    obtain ⟨t212,A40,H⟩:=H
    replace H:(some t212)=some r:=H
    have A4:=Aside0.mk A40
    clear A40
    obtain rfl:=Option.some.inj H
    go_enter Try.func151,Try.ntmps151
    go_wp2_with (first|((with_reducible refine gate_dst (N:=1) rfl ?_);refine box_event ?hg (N:=1) ?hd (cs:= #[.int .i64 a0_0,.int .i64 a0_1]) (t:=79) ?hr ?_;(case hd=> rfl);(case hg=> rfl);(case hr=> first|(go_simp;done)|(go_simp;rfl));intro gb210 hg w5 hbox hb;have n0_:=Aside0.mk (below_step (by repeat (first|(with_reducible first|exact HB.out|apply bwA|apply bwN|apply bwD)|exact HB.out)) hb);have n1_:=Aside0.mk (hbox);have n2_:=Aside0.mk ((by rw [hg];exact (below_size (by repeat (first|(with_reducible first|exact HB.out|apply bwA|apply bwN|apply bwD)|exact HB.out))):w.heap.size ≤ gb210));have n3_:=Aside0.mk ((by rw [hg];exact (below_size (by repeat (first|(with_reducible first|exact HB.out|apply bwA|apply bwN|apply bwD)|exact HB.out))):w.heap.size ≤ gb210));clear HB;have HB:=n0_;have BK210:=n1_;have GW210:=n2_;have GE210:=n3_;clear n0_ n1_ n2_ n3_;clear hb hbox hg;have hcz6_0:w5.cell? ⟨gb210,0,none⟩=some (.int .i64 a0_0):=(blk_cell BK210.out 0).trans rfl;have hcz6_1:w5.cell? ⟨gb210,1,none⟩=some (.int .i64 a0_1):=(blk_cell BK210.out 1).trans rfl;have hfz6_0:=blk_frozen BK210.out 0;have hfz6_1:=blk_frozen BK210.out 1)|((with_reducible refine gate_callee (f:=161) rfl ?_);refine goesL_ (some 5) rfl rfl Try.func161 (by kernel_rfl) rfl #[.int .i64 a0_0] rfl (by (try simp only [List.map_toArray,List.map_cons,List.map_nil]);first|done|rfl|(simp only [List.length_drop,List.length_take];rfl)) ?_;(with_reducible refine (spec_FieldOK.calls a0_0 true _ A2.out).mono ?_);rintro e w' ⟨rfl,⟨nd,rfl⟩⟩;refine ⟨_,rfl,?_⟩)|(go_at_call 161;(with_reducible refine (spec_FieldOK.calls a0_1 t212 _ A4.out).mono ?_);rintro e w' ⟨rfl,⟨nd,rfl⟩⟩))
    go_ret
    exact ⟨by first|rfl|(simp [errW_none,errW_some] <;> rfl)|(simp [*,errW_none,errW_some] <;> rfl),by repeat (first|(with_reducible first|exact HB.out|apply bwA|apply bwN|apply bwD|refine bwS ?_ GE210.out)|exact HB.out)⟩
  · replace c3:=Bool.eq_false_iff.mpr c3
    subst c3
    have H1:(some false)=some r:=by rw [if_neg (show ¬ (false=true) by decide)] at H;exact H
    clear H
    have H:=H1
    clear H1
    obtain rfl:=Option.some.inj H
    go_enter Try.func151,Try.ntmps151
    go_wp2_with (first|((with_reducible refine gate_dst (N:=1) rfl ?_);refine box_event ?hg (N:=1) ?hd (cs:= #[.int .i64 a0_0,.int .i64 a0_1]) (t:=79) ?hr ?_;(case hd=> rfl);(case hg=> rfl);(case hr=> first|(go_simp;done)|(go_simp;rfl));intro gb210 hg w7 hbox hb;have n0_:=Aside0.mk (below_step (by repeat (first|(with_reducible first|exact HB.out|apply bwA|apply bwN|apply bwD)|exact HB.out)) hb);have n1_:=Aside0.mk (hbox);have n2_:=Aside0.mk ((by rw [hg];exact (below_size (by repeat (first|(with_reducible first|exact HB.out|apply bwA|apply bwN|apply bwD)|exact HB.out))):w.heap.size ≤ gb210));have n3_:=Aside0.mk ((by rw [hg];exact (below_size (by repeat (first|(with_reducible first|exact HB.out|apply bwA|apply bwN|apply bwD)|exact HB.out))):w.heap.size ≤ gb210));clear HB;have HB:=n0_;have BK210:=n1_;have GW210:=n2_;have GE210:=n3_;clear n0_ n1_ n2_ n3_;clear hb hbox hg;have hcz8_0:w7.cell? ⟨gb210,0,none⟩=some (.int .i64 a0_0):=(blk_cell BK210.out 0).trans rfl;have hcz8_1:w7.cell? ⟨gb210,1,none⟩=some (.int .i64 a0_1):=(blk_cell BK210.out 1).trans rfl;have hfz8_0:=blk_frozen BK210.out 0;have hfz8_1:=blk_frozen BK210.out 1)|((with_reducible refine gate_callee (f:=161) rfl ?_);refine goesL_ (some 5) rfl rfl Try.func161 (by kernel_rfl) rfl #[.int .i64 a0_0] rfl (by (try simp only [List.map_toArray,List.map_cons,List.map_nil]);first|done|rfl|(simp only [List.length_drop,List.length_take];rfl)) ?_;(with_reducible refine (spec_FieldOK.calls a0_0 false _ A2.out).mono ?_);rintro e w' ⟨rfl,⟨nd,rfl⟩⟩;refine ⟨_,rfl,?_⟩))
    go_ret
    exact ⟨by first|rfl|(simp [errW_none,errW_some] <;> rfl)|(simp [*,errW_none,errW_some] <;> rfl),by repeat (first|(with_reducible first|exact HB.out|apply bwA|apply bwN|apply bwD|refine bwS ?_ GE210.out)|exact HB.out)⟩
def spec_l02List.l0:Nat → List (S79) → Int → Option (Bool)
  |0,_,_=> none
  |k + 1,x0,x3=> if x3 < (x0.length:Int) then (if 0 ≤ x3 then ((spec_ExtOK.f ((rd_T79 x0 x3).f0) ((rd_T79 x0 x3).f1)).bind fun t214=> (if t214=true then (spec_l02List.l0 k x0 (wrap64 (x3 + 1))) else (some false))) else (none)) else (some true)
def spec_l02List.f (k:Nat) (l0:List (S79)):Option (Bool):=spec_l02List.l0 k l0 0
theorem spec_l02List.mono_l:∀ k,(∀ y0 y1,LeO (spec_l02List.l0 k y0 y1) (spec_l02List.l0 (k + 1) y0 y1))
  |0=> fun _ _ r h=> by simp [spec_l02List.l0] at h
  |k + 1=> by
    have ih0:=spec_l02List.mono_l k
    · intro y0 y1
      unfold spec_l02List.l0
      repeat' first
      |(with_reducible exact ih0 _ _)
      |(with_reducible exact LeO.refl _)
      |(with_reducible exact LeO.none _)
      |(with_reducible refine LeO.ite ?_ ?_)
      |(with_reducible refine LeO.bind ?_ (fun _=> ?_))
      |exact ih0 _ _
      |exact LeO.none _
      |refine LeO.ite ?_ ?_
      |refine LeO.bind ?_ (fun _=> ?_)
theorem spec_l02List.mono:∀ a0 k,LeO (spec_l02List.f k a0) (spec_l02List.f (k + 1) a0):=by
  intro a0 k
  have ih0:=spec_l02List.mono_l k
  unfold spec_l02List.f
  repeat' first
      |(with_reducible exact ih0 _ _)
      |(with_reducible exact LeO.refl _)
      |(with_reducible exact LeO.none _)
      |(with_reducible refine LeO.ite ?_ ?_)
      |(with_reducible refine LeO.bind ?_ (fun _=> ?_))
      |exact ih0 _ _
      |exact LeO.none _
      |refine LeO.ite ?_ ?_
      |refine LeO.bind ?_ (fun _=> ?_)
set_option maxHeartbeats 8000000 in
set_option maxRecDepth 100000 in
theorem spec_l02List.calls (k:Nat) (A0:Option Addr) (c0:Nat) (l0:List (S79)) (r:Bool) (w:World) (hr0:Kd.C k79 w A0 l0.length l0) (hc0:l0.length ≤ c0) (h:spec_l02List.f k l0=some r):
    Calls Try.prog 120 #[.slice A0 l0.length c0] w fun e w'=> e= .returned (.bool r) ∧ Below w.heap.size w w':=by
  have hu79:=Try.underlying79
  have HR0:=Aside0.mk hr0
  have HC0:=Aside0.mk hc0
  clear hr0 hc0
  have HB:=Aside0.mk (Below.refl w.heap.size w)
  have H:(spec_l02List.l0 k l0 0)=some r:=h
  clear h
  have H':=Aside0.mk H
  clear H
  go_enter Try.func120,Try.ntmps120
  go_wp2
  go_loopg [3] k (fun kq v3 w'=> ∃ (x3_1:Int),v3= .int .i64 x3_1 ∧ Aside0 (spec_l02List.l0 kq l0 x3_1=some r) ∧ Aside0 (kq ≤ k) ∧ Aside0 (Below w.heap.size w w'))
  case atStart=> exact ⟨(0),(by first|rfl|(simp;done)|(simp [*];done)),H',⟨Nat.le_refl _⟩,⟨by repeat (first|(with_reducible first|exact HB.out|apply bwA|apply bwN|apply bwD)|exact HB.out)⟩⟩
  case round=>
    clear H'
    try clear c1
    obtain ⟨x3_1,rfl,HA,HK1,HB⟩:=hrel
    cases gk with
    |zero=> exact absurd HA.out (by simp [spec_l02List.l0])
    |succ k1=>
      have H:=HA.out
      clear HA
      simp only [spec_l02List.l0] at H
      by_cases c2:x3_1 < (l0.length:Int)
      · rw [if_pos c2] at H
        have c2b0:decide (x3_1 < (l0.length:Int))=true:=decide_eq_true c2
        clear c2
        by_cases c3:0 ≤ x3_1
        · rw [if_pos c3] at H
          have c3b0:decide (0 ≤ x3_1)=true:=decide_eq_true c3
          clear c3
          replace H:=Option.bind_eq_some_iff.mp H
          obtain ⟨t214,A40,H⟩:=H
          replace H:(if t214=true then (spec_l02List.l0 k1 l0 (wrap64 (x3_1 + 1))) else (some false))=some r:=H
          have A4:=Aside0.mk A40
          clear A40
          by_cases c5:t214=true
          · subst c5
            have H1:(spec_l02List.l0 k1 l0 (wrap64 (x3_1 + 1)))=some r:=by rw [if_pos rfl] at H;exact H
            clear H
            have H:=H1
            clear H1
            have H':=Aside0.mk H
            clear H
            have p213:0 ≤ (x3_1:Int):=of_decide_eq_true (by first|(with_reducible assumption)|assumption)
            have q213:x3_1 < (l0.length:Int):=of_decide_eq_true (by first|(with_reducible assumption)|assumption)
            obtain ⟨ad213,e213,hx213_0,hx213_1⟩:=at_T79 HR0.out x3_1 p213 q213
            cases e213
            replace hx213_0:=(HB.out.cell (World.block_lt_of_cell? w _ hx213_0)).trans hx213_0
            replace hx213_1:=(HB.out.cell (World.block_lt_of_cell? w _ hx213_1)).trans hx213_1
            replace p213:=eq_true p213
            replace q213:=eq_true q213
            go_wp2_with (first|((with_reducible refine gate_callee (f:=151) rfl ?_);refine goesL_ (some 14) rfl rfl Try.func151 (by kernel_rfl) rfl #[.agg #[.int .i64 ((rd_T79 l0 x3_1).f0),.int .i64 ((rd_T79 l0 x3_1).f1)]] rfl (by (try simp only [List.map_toArray,List.map_cons,List.map_nil]);first|done|rfl|(simp only [List.length_drop,List.length_take];rfl)) ?_;(with_reducible refine (spec_ExtOK.calls ((rd_T79 l0 x3_1).f0) ((rd_T79 l0 x3_1).f1) true _ A4.out).mono ?_);rintro e w6 ⟨rfl,hb⟩;refine ⟨_,rfl,?_⟩;have n0_:=Aside0.mk (below_step (by repeat (first|(with_reducible first|exact HB.out|apply bwA|apply bwN|apply bwD)|exact HB.out)) hb);clear HB;have HB:=n0_;clear n0_;(try clear hb);(try clear hb2);(try clear hk);(try clear hi)))
            go_roundg k1
            case measure=> have:=HK1.out;omega
            case rel=> exact ⟨(wrap64 (x3_1 + 1)),(by first|rfl|(simp;done)|(simp [*];done)),H',⟨by have:=HK1.out;omega⟩,⟨by repeat (first|(with_reducible first|exact HB.out|apply bwA|apply bwN|apply bwD)|exact HB.out)⟩⟩
          · replace c5:=Bool.eq_false_iff.mpr c5
            subst c5
            have H1:(some false)=some r:=by rw [if_neg (show ¬ (false=true) by decide)] at H;exact H
            clear H
            have H:=H1
            clear H1
            obtain rfl:=Option.some.inj H
            have p213:0 ≤ (x3_1:Int):=of_decide_eq_true (by first|(with_reducible assumption)|assumption)
            have q213:x3_1 < (l0.length:Int):=of_decide_eq_true (by first|(with_reducible assumption)|assumption)
            obtain ⟨ad213,e213,hx213_0,hx213_1⟩:=at_T79 HR0.out x3_1 p213 q213
            cases e213
            replace hx213_0:=(HB.out.cell (World.block_lt_of_cell? w _ hx213_0)).trans hx213_0
            replace hx213_1:=(HB.out.cell (World.block_lt_of_cell? w _ hx213_1)).trans hx213_1
            replace p213:=eq_true p213
            replace q213:=eq_true q213
            go_wp2_with (first|((with_reducible refine gate_callee (f:=151) rfl ?_);refine goesL_ (some 14) rfl rfl Try.func151 (by kernel_rfl) rfl #[.agg #[.int .i64 ((rd_T79 l0 x3_1).f0),.int .i64 ((rd_T79 l0 x3_1).f1)]] rfl (by (try simp only [List.map_toArray,List.map_cons,List.map_nil]);first|done|rfl|(simp only [List.length_drop,List.length_take];rfl)) ?_;(with_reducible refine (spec_ExtOK.calls ((rd_T79 l0 x3_1).f0) ((rd_T79 l0 x3_1).f1) false _ A4.out).mono ?_);rintro e w7 ⟨rfl,hb⟩;refine ⟨_,rfl,?_⟩;have n0_:=Aside0.mk (below_step (by repeat (first|(with_reducible first|exact HB.out|apply bwA|apply bwN|apply bwD)|exact HB.out)) hb);clear HB;have HB:=n0_;clear n0_;(try clear hb);(try clear hb2);(try clear hk);(try clear hi)))
            go_ret
            exact ⟨by first|rfl|(simp [errW_none,errW_some] <;> rfl)|(simp [*,errW_none,errW_some] <;> rfl),by repeat (first|(with_reducible first|exact HB.out|apply bwA|apply bwN|apply bwD)|exact HB.out)⟩
        · rw [if_neg c3] at H
          exact absurd H (by simp)
      · rw [if_neg c2] at H
        have c2b0:decide (x3_1 < (l0.length:Int))=false:=decide_eq_false c2
        clear c2
        obtain rfl:=Option.some.inj H
        go_wp2
        go_ret
        exact ⟨by first|rfl|(simp [errW_none,errW_some] <;> rfl)|(simp [*,errW_none,errW_some] <;> rfl),by repeat (first|(with_reducible first|exact HB.out|apply bwA|apply bwN|apply bwD)|exact HB.out)⟩
end Go.Proofs.Ytlogocmojnhpbaa.Print
