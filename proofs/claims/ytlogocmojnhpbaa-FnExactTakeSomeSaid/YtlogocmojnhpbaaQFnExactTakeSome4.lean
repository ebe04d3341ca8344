-- Packed by a program of this session (slim.py) out of printed texts; not trusted, Lean checks it.
import Derived.Test.YtlogocmojnhpbaaP0
namespace Go.Proofs.Ytlogocmojnhpbaa.Print
open Go.RowKit Go.Proofs.YtlogocmojnhpbaaW.PrintWords Go.Proofs.YtlogocmojnhpbaaW.PrintLast Go.Proofs.YtlogocmojnhpbaaW.PrintMore
attribute [local go_sem] max2_int min2_int max_two min_two max_three min_three max_four min_four
set_option linter.unusedVariables false
set_option linter.unusedSimpArgs false
def spec_l02Number.l0:Nat → Int → List Int → Int → Option (List Int)
  |0,_,_,_=> none
  |k + 1,x0,x5,x6=> if x6 ≥ 0 then (if 0 ≤ (IntKind.u64.wrap (wrap64 (8 * x6))) then (if x5.length < 140737488355328 then (spec_l02Number.l0 k x0 (x5 ++ [(shr .i64 x0 (IntKind.u64.wrap (wrap64 (8 * x6)))) % 256]) (wrap64 (x6 - 1))) else (none)) else (none)) else (some x5)
def spec_l02Number.f (k:Nat) (a0:Int) (a1:Int):Option (List Int):=spec_l02Number.l0 k a0 (([]:List Int)) (wrap64 (a1 - 1))
theorem spec_l02Number.mono_l:∀ k,(∀ y0 y1 y2,LeO (spec_l02Number.l0 k y0 y1 y2) (spec_l02Number.l0 (k + 1) y0 y1 y2))
  |0=> fun _ _ _ r h=> by simp [spec_l02Number.l0] at h
  |k + 1=> by
    have ih0:=spec_l02Number.mono_l k
    · intro y0 y1 y2
      unfold spec_l02Number.l0
      repeat' first
      |(with_reducible exact ih0 _ _ _)
      |(with_reducible exact LeO.refl _)
      |(with_reducible exact LeO.none _)
      |(with_reducible refine LeO.ite ?_ ?_)
      |(with_reducible refine LeO.bind ?_ (fun _=> ?_))
      |exact ih0 _ _ _
      |exact LeO.none _
      |refine LeO.ite ?_ ?_
      |refine LeO.bind ?_ (fun _=> ?_)
theorem spec_l02Number.mono:∀ a0 a1 k,LeO (spec_l02Number.f k a0 a1) (spec_l02Number.f (k + 1) a0 a1):=by
  intro a0 a1 k
  have ih0:=spec_l02Number.mono_l k
  unfold spec_l02Number.f
  repeat' first
      |(with_reducible exact ih0 _ _ _)
      |(with_reducible exact LeO.refl _)
      |(with_reducible exact LeO.none _)
      |(with_reducible refine LeO.ite ?_ ?_)
      |(with_reducible refine LeO.bind ?_ (fun _=> ?_))
      |exact ih0 _ _ _
      |exact LeO.none _
      |refine LeO.ite ?_ ?_
      |refine LeO.bind ?_ (fun _=> ?_)
set_option maxHeartbeats 8000000 in
set_option maxRecDepth 100000 in
theorem spec_l02Number.calls (k:Nat) (a0:Int) (a1:Int) (r:List Int) (w:World) (h:spec_l02Number.f k a0 a1=some r):
    Calls Try.prog 148 #[.int .i64 a0,.int .i64 a1] w fun e w'=> ∃ v0_:Value,e= .returned (v0_) ∧ Kd.R (Kd.int .u8) 5 w' w.heap.size (fun _=> True) v0_ r ∧ Below w.heap.size w w':=by
  have HB:=Aside0.mk (Below.refl w.heap.size w)
  have H:(spec_l02Number.l0 k a0 (([]:List Int)) (wrap64 (a1 - 1)))=some r:=h
  clear h
  obtain ⟨y305,hy305⟩:∃ y_:List Int,y_=(([]:List Int)):=⟨_,rfl⟩
  replace H:(spec_l02Number.l0 k a0 y305 (wrap64 (a1 - 1)))=some r:=by first|(rw [hy305];with_reducible exact H)|(have H2_:=(Option.bind_some _ _).symm.trans H;rw [hy305];with_reducible exact H2_)|(have H2_:=(Option.bind_some _ _).symm.trans H;with_reducible exact H2_)|with_reducible exact H|(rw [hy305];exact H)|exact H
  have Ny305:=Aside0.mk hy305
  clear hy305
  have H':=Aside0.mk H
  clear H
  go_enter Try.func148,Try.ntmps148
  go_wp2_with (first|((with_reducible refine gate_dst (N:=7) rfl ?_);refine Kd.R_lit (Kd.int .u8) _ 5 ?hg (N:=7) ?hd (xs:=([]:List Int)) (inner:= []) (ok:=fun _=> True) (okp:=fun _=> True) ?hr ?hp (fun _ hk=> hk) trivial (Below.refl _ _) (Nat.le_refl _) (by simp) ?_;(case hd=> rfl);(case hg=> rfl);(case hr=> first|(go_simp;done)|(go_simp;rfl));(case hp=> exact (Reps.none _ _));intro v306 w3 ho4 hb hg_ hnew_;clear hg_ hnew_;(first|rw [← Ny305.out] at ho4|(simp only [Int.reduceToNat] at ho4;rw [← Ny305.out] at ho4));have n0_:=Aside0.mk (Kd.R_lower ho4 (below_size (by repeat (first|(with_reducible first|exact HB.out|apply below_alloc|apply pw_below_drewN|apply below_drew1)|exact HB.out))));have n1_:=Aside0.mk (below_step (by repeat (first|(with_reducible first|exact HB.out|apply below_alloc|apply pw_below_drewN|apply below_drew1)|exact HB.out)) hb);clear HB;have HO307:=n0_;have HB:=n1_;clear n0_ n1_;clear hb ho4))
  go_loopg [5,6] k (fun kq v5 v6 w'=> ∃ (x5_1:List Int) (x6_1:Int),v6= .int .i64 x6_1 ∧ Aside0 (spec_l02Number.l0 kq a0 x5_1 x6_1=some r) ∧ Aside0 (kq ≤ k) ∧ Aside0 (Kd.R (Kd.int .u8) 5 w' w.heap.size (fun _=> True) v5 x5_1) ∧ Aside0 (Below w.heap.size w w'))
  case atStart=> exact ⟨(y305),(wrap64 (a1 - 1)),(by first|rfl|(simp;done)|(simp [*];done)),H',⟨Nat.le_refl _⟩,⟨by (with_reducible repeat (first|apply Kd.R_alloc|apply Kd.R_drewN|apply Kd.R_drew));exact HO307.out⟩,⟨by repeat (first|(with_reducible first|exact HB.out|apply below_alloc|apply pw_below_drewN|apply below_drew1)|exact HB.out)⟩⟩
  case round=>
    clear H'
    try clear c1
    try clear p2
    obtain ⟨x5_1,x6_1,rfl,HA,HK1,HO_5,HB⟩:=hrel
    cases gk with
    |zero=> exact absurd HA.out (by simp [spec_l02Number.l0])
    |succ k1=>
      have H:=HA.out
      clear HA
      simp only [spec_l02Number.l0] at H
      by_cases c5:x6_1 ≥ 0
      · rw [if_pos c5] at H
        have c5b0:decide (0 ≤ x6_1)=true:=decide_eq_true c5
        clear c5
        obtain ⟨ji6,hji6⟩:∃ j_:Int,(IntKind.u64.wrap (wrap64 (8 * x6_1)))=j_:=⟨_,rfl⟩
        replace H:(if 0 ≤ (ji6) then (if x5_1.length < 140737488355328 then (spec_l02Number.l0 k1 a0 (x5_1 ++ [(shr .i64 a0 (ji6)) % 256]) (wrap64 (x6_1 - 1))) else (none)) else (none))=some r:=by first|(rw [hji6] at H;exact H)|(simp only [hji6] at H ⊢;exact H)
        by_cases c7:0 ≤ (ji6)
        · rw [if_pos c7] at H
          have c7b0:=eq_true c7
          have c7b1:decide (0 ≤ (ji6))=true:=decide_eq_true c7
          clear c7
          obtain ⟨ji8,hji8⟩:∃ j_:Int,(shr .i64 a0 (ji6))=j_:=⟨_,rfl⟩
          replace H:(if x5_1.length < 140737488355328 then (spec_l02Number.l0 k1 a0 (x5_1 ++ [(ji8) % 256]) (wrap64 (x6_1 - 1))) else (none))=some r:=by first|(rw [hji8] at H;exact H)|(simp only [hji8] at H ⊢;exact H)
          have hji8_:(a0 / 2 ^ min (ji6).toNat 64)=ji8:=hji8
          have hji8z:(ji6) ≤ 64 → (a0 / 2 ^ (ji6).toNat)=ji8:=shr_small hji8
          by_cases c9:x5_1.length < 140737488355328
          · rw [if_pos c9] at H
            have LMc9:=Aside0.mk c9
            clear c9
            obtain ⟨y308,hy308⟩:∃ y_:List Int,y_=(x5_1 ++ [(ji8) % 256]):=⟨_,rfl⟩
            replace H:(spec_l02Number.l0 k1 a0 y308 (wrap64 (x6_1 - 1)))=some r:=by first|(rw [hy308];with_reducible exact H)|(have H2_:=(Option.bind_some _ _).symm.trans H;rw [hy308];with_reducible exact H2_)|(have H2_:=(Option.bind_some _ _).symm.trans H;with_reducible exact H2_)|with_reducible exact H|(rw [hy308];exact H)|exact H
            have Ny308:=Aside0.mk hy308
            clear hy308
            have H':=Aside0.mk H
            clear H
            go_wp2_with (first|((with_reducible refine gate_builtin (b:= .append) (xs:= #[.tmp 14,.tmp 21]) rfl ?_);at_builtin;refine Kd.R_append (Kd.int .u8) (w0:=w) w.heap.size rfl (.tmp 14) (.tmp 21) 25 5 (.int .u8 0) 1 rfl Try.underlying25 info5 rfl (by decide) (by omega) u5 x5_1 ((ji8) % 256) [.int .u8 ((ji8) % 256)] (fun _=> True) (fun _=> False) rfl rfl ?aP (fun _ hk=> hk.elim) ?aF ?aO ?aB ?aS ?aL ?_;(case aP=> exact rfl);(case aB=> exact (by repeat (first|(with_reducible first|exact HB.out|apply below_alloc|apply pw_below_drewN|apply below_drew1)|exact HB.out)));(case aF=> exact (fun _ _=> trivial));(case aO=> exact (by (with_reducible repeat (first|apply Kd.R_alloc|apply Kd.R_drewN|apply Kd.R_drew));exact HO_5.out));(case aS=> exact (below_size (by repeat (first|(with_reducible first|exact HB.out|apply below_alloc|apply pw_below_drewN|apply below_drew1)|exact HB.out))));(case aL=> have:=LMc9.out;omega);intro v309 w10 ho hb hg hat;rw [← Ny308.out] at ho;have n0_:=Aside0.mk (hb);have n1_:=Aside0.mk (ho);clear HB;clear HO_5;have HB:=n0_;have HO310:=n1_;clear n0_ n1_;clear ho hb hg hat))
            go_roundg k1
            case measure=> have:=HK1.out;omega
            case rel=> exact ⟨(y308),(wrap64 (x6_1 - 1)),(by first|rfl|(simp;done)|(simp [*];done)),H',⟨by have:=HK1.out;omega⟩,⟨by (with_reducible repeat (first|apply Kd.R_alloc|apply Kd.R_drewN|apply Kd.R_drew));exact HO310.out⟩,⟨by repeat (first|(with_reducible first|exact HB.out|apply below_alloc|apply pw_below_drewN|apply below_drew1)|exact HB.out)⟩⟩
          · rw [if_neg c9] at H
            exact absurd H (by simp)
        · rw [if_neg c7] at H
          exact absurd H (by simp)
      · rw [if_neg c5] at H
        have c5b0:decide (0 ≤ x6_1)=false:=decide_eq_false c5
        clear c5
        obtain rfl:=Option.some.inj H
        go_wp2
        go_ret
        exact ⟨_,by first|rfl|(simp [errW_none,errW_some] <;> rfl)|(simp [*,errW_none,errW_some] <;> rfl),by (with_reducible repeat (first|apply Kd.R_alloc|apply Kd.R_drewN|apply Kd.R_drew));exact HO_5.out,by repeat (first|(with_reducible first|exact HB.out|apply below_alloc|apply pw_below_drewN|apply below_drew1)|exact HB.out)⟩
def spec_l05Field.l0:Nat → ByteArray → Int → Int → Option (Int)
  |0,_,_,_=> none
  |k + 1,x0,x3,x4=> if x4 < 8 then (if 0 ≤ x4 then (if x4 < (x0.size:Int) then (spec_l05Field.l0 k x0 (Int.tmod (wrap64 ((wrap64 (x3 * 256)) + (wrap64 (bt x0 x4)))) 2130706433) (wrap64 (x4 + 1))) else (none)) else (none)) else (some x3)
def spec_l05Field.f (k:Nat) (a0:ByteArray):Option (Int):=spec_l05Field.l0 k a0 0 0
theorem spec_l05Field.mono_l:∀ k,(∀ y0 y1 y2,LeO (spec_l05Field.l0 k y0 y1 y2) (spec_l05Field.l0 (k + 1) y0 y1 y2))
  |0=> fun _ _ _ r h=> by simp [spec_l05Field.l0] at h
  |k + 1=> by
    have ih0:=spec_l05Field.mono_l k
    · intro y0 y1 y2
      unfold spec_l05Field.l0
      repeat' first
      |(with_reducible exact ih0 _ _ _)
      |(with_reducible exact LeO.refl _)
      |(with_reducible exact LeO.none _)
      |(with_reducible refine LeO.ite ?_ ?_)
      |(with_reducible refine LeO.bind ?_ (fun _=> ?_))
      |exact ih0 _ _ _
      |exact LeO.none _
      |refine LeO.ite ?_ ?_
      |refine LeO.bind ?_ (fun _=> ?_)
theorem spec_l05Field.mono:∀ a0 k,LeO (spec_l05Field.f k a0) (spec_l05Field.f (k + 1) a0):=by
  intro a0 k
  have ih0:=spec_l05Field.mono_l k
  unfold spec_l05Field.f
  repeat' first
      |(with_reducible exact ih0 _ _ _)
      |(with_reducible exact LeO.refl _)
      |(with_reducible exact LeO.none _)
      |(with_reducible refine LeO.ite ?_ ?_)
      |(with_reducible refine LeO.bind ?_ (fun _=> ?_))
      |exact ih0 _ _ _
      |exact LeO.none _
      |refine LeO.ite ?_ ?_
      |refine LeO.bind ?_ (fun _=> ?_)
set_option maxHeartbeats 8000000 in
set_option maxRecDepth 100000 in
theorem spec_l05Field.calls (k:Nat) (a0:ByteArray) (r:Int) (w:World) (h:spec_l05Field.f k a0=some r):
    Calls Try.prog 157 #[.string a0] w fun e w'=> e= .returned (.int .i64 r) ∧ Drawn0 w w':=by
  have H:(spec_l05Field.l0 k a0 0 0)=some r:=h
  clear h
  have H':=Aside0.mk H
  clear H
  go_enter Try.func157,Try.ntmps157
  go_wp2
  go_loopg [3,4] k (fun kq v3 v4 w'=> ∃ (x3_1:Int) (x4_1:Int),v3= .int .i64 x3_1 ∧ v4= .int .i64 x4_1 ∧ Aside0 (spec_l05Field.l0 kq a0 x3_1 x4_1=some r) ∧ Aside0 (kq ≤ k) ∧ Drawn0 w w')
  case atStart=> exact ⟨(0),(0),(by first|rfl|(simp;done)|(simp [*];done)),(by first|rfl|(simp;done)|(simp [*];done)),H',⟨Nat.le_refl _⟩,by repeat (first|exact Drawn0.refl _|apply Drawn0.step)⟩
  case round=>
    clear H'
    try clear c1
    obtain ⟨x3_1,x4_1,rfl,rfl,HA,HK1,⟨m1,rfl⟩⟩:=hrel
    cases gk with
    |zero=> exact absurd HA.out (by simp [spec_l05Field.l0])
    |succ k1=>
      have H:=HA.out
      clear HA
      simp only [spec_l05Field.l0] at H
      by_cases c2:x4_1 < 8
      · rw [if_pos c2] at H
        have c2b0:decide (x4_1 < 8)=true:=decide_eq_true c2
        clear c2
        by_cases c3:0 ≤ x4_1
        · rw [if_pos c3] at H
          have c3b0:decide (0 ≤ x4_1)=true:=decide_eq_true c3
          clear c3
          by_cases c4:x4_1 < (a0.size:Int)
          · rw [if_pos c4] at H
            have c4b0:decide (x4_1 < (a0.size:Int))=true:=decide_eq_true c4
            clear c4
            have H':=Aside0.mk H
            clear H
            have p5:0 ≤ (x4_1:Int):=of_decide_eq_true (by first|(with_reducible assumption)|assumption)
            have q5:x4_1 < (a0.size:Int):=of_decide_eq_true (by first|(with_reducible assumption)|assumption)
            have hx5:=bt_at a0 x4_1
            replace p5:=eq_true p5
            replace q5:=eq_true q5
            go_wp2
            go_roundg k1
            case measure=> have:=HK1.out;omega
            case rel=> exact ⟨(Int.tmod (wrap64 ((wrap64 (x3_1 * 256)) + (wrap64 (bt a0 x4_1)))) 2130706433),(wrap64 (x4_1 + 1)),(by first|rfl|(simp;done)|(simp [*];done)),(by first|rfl|(simp;done)|(simp [*];done)),H',⟨by have:=HK1.out;omega⟩,by repeat (first|exact Drawn0.refl _|apply Drawn0.step)⟩
          · rw [if_neg c4] at H
            exact absurd H (by simp)
        · rw [if_neg c3] at H
          exact absurd H (by simp)
      · rw [if_neg c2] at H
        have c2b0:decide (x4_1 < 8)=false:=decide_eq_false c2
        clear c2
        obtain rfl:=Option.some.inj H
        go_wp2
        go_ret
        exact ⟨by first|rfl|(simp;done)|(simp [*];done),by repeat (first|exact Drawn0.refl _|apply Drawn0.step)⟩
end Go.Proofs.Ytlogocmojnhpbaa.Print
