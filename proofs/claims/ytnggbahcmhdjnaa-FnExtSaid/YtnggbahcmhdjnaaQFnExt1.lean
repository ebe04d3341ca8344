-- Packed by a program of this session (slim.py) out of printed texts; not trusted, Lean checks it.
import Derived.Test.YtnggbahcmhdjnaaPrint0
import Derived.Test.YtnggbahcmhdjnaaPrint1
import Derived.Test.YtnggbahcmhdjnaaQFnExt0
import Derived.StillTailTactics
namespace Go.Proofs.Ytnggbahcmhdjnaa.Print
open Go.RowKit Go.Proofs.YtnggbahcmhdjnaaW.PrintWords Go.Proofs.YtnggbahcmhdjnaaW.PrintLast
set_option linter.unusedVariables false
set_option linter.unusedSimpArgs false
def spec_l00Src_byte.f (s0_0:List Int) (s0_1:Int) (s0_2:Int):Option (Int × Int × Int):=
  if 0 ≤ s0_1 ∧ s0_1 ≤ 1000000000 ∧ 0 ≤ s0_2 ∧ s0_2 ≤ 2147483647 then
    if s0_1 < (s0_0.length:Int) then (if 0 ≤ rd s0_0 s0_1 ∧ rd s0_0 s0_1 ≤ 255 then some (rd s0_0 s0_1,s0_1 + 1,(s0_2 * 31 + rd s0_0 s0_1 + 7) % 2147483648) else none)
    else if 3000 < s0_1 + 1 then some (0,s0_1 + 1,s0_2)
    else some ((s0_2 * 1103515245 + 12345) % 2147483648 / 65536 % 256,s0_1 + 1,(s0_2 * 1103515245 + 12345) % 2147483648)
  else none
def ByteTurned (w w':World) (g:Nat) (cs:Array Value):Prop:=
  w'.heap[g]?=some (.cells cs 106 (0,0)) ∧ KeepBut w w' g none ∧ ∀ w0:World,Below w0.heap.size w0 w → w0.heap.size ≤ g → Below w0.heap.size w0 w'
theorem ByteTurned.start {w:World} {g:Nat} {cs:Array Value} (h:w.heap[g]?=some (.cells cs 106 (0,0))):ByteTurned w w g cs:=⟨h,KeepBut.refl _ _ _,fun _ h _=> h⟩
theorem ByteTurned.set {w w1:World} {g:Nat} {cs cs':Array Value} (h:ByteTurned w w1 g cs) (i:Nat) (u:Value) (e:cs.setIfInBounds i u=cs'):ByteTurned w (w1.setCell ⟨g,i,none⟩ u) g cs':=
  ⟨blk_put h.1 i u e,h.2.1.set_ i u,fun w0 hb hg=> below_set (h.2.2 w0 hb hg) hg⟩
theorem ByteTurned.drewN {w w1:World} {g:Nat} {cs:Array Value} (h:ByteTurned w w1 g cs) (n:Nat):ByteTurned w (w1.drewN n) g cs:=⟨blk_drewN h.1 n,keep_drewN h.2.1 n,fun w0 hb hg=> pw_below_drewN (h.2.2 w0 hb hg) n⟩
theorem ByteTurned.drew {w w1:World} {g:Nat} {cs:Array Value} (h:ByteTurned w w1 g cs):ByteTurned w w1.drew g cs:=⟨blk_drew h.1,keep_drew h.2.1,fun w0 hb hg=> below_drew1 (h.2.2 w0 hb hg)⟩
set_option maxHeartbeats 4000000 in
set_option maxRecDepth 100000 in
theorem byte_in (g:Nat) (ad:Addr) (len c0:Nat) (c s0_1:Int) (s0_2:Int) (w:World) (hb:w.heap[g]?=some (.cells #[.slice (some ad) len c0,.int .i64 s0_1,.int .i64 s0_2] 106 (0,0)))
    (hx:w.cell? (ad.add s0_1.toNat)=some (.int .u8 c)) (hne:(ad.add s0_1.toNat).block ≠ g) (h0:0 ≤ s0_1) (h1:s0_1 ≤ 1000000000) (h2:0 ≤ s0_2) (h3:s0_2 ≤ 2147483647) (hlt:s0_1 < (len:Int)) (hc0:0 ≤ c) (hc1:c ≤ 255):
    Calls Try.prog 131 #[.pointer (some ⟨g,0,none⟩)] w fun e w'=> e= .returned (.int .i64 c) ∧ ByteTurned w w' g #[.slice (some ad) len c0,.int .i64 (s0_1 + 1),.int .i64 ((s0_2 * 31 + c + 7) % 2147483648)]:=by
  have hu:=Try.underlying106
  have q0:=blk_cell hb 0
  have q1:=blk_cell hb 1
  have q2:=blk_cell hb 2
  have f1:=blk_frozen hb 1
  have f2:=blk_frozen hb 2
  simp only [List.getElem?_toArray,List.getElem?_cons_zero,List.getElem?_cons_succ] at q0 q1 q2
  have hn1:ad.add s0_1.toNat ≠ ⟨g,1,none⟩:=fun e=> hne (by rw [e])
  have hn2:ad.add s0_1.toNat ≠ ⟨g,2,none⟩:=fun e=> hne (by rw [e])
  have ht:(s0_1 + 1 - 1).toNat=s0_1.toNat:=by omega
  have hd:decide (s0_1 + 1 ≤ (len:Int))=true:=decide_eq_true (by omega)
  have hB:=Aside0.mk (ByteTurned.start hb)
  clear hb hne
  go_enter Try.func131,Try.ntmps131
  go_wp2
  go_quiet (fail)
  have HE:=Aside0.mk ((hB.out.set (cs':= #[.slice (some ad) len c0,.int .i64 (s0_1 + 1),.int .i64 s0_2]) 1 (.int .i64 (s0_1 + 1)) rfl).drewN nq)
  have hx2:((w.setCell ⟨g,1,none⟩ (.int .i64 (s0_1 + 1))).drewN nq).cell? (ad.add s0_1.toNat)=some (.int .u8 c):=(World.cell?_setCell_other w _ _ _ (fun e=> hn1 e.symm)).trans hx
  generalize (w.setCell ⟨g,1,none⟩ (.int .i64 (s0_1 + 1))).drewN nq=w2 at hx2 HE ⊢
  clear q0 q1 q2 f1 f2 hx
  have q0:=blk_cell HE.out.1 0
  have q1:=blk_cell HE.out.1 1
  have q2:=blk_cell HE.out.1 2
  have f2:=blk_frozen HE.out.1 2
  simp only [List.getElem?_toArray,List.getElem?_cons_zero,List.getElem?_cons_succ] at q0 q1 q2
  go_wp2
  have v0:IntKind.i64.wrap s0_1=s0_1:=by rw [IntKind.wrap_i64];omega
  have v1:IntKind.i64.wrap (s0_2 * 31)=s0_2 * 31:=by rw [IntKind.wrap_i64];omega
  have v2:IntKind.i64.wrap (s0_2 * 31 + c)=s0_2 * 31 + c:=by rw [IntKind.wrap_i64];omega
  have v3:IntKind.i64.wrap (s0_2 * 31 + c + 7)=s0_2 * 31 + c + 7:=by rw [IntKind.wrap_i64];omega
  have v4:IntKind.i64.wrap c=c:=by rw [IntKind.wrap_i64];omega
  have v5:(s0_2 * 31 + c + 7).tmod 2147483648=(s0_2 * 31 + c + 7) % 2147483648:=Int.tmod_eq_emod_of_nonneg (by omega)
  have v6:IntKind.i64.wrap ((s0_2 * 31 + c + 7) % 2147483648)=(s0_2 * 31 + c + 7) % 2147483648:=by rw [IntKind.wrap_i64];omega
  refine wp_region_still_tail 23 (by kernel_rfl) (by kernel_rfl) ?_
  show wpStill _ _ (World.drew _) (fun a'=> wpList _ _ _ _ a' (World.drew _)) _ _
  simp only [List.take_succ_cons,List.take_zero,List.drop_succ_cons,List.drop_zero]
  repeat still_step
  refine wpStill_nil ?_
  clear v1 v2 v3 v5
  have hx3:(w2.setCell ⟨g,2,none⟩ (.int .i64 ((s0_2 * 31 + c + 7) % 2147483648))).cell? (ad.add s0_1.toNat)=some (.int .u8 c):=(World.cell?_setCell_other w2 _ _ _ (fun e=> hn2 e.symm)).trans hx2
  go_wp2
  go_quiet (fail)
  go_wp2
  go_ret
  exact ⟨rfl,((HE.out.set 2 _ rfl).drew).drewN _⟩
set_option maxHeartbeats 4000000 in
set_option maxRecDepth 100000 in
theorem byte_out (g:Nat) (A0:Option Addr) (len c0:Nat) (s0_1:Int) (s0_2:Int) (w:World) (hb:w.heap[g]?=some (.cells #[.slice A0 len c0,.int .i64 s0_1,.int .i64 s0_2] 106 (0,0)))
    (h0:0 ≤ s0_1) (h1:s0_1 ≤ 1000000000) (h2:0 ≤ s0_2) (h3:s0_2 ≤ 2147483647) (hlt:¬ s0_1 < (len:Int)) (h4:3000 < s0_1 + 1):
    Calls Try.prog 131 #[.pointer (some ⟨g,0,none⟩)] w fun e w'=> e= .returned (.int .i64 0) ∧ ByteTurned w w' g #[.slice A0 len c0,.int .i64 (s0_1 + 1),.int .i64 s0_2]:=by
  have hu:=Try.underlying106
  have q0:=blk_cell hb 0
  have q1:=blk_cell hb 1
  have q2:=blk_cell hb 2
  have f1:=blk_frozen hb 1
  have f2:=blk_frozen hb 2
  simp only [List.getElem?_toArray,List.getElem?_cons_zero,List.getElem?_cons_succ] at q0 q1 q2
  have hd:decide (s0_1 + 1 ≤ (len:Int))=false:=decide_eq_false (by omega)
  have hd2:decide (3000 < s0_1 + 1)=true:=decide_eq_true (by omega)
  have hB:=Aside0.mk (ByteTurned.start hb)
  clear hb
  go_enter Try.func131,Try.ntmps131
  go_wp2
  go_quiet (fail)
  go_wp2
  go_ret
  exact ⟨rfl,(hB.out.set 1 _ rfl).drewN _⟩
set_option maxHeartbeats 4000000 in
set_option maxRecDepth 100000 in
theorem byte_seed (g:Nat) (A0:Option Addr) (len c0:Nat) (s0_1:Int) (s0_2:Int) (w:World) (hb:w.heap[g]?=some (.cells #[.slice A0 len c0,.int .i64 s0_1,.int .i64 s0_2] 106 (0,0)))
    (h0:0 ≤ s0_1) (h1:s0_1 ≤ 1000000000) (h2:0 ≤ s0_2) (h3:s0_2 ≤ 2147483647) (hlt:¬ s0_1 < (len:Int)) (h4:¬ 3000 < s0_1 + 1):
    Calls Try.prog 131 #[.pointer (some ⟨g,0,none⟩)] w fun e w'=> e= .returned (.int .i64 ((s0_2 * 1103515245 + 12345) % 2147483648 / 65536 % 256)) ∧ ByteTurned w w' g #[.slice A0 len c0,.int .i64 (s0_1 + 1),.int .i64 ((s0_2 * 1103515245 + 12345) % 2147483648)]:=by
  have hu:=Try.underlying106
  have q0:=blk_cell hb 0
  have q1:=blk_cell hb 1
  have q2:=blk_cell hb 2
  have f1:=blk_frozen hb 1
  have f2:=blk_frozen hb 2
  simp only [List.getElem?_toArray,List.getElem?_cons_zero,List.getElem?_cons_succ] at q0 q1 q2
  have hd:decide (s0_1 + 1 ≤ (len:Int))=false:=decide_eq_false (by omega)
  have hd2:decide (3000 < s0_1 + 1)=false:=decide_eq_false (by omega)
  have hB:=Aside0.mk (ByteTurned.start hb)
  clear hb
  go_enter Try.func131,Try.ntmps131
  go_wp2
  go_quiet (fail)
  go_wp2
  go_ret
  exact ⟨rfl,((hB.out.set 1 _ rfl).drewN _).set 2 _ rfl⟩
theorem IsS106.of_turned {w0 w w':World} {g:Nat} {A0:Option Addr} {c0:Nat} {f0:List Int} {x y:Int} (hr:Kd.C (Kd.int .u8) w0 A0 f0.length f0) (hg:w0.heap.size ≤ g) (h:ByteTurned w w' g #[.slice A0 f0.length c0,.int .i64 x,.int .i64 y]):IsS106 w0 w' g f0 x y:=⟨A0,c0,h.1,hg,hr⟩
theorem spec_l00Src_byte.calls (g:Nat) (s0_0:List Int) (s0_1:Int) (s0_2:Int) (r1:Int) (r2:Int) (r3:Int) (w0 w:World) (hI:IsS106 w0 w g s0_0 s0_1 s0_2) (hB:Below w0.heap.size w0 w) (h:spec_l00Src_byte.f s0_0 s0_1 s0_2=some (r1,r2,r3)):
    Calls Try.prog 131 #[.pointer (some ⟨g,0,none⟩)] w fun e w'=> e= .returned (.int .i64 r1) ∧ IsS106 w0 w' g s0_0 r2 r3 ∧ Below w0.heap.size w0 w' ∧ KeepBut w w' g none:=by
  unfold spec_l00Src_byte.f at h
  obtain ⟨A0,c0,hb,hg,hr⟩:=hI
  by_cases hs:0 ≤ s0_1 ∧ s0_1 ≤ 1000000000 ∧ 0 ≤ s0_2 ∧ s0_2 ≤ 2147483647
  · rw [if_pos hs] at h
    obtain ⟨h0,h1,h2,h3⟩:=hs
    by_cases hlt:s0_1 < (s0_0.length:Int)
    · rw [if_pos hlt] at h
      by_cases hc:0 ≤ rd s0_0 s0_1 ∧ rd s0_0 s0_1 ≤ 255
      · rw [if_pos hc] at h
        simp only [Option.some.injEq,Prod.mk.injEq] at h
        obtain ⟨rfl,rfl,rfl⟩:=h
        obtain ⟨ad,rfl,hx⟩:=Kd.at_int hr s0_1 h0 hlt
        have hlt0:=World.block_lt_of_cell? w0 _ hx
        refine (byte_in g ad s0_0.length c0 (rd s0_0 s0_1) s0_1 s0_2 w hb ((hB.cell hlt0).trans hx) (by omega) h0 h1 h2 h3 hlt hc.1 hc.2).mono ?_
        rintro e w' ⟨rfl,ht⟩
        exact ⟨rfl,IsS106.of_turned hr hg ht,ht.2.2 w0 hB hg,ht.2.1⟩
      · rw [if_neg hc] at h
        exact absurd h (by simp)
    · rw [if_neg hlt] at h
      by_cases h4:3000 < s0_1 + 1
      · rw [if_pos h4] at h
        simp only [Option.some.injEq,Prod.mk.injEq] at h
        obtain ⟨rfl,rfl,rfl⟩:=h
        refine (byte_out g A0 s0_0.length c0 s0_1 s0_2 w hb h0 h1 h2 h3 hlt h4).mono ?_
        rintro e w' ⟨rfl,ht⟩
        exact ⟨rfl,IsS106.of_turned hr hg ht,ht.2.2 w0 hB hg,ht.2.1⟩
      · rw [if_neg h4] at h
        simp only [Option.some.injEq,Prod.mk.injEq] at h
        obtain ⟨rfl,rfl,rfl⟩:=h
        refine (byte_seed g A0 s0_0.length c0 s0_1 s0_2 w hb h0 h1 h2 h3 hlt h4).mono ?_
        rintro e w' ⟨rfl,ht⟩
        exact ⟨rfl,IsS106.of_turned hr hg ht,ht.2.2 w0 hB hg,ht.2.1⟩
  · rw [if_neg hs] at h
    exact absurd h (by simp)
end Go.Proofs.Ytnggbahcmhdjnaa.Print
namespace Go.Proofs.Ytnggbahcmhdjnaa.Print
open Go.RowKit Go.Proofs.YtnggbahcmhdjnaaW.PrintWords Go.Proofs.YtnggbahcmhdjnaaW.PrintLast Go.Proofs.YtnggbahcmhdjnaaW.PrintMore
attribute [local go_sem] max2_int min2_int max_two min_two max_three min_three max_four min_four
set_option linter.unusedVariables false
set_option linter.unusedSimpArgs false
def impl_ExtAdd.f (a0_0:Int) (a0_1:Int) (a1_0:Int) (a1_1:Int):Option (Int × Int × Int):=(extTwo_plus.f a0_0 a0_1 a1_0 a1_1).bind fun bt128=> (some (bt128.1,bt128.2.1,bt128.2.2))
set_option maxHeartbeats 8000000 in
set_option maxRecDepth 100000 in
theorem impl_ExtAdd.calls (a0_0:Int) (a0_1:Int) (a1_0:Int) (a1_1:Int) (r1:Int) (r2:Int) (r3:Int) (w:World) (h:impl_ExtAdd.f a0_0 a0_1 a1_0 a1_1=some (r1,r2,r3)):
    Calls Try.prog 21 #[.agg #[.int .i64 a0_0,.int .i64 a0_1],.agg #[.int .i64 a1_0,.int .i64 a1_1]] w fun e w'=> e= .returned (.tuple #[.agg #[.int .i64 r1,.int .i64 r2],.int .i64 r3]) ∧ Below w.heap.size w w':=by
  have hu24:=Try.underlying24
  have HB:=Aside0.mk (Below.refl w.heap.size w)
  have H:((extTwo_plus.f a0_0 a0_1 a1_0 a1_1).bind fun bt128=> (some (bt128.1,bt128.2.1,bt128.2.2)))=some (r1,r2,r3):=h
  clear h
  replace H:=Option.bind_eq_some_iff.mp H
  obtain ⟨⟨t128,t129,t130⟩,A30,H⟩:=H
  replace H:(some (t128,t129,t130))=some (r1,r2,r3):=H
  have A3:=Aside0.mk A30
  clear A30
  simp only [Option.some.injEq,Prod.mk.injEq] at H
  obtain ⟨rfl,rfl,rfl⟩:=H
  go_enter Try.func21,Try.ntmps21
  go_wp2_with (first|((with_reducible refine gate_dst (N:=2) rfl ?_);refine box_event ?hg (N:=2) ?hd (cs:= #[.int .i64 a0_0,.int .i64 a0_1]) (t:=24) ?hr ?_;(case hd=> rfl);(case hg=> rfl);(case hr=> first|(go_simp;done)|(go_simp;rfl));intro gb125 hg w4 hbox hb;have n0_:=Aside0.mk (below_step (by repeat (first|(with_reducible first|exact HB.out|apply below_alloc|apply pw_below_drewN|apply below_drew1)|exact HB.out)) hb);have n1_:=Aside0.mk (hbox);have n2_:=Aside0.mk ((by rw [hg];exact (below_size (by repeat (first|(with_reducible first|exact HB.out|apply below_alloc|apply pw_below_drewN|apply below_drew1)|exact HB.out))):w.heap.size ≤ gb125));have n3_:=Aside0.mk ((by rw [hg];exact (below_size (by repeat (first|(with_reducible first|exact HB.out|apply below_alloc|apply pw_below_drewN|apply below_drew1)|exact HB.out))):w.heap.size ≤ gb125));clear HB;have HB:=n0_;have BK125:=n1_;have GW125:=n2_;have GE125:=n3_;clear n0_ n1_ n2_ n3_;clear hb hbox hg)|((with_reducible refine gate_dst (N:=3) rfl ?_);refine box_event ?hg (N:=3) ?hd (cs:= #[.int .i64 a1_0,.int .i64 a1_1]) (t:=24) ?hr ?_;(case hd=> rfl);(case hg=> rfl);(case hr=> first|(go_simp;done)|(go_simp;rfl));intro gb126 hg w5 hbox hb;have n0_:=Aside0.mk (blk_below (g:=gb125) (o:= .cells #[.int .i64 a0_0,.int .i64 a0_1] 24 (0,0)) (by (with_reducible repeat (first|apply bN|apply bd|apply bA));exact BK125.out) hb);have n1_:=Aside0.mk (below_step (by repeat (first|(with_reducible first|exact HB.out|apply below_alloc|apply pw_below_drewN|apply below_drew1|refine below_set ?_ GE125.out)|exact HB.out)) hb);have n2_:=Aside0.mk (hbox);have n3_:=Aside0.mk ((by rw [hg];exact (below_size (by repeat (first|(with_reducible first|exact HB.out|apply below_alloc|apply pw_below_drewN|apply below_drew1|refine below_set ?_ GE125.out)|exact HB.out))):w.heap.size ≤ gb126));have n4_:=Aside0.mk ((by rw [hg];exact (below_size (by repeat (first|(with_reducible first|exact HB.out|apply below_alloc|apply pw_below_drewN|apply below_drew1|refine below_set ?_ GE125.out)|exact HB.out))):w.heap.size ≤ gb126));have n5_:=Aside0.mk ((by rw [hg];exact Nat.ne_of_lt (blk_lt (g:=gb125) (o:= .cells #[.int .i64 a0_0,.int .i64 a0_1] 24 (0,0)) (by (with_reducible repeat (first|apply bN|apply bd|apply bA));exact BK125.out)):gb125 ≠ gb126));have n6_:=Aside0.mk ((by rw [hg];exact Nat.ne_of_gt (blk_lt (g:=gb125) (o:= .cells #[.int .i64 a0_0,.int .i64 a0_1] 24 (0,0)) (by (with_reducible repeat (first|apply bN|apply bd|apply bA));exact BK125.out)):gb126 ≠ gb125));clear BK125;clear HB;have BK125:=n0_;have HB:=n1_;have BK126:=n2_;have GW126:=n3_;have GE126:=n4_;have NB125_126:=n5_;have NB126_125:=n6_;clear n0_ n1_ n2_ n3_ n4_ n5_ n6_;clear hb hbox hg)|((with_reducible refine gate_dst (N:=4) rfl ?_);refine box_event ?hg (N:=4) ?hd (cs:= #[.int .i64 0,.int .i64 0]) (t:=24) ?hr ?_;(case hd=> rfl);(case hg=> rfl);(case hr=> first|(go_simp;done)|(go_simp;rfl));intro gb127 hg w6 hbox hb;have n0_:=Aside0.mk (blk_below (g:=gb125) (o:= .cells #[.int .i64 a0_0,.int .i64 a0_1] 24 (0,0)) (by (with_reducible repeat (first|apply bN|apply bd|apply bA));exact BK125.out) hb);have n1_:=Aside0.mk (blk_below (g:=gb126) (o:= .cells #[.int .i64 a1_0,.int .i64 a1_1] 24 (0,0)) (by (with_reducible repeat (first|apply bN|apply bd|apply bA));exact BK126.out) hb);have n2_:=Aside0.mk (below_step (by repeat (first|(with_reducible first|exact HB.out|apply below_alloc|apply pw_below_drewN|apply below_drew1|refine below_set ?_ GE125.out|refine below_set ?_ GE126.out)|exact HB.out)) hb);have n3_:=Aside0.mk (hbox);have n4_:=Aside0.mk ((by rw [hg];exact (below_size (by repeat (first|(with_reducible first|exact HB.out|apply below_alloc|apply pw_below_drewN|apply below_drew1|refine below_set ?_ GE125.out|refine below_set ?_ GE126.out)|exact HB.out))):w.heap.size ≤ gb127));have n5_:=Aside0.mk ((by rw [hg];exact (below_size (by repeat (first|(with_reducible first|exact HB.out|apply below_alloc|apply pw_below_drewN|apply below_drew1|refine below_set ?_ GE125.out|refine below_set ?_ GE126.out)|exact HB.out))):w.heap.size ≤ gb127));have n6_:=Aside0.mk ((by rw [hg];exact Nat.ne_of_lt (blk_lt (g:=gb125) (o:= .cells #[.int .i64 a0_0,.int .i64 a0_1] 24 (0,0)) (by (with_reducible repeat (first|apply bN|apply bd|apply bA));exact BK125.out)):gb125 ≠ gb127));have n7_:=Aside0.mk ((by rw [hg];exact Nat.ne_of_gt (blk_lt (g:=gb125) (o:= .cells #[.int .i64 a0_0,.int .i64 a0_1] 24 (0,0)) (by (with_reducible repeat (first|apply bN|apply bd|apply bA));exact BK125.out)):gb127 ≠ gb125));have n8_:=Aside0.mk ((by rw [hg];exact Nat.ne_of_lt (blk_lt (g:=gb126) (o:= .cells #[.int .i64 a1_0,.int .i64 a1_1] 24 (0,0)) (by (with_reducible repeat (first|apply bN|apply bd|apply bA));exact BK126.out)):gb126 ≠ gb127));have n9_:=Aside0.mk ((by rw [hg];exact Nat.ne_of_gt (blk_lt (g:=gb126) (o:= .cells #[.int .i64 a1_0,.int .i64 a1_1] 24 (0,0)) (by (with_reducible repeat (first|apply bN|apply bd|apply bA));exact BK126.out)):gb127 ≠ gb126));clear BK125;clear BK126;clear HB;have BK125:=n0_;have BK126:=n1_;have HB:=n2_;have BK127:=n3_;have GW127:=n4_;have GE127:=n5_;have NB125_127:=n6_;have NB127_125:=n7_;have NB126_127:=n8_;have NB127_126:=n9_;clear n0_ n1_ n2_ n3_ n4_ n5_ n6_ n7_ n8_ n9_;clear hb hbox hg;have hnb7:=NB125_126.out;have hnc7:=NB126_125.out;have hnb8:=NB125_127.out;have hnc8:=NB127_125.out;have hcz9_0:w6.cell? ⟨gb125,0,none⟩=some (.int .i64 a0_0):=(blk_cell BK125.out 0).trans rfl;have hcz9_1:w6.cell? ⟨gb125,1,none⟩=some (.int .i64 a0_1):=(blk_cell BK125.out 1).trans rfl;have hfz9_0:=blk_frozen BK125.out 0;have hfz9_1:=blk_frozen BK125.out 1;have hnb10:=NB126_127.out;have hnc10:=NB127_126.out;have hcz11_0:w6.cell? ⟨gb126,0,none⟩=some (.int .i64 a1_0):=(blk_cell BK126.out 0).trans rfl;have hcz11_1:w6.cell? ⟨gb126,1,none⟩=some (.int .i64 a1_1):=(blk_cell BK126.out 1).trans rfl;have hfz11_0:=blk_frozen BK126.out 0;have hfz11_1:=blk_frozen BK126.out 1)|((with_reducible refine gate_callee (f:=75) rfl ?_);refine goesL_ (some 8) rfl rfl Try.func75 (by kernel_rfl) rfl #[.agg #[.int .i64 a0_0,.int .i64 a0_1],.agg #[.int .i64 a1_0,.int .i64 a1_1],.func (.func 76) #[] #[]] rfl (by (try simp only [List.map_toArray,List.map_cons,List.map_nil]);first|done|rfl|(simp only [List.length_drop,List.length_take];rfl)) ?_;(with_reducible refine (extTwo_plus.calls a0_0 a0_1 a1_0 a1_1 t128 t129 t130 _ A3.out).mono ?_);rintro e w12 ⟨rfl,hb⟩;refine ⟨_,rfl,?_⟩;have n0_:=Aside0.mk (blk_below (g:=gb125) (o:= .cells #[.int .i64 a0_0,.int .i64 a0_1] 24 (0,0)) (by (with_reducible repeat (first|apply bN|apply bd|apply bA));exact BK125.out) hb);have n1_:=Aside0.mk (blk_below (g:=gb126) (o:= .cells #[.int .i64 a1_0,.int .i64 a1_1] 24 (0,0)) (by (with_reducible repeat (first|apply bN|apply bd|apply bA));exact BK126.out) hb);have n2_:=Aside0.mk (blk_below (g:=gb127) (o:= .cells #[.int .i64 0,.int .i64 0] 24 (0,0)) (by (with_reducible repeat (first|apply bN|apply bd|apply bA));exact BK127.out) hb);have n3_:=Aside0.mk (below_step (by repeat (first|(with_reducible first|exact HB.out|apply below_alloc|apply pw_below_drewN|apply below_drew1|refine below_set ?_ GE125.out|refine below_set ?_ GE126.out|refine below_set ?_ GE127.out)|exact HB.out)) hb);clear BK125;clear BK126;clear BK127;clear HB;have BK125:=n0_;have BK126:=n1_;have BK127:=n2_;have HB:=n3_;clear n0_ n1_ n2_ n3_;(try clear hb);(try clear hb2);(try clear hk);(try clear hi);have hcz13_0:w12.cell? ⟨gb127,0,none⟩=some (.int .i64 0):=(blk_cell BK127.out 0).trans rfl;have hcz13_1:w12.cell? ⟨gb127,1,none⟩=some (.int .i64 0):=(blk_cell BK127.out 1).trans rfl;have hfz13_0:=blk_frozen BK127.out 0;have hfz13_1:=blk_frozen BK127.out 1))
  refine bodyPost_ret (results_ct rfl _ _ gb127 24 #[.int .i64 t128,.int .i64 t129] (0,0) _ rfl (by (with_reducible repeat (first|apply bN|apply bd|apply bA));refine blk_put (cs:= #[.int .i64 t128,.int .i64 0]) ?_ 1 _ rfl;(with_reducible repeat (first|apply bN|apply bd|apply bA));refine blk_put (cs:= #[.int .i64 0,.int .i64 0]) ?_ 0 _ rfl;(with_reducible repeat (first|apply bN|apply bd|apply bA));exact BK127.out) Try.underlying24 rfl (by kernel_rfl)) rfl ?_
  exact ⟨by first|rfl|(simp [errW_none,errW_some] <;> rfl)|(simp [*,errW_none,errW_some] <;> rfl),by repeat (first|(with_reducible first|exact HB.out|apply below_alloc|apply pw_below_drewN|apply below_drew1|refine below_set ?_ GE125.out|refine below_set ?_ GE126.out|refine below_set ?_ GE127.out)|exact HB.out)⟩
def impl_ExtMul.f (a0_0:Int) (a0_1:Int) (a1_0:Int) (a1_1:Int):Option (Int × Int × Int):=(extTwo_times.f a0_0 a0_1 a1_0 a1_1).bind fun bt160=> (some (bt160.1,bt160.2.1,bt160.2.2))
set_option maxHeartbeats 8000000 in
set_option maxRecDepth 100000 in
theorem impl_ExtMul.calls (a0_0:Int) (a0_1:Int) (a1_0:Int) (a1_1:Int) (r1:Int) (r2:Int) (r3:Int) (w:World) (h:impl_ExtMul.f a0_0 a0_1 a1_0 a1_1=some (r1,r2,r3)):
    Calls Try.prog 26 #[.agg #[.int .i64 a0_0,.int .i64 a0_1],.agg #[.int .i64 a1_0,.int .i64 a1_1]] w fun e w'=> e= .returned (.tuple #[.agg #[.int .i64 r1,.int .i64 r2],.int .i64 r3]) ∧ Below w.heap.size w w':=by
  have hu24:=Try.underlying24
  have HB:=Aside0.mk (Below.refl w.heap.size w)
  have H:((extTwo_times.f a0_0 a0_1 a1_0 a1_1).bind fun bt160=> (some (bt160.1,bt160.2.1,bt160.2.2)))=some (r1,r2,r3):=h
  clear h
  replace H:=Option.bind_eq_some_iff.mp H
  obtain ⟨⟨t160,t161,t162⟩,A30,H⟩:=H
  replace H:(some (t160,t161,t162))=some (r1,r2,r3):=H
  have A3:=Aside0.mk A30
  clear A30
  simp only [Option.some.injEq,Prod.mk.injEq] at H
  obtain ⟨rfl,rfl,rfl⟩:=H
  go_enter Try.func26,Try.ntmps26
  go_wp2_with (first|((with_reducible refine gate_dst (N:=2) rfl ?_);refine box_event ?hg (N:=2) ?hd (cs:= #[.int .i64 a0_0,.int .i64 a0_1]) (t:=24) ?hr ?_;(case hd=> rfl);(case hg=> rfl);(case hr=> first|(go_simp;done)|(go_simp;rfl));intro gb157 hg w4 hbox hb;have n0_:=Aside0.mk (below_step (by repeat (first|(with_reducible first|exact HB.out|apply below_alloc|apply pw_below_drewN|apply below_drew1)|exact HB.out)) hb);have n1_:=Aside0.mk (hbox);have n2_:=Aside0.mk ((by rw [hg];exact (below_size (by repeat (first|(with_reducible first|exact HB.out|apply below_alloc|apply pw_below_drewN|apply below_drew1)|exact HB.out))):w.heap.size ≤ gb157));have n3_:=Aside0.mk ((by rw [hg];exact (below_size (by repeat (first|(with_reducible first|exact HB.out|apply below_alloc|apply pw_below_drewN|apply below_drew1)|exact HB.out))):w.heap.size ≤ gb157));clear HB;have HB:=n0_;have BK157:=n1_;have GW157:=n2_;have GE157:=n3_;clear n0_ n1_ n2_ n3_;clear hb hbox hg)|((with_reducible refine gate_dst (N:=3) rfl ?_);refine box_event ?hg (N:=3) ?hd (cs:= #[.int .i64 a1_0,.int .i64 a1_1]) (t:=24) ?hr ?_;(case hd=> rfl);(case hg=> rfl);(case hr=> first|(go_simp;done)|(go_simp;rfl));intro gb158 hg w5 hbox hb;have n0_:=Aside0.mk (blk_below (g:=gb157) (o:= .cells #[.int .i64 a0_0,.int .i64 a0_1] 24 (0,0)) (by (with_reducible repeat (first|apply bN|apply bd|apply bA));exact BK157.out) hb);have n1_:=Aside0.mk (below_step (by repeat (first|(with_reducible first|exact HB.out|apply below_alloc|apply pw_below_drewN|apply below_drew1|refine below_set ?_ GE157.out)|exact HB.out)) hb);have n2_:=Aside0.mk (hbox);have n3_:=Aside0.mk ((by rw [hg];exact (below_size (by repeat (first|(with_reducible first|exact HB.out|apply below_alloc|apply pw_below_drewN|apply below_drew1|refine below_set ?_ GE157.out)|exact HB.out))):w.heap.size ≤ gb158));have n4_:=Aside0.mk ((by rw [hg];exact (below_size (by repeat (first|(with_reducible first|exact HB.out|apply below_alloc|apply pw_below_drewN|apply below_drew1|refine below_set ?_ GE157.out)|exact HB.out))):w.heap.size ≤ gb158));have n5_:=Aside0.mk ((by rw [hg];exact Nat.ne_of_lt (blk_lt (g:=gb157) (o:= .cells #[.int .i64 a0_0,.int .i64 a0_1] 24 (0,0)) (by (with_reducible repeat (first|apply bN|apply bd|apply bA));exact BK157.out)):gb157 ≠ gb158));have n6_:=Aside0.mk ((by rw [hg];exact Nat.ne_of_gt (blk_lt (g:=gb157) (o:= .cells #[.int .i64 a0_0,.int .i64 a0_1] 24 (0,0)) (by (with_reducible repeat (first|apply bN|apply bd|apply bA));exact BK157.out)):gb158 ≠ gb157));clear BK157;clear HB;have BK157:=n0_;have HB:=n1_;have BK158:=n2_;have GW158:=n3_;have GE158:=n4_;have NB157_158:=n5_;have NB158_157:=n6_;clear n0_ n1_ n2_ n3_ n4_ n5_ n6_;clear hb hbox hg)|((with_reducible refine gate_dst (N:=4) rfl ?_);refine box_event ?hg (N:=4) ?hd (cs:= #[.int .i64 0,.int .i64 0]) (t:=24) ?hr ?_;(case hd=> rfl);(case hg=> rfl);(case hr=> first|(go_simp;done)|(go_simp;rfl));intro gb159 hg w6 hbox hb;have n0_:=Aside0.mk (blk_below (g:=gb157) (o:= .cells #[.int .i64 a0_0,.int .i64 a0_1] 24 (0,0)) (by (with_reducible repeat (first|apply bN|apply bd|apply bA));exact BK157.out) hb);have n1_:=Aside0.mk (blk_below (g:=gb158) (o:= .cells #[.int .i64 a1_0,.int .i64 a1_1] 24 (0,0)) (by (with_reducible repeat (first|apply bN|apply bd|apply bA));exact BK158.out) hb);have n2_:=Aside0.mk (below_step (by repeat (first|(with_reducible first|exact HB.out|apply below_alloc|apply pw_below_drewN|apply below_drew1|refine below_set ?_ GE157.out|refine below_set ?_ GE158.out)|exact HB.out)) hb);have n3_:=Aside0.mk (hbox);have n4_:=Aside0.mk ((by rw [hg];exact (below_size (by repeat (first|(with_reducible first|exact HB.out|apply below_alloc|apply pw_below_drewN|apply below_drew1|refine below_set ?_ GE157.out|refine below_set ?_ GE158.out)|exact HB.out))):w.heap.size ≤ gb159));have n5_:=Aside0.mk ((by rw [hg];exact (below_size (by repeat (first|(with_reducible first|exact HB.out|apply below_alloc|apply pw_below_drewN|apply below_drew1|refine below_set ?_ GE157.out|refine below_set ?_ GE158.out)|exact HB.out))):w.heap.size ≤ gb159));have n6_:=Aside0.mk ((by rw [hg];exact Nat.ne_of_lt (blk_lt (g:=gb157) (o:= .cells #[.int .i64 a0_0,.int .i64 a0_1] 24 (0,0)) (by (with_reducible repeat (first|apply bN|apply bd|apply bA));exact BK157.out)):gb157 ≠ gb159));have n7_:=Aside0.mk ((by rw [hg];exact Nat.ne_of_gt (blk_lt (g:=gb157) (o:= .cells #[.int .i64 a0_0,.int .i64 a0_1] 24 (0,0)) (by (with_reducible repeat (first|apply bN|apply bd|apply bA));exact BK157.out)):gb159 ≠ gb157));have n8_:=Aside0.mk ((by rw [hg];exact Nat.ne_of_lt (blk_lt (g:=gb158) (o:= .cells #[.int .i64 a1_0,.int .i64 a1_1] 24 (0,0)) (by (with_reducible repeat (first|apply bN|apply bd|apply bA));exact BK158.out)):gb158 ≠ gb159));have n9_:=Aside0.mk ((by rw [hg];exact Nat.ne_of_gt (blk_lt (g:=gb158) (o:= .cells #[.int .i64 a1_0,.int .i64 a1_1] 24 (0,0)) (by (with_reducible repeat (first|apply bN|apply bd|apply bA));exact BK158.out)):gb159 ≠ gb158));clear BK157;clear BK158;clear HB;have BK157:=n0_;have BK158:=n1_;have HB:=n2_;have BK159:=n3_;have GW159:=n4_;have GE159:=n5_;have NB157_159:=n6_;have NB159_157:=n7_;have NB158_159:=n8_;have NB159_158:=n9_;clear n0_ n1_ n2_ n3_ n4_ n5_ n6_ n7_ n8_ n9_;clear hb hbox hg;have hnb7:=NB157_158.out;have hnc7:=NB158_157.out;have hnb8:=NB157_159.out;have hnc8:=NB159_157.out;have hcz9_0:w6.cell? ⟨gb157,0,none⟩=some (.int .i64 a0_0):=(blk_cell BK157.out 0).trans rfl;have hcz9_1:w6.cell? ⟨gb157,1,none⟩=some (.int .i64 a0_1):=(blk_cell BK157.out 1).trans rfl;have hfz9_0:=blk_frozen BK157.out 0;have hfz9_1:=blk_frozen BK157.out 1;have hnb10:=NB158_159.out;have hnc10:=NB159_158.out;have hcz11_0:w6.cell? ⟨gb158,0,none⟩=some (.int .i64 a1_0):=(blk_cell BK158.out 0).trans rfl;have hcz11_1:w6.cell? ⟨gb158,1,none⟩=some (.int .i64 a1_1):=(blk_cell BK158.out 1).trans rfl;have hfz11_0:=blk_frozen BK158.out 0;have hfz11_1:=blk_frozen BK158.out 1)|((with_reducible refine gate_callee (f:=75) rfl ?_);refine goesL_ (some 8) rfl rfl Try.func75 (by kernel_rfl) rfl #[.agg #[.int .i64 a0_0,.int .i64 a0_1],.agg #[.int .i64 a1_0,.int .i64 a1_1],.func (.func 80) #[] #[]] rfl (by (try simp only [List.map_toArray,List.map_cons,List.map_nil]);first|done|rfl|(simp only [List.length_drop,List.length_take];rfl)) ?_;(with_reducible refine (extTwo_times.calls a0_0 a0_1 a1_0 a1_1 t160 t161 t162 _ A3.out).mono ?_);rintro e w12 ⟨rfl,hb⟩;refine ⟨_,rfl,?_⟩;have n0_:=Aside0.mk (blk_below (g:=gb157) (o:= .cells #[.int .i64 a0_0,.int .i64 a0_1] 24 (0,0)) (by (with_reducible repeat (first|apply bN|apply bd|apply bA));exact BK157.out) hb);have n1_:=Aside0.mk (blk_below (g:=gb158) (o:= .cells #[.int .i64 a1_0,.int .i64 a1_1] 24 (0,0)) (by (with_reducible repeat (first|apply bN|apply bd|apply bA));exact BK158.out) hb);have n2_:=Aside0.mk (blk_below (g:=gb159) (o:= .cells #[.int .i64 0,.int .i64 0] 24 (0,0)) (by (with_reducible repeat (first|apply bN|apply bd|apply bA));exact BK159.out) hb);have n3_:=Aside0.mk (below_step (by repeat (first|(with_reducible first|exact HB.out|apply below_alloc|apply pw_below_drewN|apply below_drew1|refine below_set ?_ GE157.out|refine below_set ?_ GE158.out|refine below_set ?_ GE159.out)|exact HB.out)) hb);clear BK157;clear BK158;clear BK159;clear HB;have BK157:=n0_;have BK158:=n1_;have BK159:=n2_;have HB:=n3_;clear n0_ n1_ n2_ n3_;(try clear hb);(try clear hb2);(try clear hk);(try clear hi);have hcz13_0:w12.cell? ⟨gb159,0,none⟩=some (.int .i64 0):=(blk_cell BK159.out 0).trans rfl;have hcz13_1:w12.cell? ⟨gb159,1,none⟩=some (.int .i64 0):=(blk_cell BK159.out 1).trans rfl;have hfz13_0:=blk_frozen BK159.out 0;have hfz13_1:=blk_frozen BK159.out 1))
  refine bodyPost_ret (results_ct rfl _ _ gb159 24 #[.int .i64 t160,.int .i64 t161] (0,0) _ rfl (by (with_reducible repeat (first|apply bN|apply bd|apply bA));refine blk_put (cs:= #[.int .i64 t160,.int .i64 0]) ?_ 1 _ rfl;(with_reducible repeat (first|apply bN|apply bd|apply bA));refine blk_put (cs:= #[.int .i64 0,.int .i64 0]) ?_ 0 _ rfl;(with_reducible repeat (first|apply bN|apply bd|apply bA));exact BK159.out) Try.underlying24 rfl (by kernel_rfl)) rfl ?_
  exact ⟨by first|rfl|(simp [errW_none,errW_some] <;> rfl)|(simp [*,errW_none,errW_some] <;> rfl),by repeat (first|(with_reducible first|exact HB.out|apply below_alloc|apply pw_below_drewN|apply below_drew1|refine below_set ?_ GE157.out|refine below_set ?_ GE158.out|refine below_set ?_ GE159.out)|exact HB.out)⟩
def impl_ExtSub.f (a0_0:Int) (a0_1:Int) (a1_0:Int) (a1_1:Int):Option (Int × Int × Int):=(extTwo_minus.f a0_0 a0_1 a1_0 a1_1).bind fun bt134=> (some (bt134.1,bt134.2.1,bt134.2.2))
set_option maxHeartbeats 8000000 in
set_option maxRecDepth 100000 in
theorem impl_ExtSub.calls (a0_0:Int) (a0_1:Int) (a1_0:Int) (a1_1:Int) (r1:Int) (r2:Int) (r3:Int) (w:World) (h:impl_ExtSub.f a0_0 a0_1 a1_0 a1_1=some (r1,r2,r3)):
    Calls Try.prog 24 #[.agg #[.int .i64 a0_0,.int .i64 a0_1],.agg #[.int .i64 a1_0,.int .i64 a1_1]] w fun e w'=> e= .returned (.tuple #[.agg #[.int .i64 r1,.int .i64 r2],.int .i64 r3]) ∧ Below w.heap.size w w':=by
  have hu24:=Try.underlying24
  have HB:=Aside0.mk (Below.refl w.heap.size w)
  have H:((extTwo_minus.f a0_0 a0_1 a1_0 a1_1).bind fun bt134=> (some (bt134.1,bt134.2.1,bt134.2.2)))=some (r1,r2,r3):=h
  clear h
  replace H:=Option.bind_eq_some_iff.mp H
  obtain ⟨⟨t134,t135,t136⟩,A30,H⟩:=H
  replace H:(some (t134,t135,t136))=some (r1,r2,r3):=H
  have A3:=Aside0.mk A30
  clear A30
  simp only [Option.some.injEq,Prod.mk.injEq] at H
  obtain ⟨rfl,rfl,rfl⟩:=H
  go_enter Try.func24,Try.ntmps24
  go_wp2_with (first|((with_reducible refine gate_dst (N:=2) rfl ?_);refine box_event ?hg (N:=2) ?hd (cs:= #[.int .i64 a0_0,.int .i64 a0_1]) (t:=24) ?hr ?_;(case hd=> rfl);(case hg=> rfl);(case hr=> first|(go_simp;done)|(go_simp;rfl));intro gb131 hg w4 hbox hb;have n0_:=Aside0.mk (below_step (by repeat (first|(with_reducible first|exact HB.out|apply below_alloc|apply pw_below_drewN|apply below_drew1)|exact HB.out)) hb);have n1_:=Aside0.mk (hbox);have n2_:=Aside0.mk ((by rw [hg];exact (below_size (by repeat (first|(with_reducible first|exact HB.out|apply below_alloc|apply pw_below_drewN|apply below_drew1)|exact HB.out))):w.heap.size ≤ gb131));have n3_:=Aside0.mk ((by rw [hg];exact (below_size (by repeat (first|(with_reducible first|exact HB.out|apply below_alloc|apply pw_below_drewN|apply below_drew1)|exact HB.out))):w.heap.size ≤ gb131));clear HB;have HB:=n0_;have BK131:=n1_;have GW131:=n2_;have GE131:=n3_;clear n0_ n1_ n2_ n3_;clear hb hbox hg)|((with_reducible refine gate_dst (N:=3) rfl ?_);refine box_event ?hg (N:=3) ?hd (cs:= #[.int .i64 a1_0,.int .i64 a1_1]) (t:=24) ?hr ?_;(case hd=> rfl);(case hg=> rfl);(case hr=> first|(go_simp;done)|(go_simp;rfl));intro gb132 hg w5 hbox hb;have n0_:=Aside0.mk (blk_below (g:=gb131) (o:= .cells #[.int .i64 a0_0,.int .i64 a0_1] 24 (0,0)) (by (with_reducible repeat (first|apply bN|apply bd|apply bA));exact BK131.out) hb);have n1_:=Aside0.mk (below_step (by repeat (first|(with_reducible first|exact HB.out|apply below_alloc|apply pw_below_drewN|apply below_drew1|refine below_set ?_ GE131.out)|exact HB.out)) hb);have n2_:=Aside0.mk (hbox);have n3_:=Aside0.mk ((by rw [hg];exact (below_size (by repeat (first|(with_reducible first|exact HB.out|apply below_alloc|apply pw_below_drewN|apply below_drew1|refine below_set ?_ GE131.out)|exact HB.out))):w.heap.size ≤ gb132));have n4_:=Aside0.mk ((by rw [hg];exact (below_size (by repeat (first|(with_reducible first|exact HB.out|apply below_alloc|apply pw_below_drewN|apply below_drew1|refine below_set ?_ GE131.out)|exact HB.out))):w.heap.size ≤ gb132));have n5_:=Aside0.mk ((by rw [hg];exact Nat.ne_of_lt (blk_lt (g:=gb131) (o:= .cells #[.int .i64 a0_0,.int .i64 a0_1] 24 (0,0)) (by (with_reducible repeat (first|apply bN|apply bd|apply bA));exact BK131.out)):gb131 ≠ gb132));have n6_:=Aside0.mk ((by rw [hg];exact Nat.ne_of_gt (blk_lt (g:=gb131) (o:= .cells #[.int .i64 a0_0,.int .i64 a0_1] 24 (0,0)) (by (with_reducible repeat (first|apply bN|apply bd|apply bA));exact BK131.out)):gb132 ≠ gb131));clear BK131;clear HB;have BK131:=n0_;have HB:=n1_;have BK132:=n2_;have GW132:=n3_;have GE132:=n4_;have NB131_132:=n5_;have NB132_131:=n6_;clear n0_ n1_ n2_ n3_ n4_ n5_ n6_;clear hb hbox hg)|((with_reducible refine gate_dst (N:=4) rfl ?_);refine box_event ?hg (N:=4) ?hd (cs:= #[.int .i64 0,.int .i64 0]) (t:=24) ?hr ?_;(case hd=> rfl);(case hg=> rfl);(case hr=> first|(go_simp;done)|(go_simp;rfl));intro gb133 hg w6 hbox hb;have n0_:=Aside0.mk (blk_below (g:=gb131) (o:= .cells #[.int .i64 a0_0,.int .i64 a0_1] 24 (0,0)) (by (with_reducible repeat (first|apply bN|apply bd|apply bA));exact BK131.out) hb);have n1_:=Aside0.mk (blk_below (g:=gb132) (o:= .cells #[.int .i64 a1_0,.int .i64 a1_1] 24 (0,0)) (by (with_reducible repeat (first|apply bN|apply bd|apply bA));exact BK132.out) hb);have n2_:=Aside0.mk (below_step (by repeat (first|(with_reducible first|exact HB.out|apply below_alloc|apply pw_below_drewN|apply below_drew1|refine below_set ?_ GE131.out|refine below_set ?_ GE132.out)|exact HB.out)) hb);have n3_:=Aside0.mk (hbox);have n4_:=Aside0.mk ((by rw [hg];exact (below_size (by repeat (first|(with_reducible first|exact HB.out|apply below_alloc|apply pw_below_drewN|apply below_drew1|refine below_set ?_ GE131.out|refine below_set ?_ GE132.out)|exact HB.out))):w.heap.size ≤ gb133));have n5_:=Aside0.mk ((by rw [hg];exact (below_size (by repeat (first|(with_reducible first|exact HB.out|apply below_alloc|apply pw_below_drewN|apply below_drew1|refine below_set ?_ GE131.out|refine below_set ?_ GE132.out)|exact HB.out))):w.heap.size ≤ gb133));have n6_:=Aside0.mk ((by rw [hg];exact Nat.ne_of_lt (blk_lt (g:=gb131) (o:= .cells #[.int .i64 a0_0,.int .i64 a0_1] 24 (0,0)) (by (with_reducible repeat (first|apply bN|apply bd|apply bA));exact BK131.out)):gb131 ≠ gb133));have n7_:=Aside0.mk ((by rw [hg];exact Nat.ne_of_gt (blk_lt (g:=gb131) (o:= .cells #[.int .i64 a0_0,.int .i64 a0_1] 24 (0,0)) (by (with_reducible repeat (first|apply bN|apply bd|apply bA));exact BK131.out)):gb133 ≠ gb131));have n8_:=Aside0.mk ((by rw [hg];exact Nat.ne_of_lt (blk_lt (g:=gb132) (o:= .cells #[.int .i64 a1_0,.int .i64 a1_1] 24 (0,0)) (by (with_reducible repeat (first|apply bN|apply bd|apply bA));exact BK132.out)):gb132 ≠ gb133));have n9_:=Aside0.mk ((by rw [hg];exact Nat.ne_of_gt (blk_lt (g:=gb132) (o:= .cells #[.int .i64 a1_0,.int .i64 a1_1] 24 (0,0)) (by (with_reducible repeat (first|apply bN|apply bd|apply bA));exact BK132.out)):gb133 ≠ gb132));clear BK131;clear BK132;clear HB;have BK131:=n0_;have BK132:=n1_;have HB:=n2_;have BK133:=n3_;have GW133:=n4_;have GE133:=n5_;have NB131_133:=n6_;have NB133_131:=n7_;have NB132_133:=n8_;have NB133_132:=n9_;clear n0_ n1_ n2_ n3_ n4_ n5_ n6_ n7_ n8_ n9_;clear hb hbox hg;have hnb7:=NB131_132.out;have hnc7:=NB132_131.out;have hnb8:=NB131_133.out;have hnc8:=NB133_131.out;have hcz9_0:w6.cell? ⟨gb131,0,none⟩=some (.int .i64 a0_0):=(blk_cell BK131.out 0).trans rfl;have hcz9_1:w6.cell? ⟨gb131,1,none⟩=some (.int .i64 a0_1):=(blk_cell BK131.out 1).trans rfl;have hfz9_0:=blk_frozen BK131.out 0;have hfz9_1:=blk_frozen BK131.out 1;have hnb10:=NB132_133.out;have hnc10:=NB133_132.out;have hcz11_0:w6.cell? ⟨gb132,0,none⟩=some (.int .i64 a1_0):=(blk_cell BK132.out 0).trans rfl;have hcz11_1:w6.cell? ⟨gb132,1,none⟩=some (.int .i64 a1_1):=(blk_cell BK132.out 1).trans rfl;have hfz11_0:=blk_frozen BK132.out 0;have hfz11_1:=blk_frozen BK132.out 1)|((with_reducible refine gate_callee (f:=75) rfl ?_);refine goesL_ (some 8) rfl rfl Try.func75 (by kernel_rfl) rfl #[.agg #[.int .i64 a0_0,.int .i64 a0_1],.agg #[.int .i64 a1_0,.int .i64 a1_1],.func (.func 78) #[] #[]] rfl (by (try simp only [List.map_toArray,List.map_cons,List.map_nil]);first|done|rfl|(simp only [List.length_drop,List.length_take];rfl)) ?_;(with_reducible refine (extTwo_minus.calls a0_0 a0_1 a1_0 a1_1 t134 t135 t136 _ A3.out).mono ?_);rintro e w12 ⟨rfl,hb⟩;refine ⟨_,rfl,?_⟩;have n0_:=Aside0.mk (blk_below (g:=gb131) (o:= .cells #[.int .i64 a0_0,.int .i64 a0_1] 24 (0,0)) (by (with_reducible repeat (first|apply bN|apply bd|apply bA));exact BK131.out) hb);have n1_:=Aside0.mk (blk_below (g:=gb132) (o:= .cells #[.int .i64 a1_0,.int .i64 a1_1] 24 (0,0)) (by (with_reducible repeat (first|apply bN|apply bd|apply bA));exact BK132.out) hb);have n2_:=Aside0.mk (blk_below (g:=gb133) (o:= .cells #[.int .i64 0,.int .i64 0] 24 (0,0)) (by (with_reducible repeat (first|apply bN|apply bd|apply bA));exact BK133.out) hb);have n3_:=Aside0.mk (below_step (by repeat (first|(with_reducible first|exact HB.out|apply below_alloc|apply pw_below_drewN|apply below_drew1|refine below_set ?_ GE131.out|refine below_set ?_ GE132.out|refine below_set ?_ GE133.out)|exact HB.out)) hb);clear BK131;clear BK132;clear BK133;clear HB;have BK131:=n0_;have BK132:=n1_;have BK133:=n2_;have HB:=n3_;clear n0_ n1_ n2_ n3_;(try clear hb);(try clear hb2);(try clear hk);(try clear hi);have hcz13_0:w12.cell? ⟨gb133,0,none⟩=some (.int .i64 0):=(blk_cell BK133.out 0).trans rfl;have hcz13_1:w12.cell? ⟨gb133,1,none⟩=some (.int .i64 0):=(blk_cell BK133.out 1).trans rfl;have hfz13_0:=blk_frozen BK133.out 0;have hfz13_1:=blk_frozen BK133.out 1))
  refine bodyPost_ret (results_ct rfl _ _ gb133 24 #[.int .i64 t134,.int .i64 t135] (0,0) _ rfl (by (with_reducible repeat (first|apply bN|apply bd|apply bA));refine blk_put (cs:= #[.int .i64 t134,.int .i64 0]) ?_ 1 _ rfl;(with_reducible repeat (first|apply bN|apply bd|apply bA));refine blk_put (cs:= #[.int .i64 0,.int .i64 0]) ?_ 0 _ rfl;(with_reducible repeat (first|apply bN|apply bd|apply bA));exact BK133.out) Try.underlying24 rfl (by kernel_rfl)) rfl ?_
  exact ⟨by first|rfl|(simp [errW_none,errW_some] <;> rfl)|(simp [*,errW_none,errW_some] <;> rfl),by repeat (first|(with_reducible first|exact HB.out|apply below_alloc|apply pw_below_drewN|apply below_drew1|refine below_set ?_ GE131.out|refine below_set ?_ GE132.out|refine below_set ?_ GE133.out)|exact HB.out)⟩
def impl_Ext_norm.f (a0_0:Int) (a0_1:Int):Option (Int):=(impl_mul.f a0_0 a0_0).bind fun t216=> ((impl_mul.f a0_1 a0_1).bind fun t217=> ((impl_mul.f 3 t217).bind fun t218=> ((impl_sub.f t216 t218).bind fun t219=> (some t219))))
set_option maxHeartbeats 8000000 in
set_option maxRecDepth 100000 in
theorem impl_Ext_norm.calls (a0_0:Int) (a0_1:Int) (r:Int) (w:World) (h:impl_Ext_norm.f a0_0 a0_1=some r):
    Calls Try.prog 103 #[.agg #[.int .i64 a0_0,.int .i64 a0_1]] w fun e w'=> e= .returned (.int .i64 r) ∧ Below w.heap.size w w':=by
  have hu24:=Try.underlying24
  have HB:=Aside0.mk (Below.refl w.heap.size w)
  have H:((impl_mul.f a0_0 a0_0).bind fun t216=> ((impl_mul.f a0_1 a0_1).bind fun t217=> ((impl_mul.f 3 t217).bind fun t218=> ((impl_sub.f t216 t218).bind fun t219=> (some t219)))))=some r:=h
  clear h
  replace H:=Option.bind_eq_some_iff.mp H
  obtain ⟨t216,A20,H⟩:=H
  replace H:((impl_mul.f a0_1 a0_1).bind fun t217=> ((impl_mul.f 3 t217).bind fun t218=> ((impl_sub.f t216 t218).bind fun t219=> (some t219))))=some r:=H
  have A2:=Aside0.mk A20
  clear A20
  replace H:=Option.bind_eq_some_iff.mp H
  obtain ⟨t217,A30,H⟩:=H
  replace H:((impl_mul.f 3 t217).bind fun t218=> ((impl_sub.f t216 t218).bind fun t219=> (some t219)))=some r:=H
  have A3:=Aside0.mk A30
  clear A30
  replace H:=Option.bind_eq_some_iff.mp H
  obtain ⟨t218,A40,H⟩:=H
  replace H:((impl_sub.f t216 t218).bind fun t219=> (some t219))=some r:=H
  have A4:=Aside0.mk A40
  clear A40
  replace H:=Option.bind_eq_some_iff.mp H
  obtain ⟨t219,A50,H⟩:=H
  replace H:(some t219)=some r:=H
  have A5:=Aside0.mk A50
  clear A50
  obtain rfl:=Option.some.inj H
  go_enter Try.func103,Try.ntmps103
  go_wp2_with (first|((with_reducible refine gate_dst (N:=1) rfl ?_);refine box_event ?hg (N:=1) ?hd (cs:= #[.int .i64 a0_0,.int .i64 a0_1]) (t:=24) ?hr ?_;(case hd=> rfl);(case hg=> rfl);(case hr=> first|(go_simp;done)|(go_simp;rfl));intro gb215 hg w6 hbox hb;have n0_:=Aside0.mk (below_step (by repeat (first|(with_reducible first|exact HB.out|apply below_alloc|apply pw_below_drewN|apply below_drew1)|exact HB.out)) hb);have n1_:=Aside0.mk (hbox);have n2_:=Aside0.mk ((by rw [hg];exact (below_size (by repeat (first|(with_reducible first|exact HB.out|apply below_alloc|apply pw_below_drewN|apply below_drew1)|exact HB.out))):w.heap.size ≤ gb215));have n3_:=Aside0.mk ((by rw [hg];exact (below_size (by repeat (first|(with_reducible first|exact HB.out|apply below_alloc|apply pw_below_drewN|apply below_drew1)|exact HB.out))):w.heap.size ≤ gb215));clear HB;have HB:=n0_;have BK215:=n1_;have GW215:=n2_;have GE215:=n3_;clear n0_ n1_ n2_ n3_;clear hb hbox hg;have hcz7_0:w6.cell? ⟨gb215,0,none⟩=some (.int .i64 a0_0):=(blk_cell BK215.out 0).trans rfl;have hcz7_1:w6.cell? ⟨gb215,1,none⟩=some (.int .i64 a0_1):=(blk_cell BK215.out 1).trans rfl;have hfz7_0:=blk_frozen BK215.out 0;have hfz7_1:=blk_frozen BK215.out 1)|(go_at_call 89;(with_reducible refine (impl_mul.calls a0_0 a0_0 t216 _ A2.out).mono ?_);rintro e w' ⟨rfl,⟨nd,rfl⟩⟩;(try first|exact ⟨rfl,_,World.drewN_drewN _ _ _⟩|exact ⟨rfl,_,Eq.trans (World.drewN_drewN _ _ _) (congrArg (World.drewN _) (Nat.add_assoc _ _ _))⟩))|(go_at_call 89;(with_reducible refine (impl_mul.calls a0_1 a0_1 t217 _ A3.out).mono ?_);rintro e w' ⟨rfl,⟨nd,rfl⟩⟩;(try first|exact ⟨rfl,_,World.drewN_drewN _ _ _⟩|exact ⟨rfl,_,Eq.trans (World.drewN_drewN _ _ _) (congrArg (World.drewN _) (Nat.add_assoc _ _ _))⟩))|(go_at_call 89;(with_reducible refine (impl_mul.calls 3 t217 t218 _ A4.out).mono ?_);rintro e w' ⟨rfl,⟨nd,rfl⟩⟩;(try first|exact ⟨rfl,_,World.drewN_drewN _ _ _⟩|exact ⟨rfl,_,Eq.trans (World.drewN_drewN _ _ _) (congrArg (World.drewN _) (Nat.add_assoc _ _ _))⟩))|(go_at_call 100;(with_reducible refine (impl_sub.calls t216 t218 t219 _ A5.out).mono ?_);rintro e w' ⟨rfl,⟨nd,rfl⟩⟩;(try first|exact ⟨rfl,_,World.drewN_drewN _ _ _⟩|exact ⟨rfl,_,Eq.trans (World.drewN_drewN _ _ _) (congrArg (World.drewN _) (Nat.add_assoc _ _ _))⟩)))
  repeat (go_quiet (first|((with_reducible refine gate_dst (N:=1) rfl ?_);refine box_event ?hg (N:=1) ?hd (cs:= #[.int .i64 a0_0,.int .i64 a0_1]) (t:=24) ?hr ?_;(case hd=> rfl);(case hg=> rfl);(case hr=> first|(go_simp;done)|(go_simp;rfl));intro gb215 hg w6 hbox hb;have n0_:=Aside0.mk (below_step (by repeat (first|(with_reducible first|exact HB.out|apply below_alloc|apply pw_below_drewN|apply below_drew1)|exact HB.out)) hb);have n1_:=Aside0.mk (hbox);have n2_:=Aside0.mk ((by rw [hg];exact (below_size (by repeat (first|(with_reducible first|exact HB.out|apply below_alloc|apply pw_below_drewN|apply below_drew1)|exact HB.out))):w.heap.size ≤ gb215));have n3_:=Aside0.mk ((by rw [hg];exact (below_size (by repeat (first|(with_reducible first|exact HB.out|apply below_alloc|apply pw_below_drewN|apply below_drew1)|exact HB.out))):w.heap.size ≤ gb215));clear HB;have HB:=n0_;have BK215:=n1_;have GW215:=n2_;have GE215:=n3_;clear n0_ n1_ n2_ n3_;clear hb hbox hg;have hcz7_0:w6.cell? ⟨gb215,0,none⟩=some (.int .i64 a0_0):=(blk_cell BK215.out 0).trans rfl;have hcz7_1:w6.cell? ⟨gb215,1,none⟩=some (.int .i64 a0_1):=(blk_cell BK215.out 1).trans rfl;have hfz7_0:=blk_frozen BK215.out 0;have hfz7_1:=blk_frozen BK215.out 1)|(go_at_call 89;(with_reducible refine (impl_mul.calls a0_0 a0_0 t216 _ A2.out).mono ?_);rintro e w' ⟨rfl,⟨nd,rfl⟩⟩;(try first|exact ⟨rfl,_,World.drewN_drewN _ _ _⟩|exact ⟨rfl,_,Eq.trans (World.drewN_drewN _ _ _) (congrArg (World.drewN _) (Nat.add_assoc _ _ _))⟩))|(go_at_call 89;(with_reducible refine (impl_mul.calls a0_1 a0_1 t217 _ A3.out).mono ?_);rintro e w' ⟨rfl,⟨nd,rfl⟩⟩;(try first|exact ⟨rfl,_,World.drewN_drewN _ _ _⟩|exact ⟨rfl,_,Eq.trans (World.drewN_drewN _ _ _) (congrArg (World.drewN _) (Nat.add_assoc _ _ _))⟩))|(go_at_call 89;(with_reducible refine (impl_mul.calls 3 t217 t218 _ A4.out).mono ?_);rintro e w' ⟨rfl,⟨nd,rfl⟩⟩;(try first|exact ⟨rfl,_,World.drewN_drewN _ _ _⟩|exact ⟨rfl,_,Eq.trans (World.drewN_drewN _ _ _) (congrArg (World.drewN _) (Nat.add_assoc _ _ _))⟩))|(go_at_call 100;(with_reducible refine (impl_sub.calls t216 t218 t219 _ A5.out).mono ?_);rintro e w' ⟨rfl,⟨nd,rfl⟩⟩;(try first|exact ⟨rfl,_,World.drewN_drewN _ _ _⟩|exact ⟨rfl,_,Eq.trans (World.drewN_drewN _ _ _) (congrArg (World.drewN _) (Nat.add_assoc _ _ _))⟩)));try go_wp2_with (first|((with_reducible refine gate_dst (N:=1) rfl ?_);refine box_event ?hg (N:=1) ?hd (cs:= #[.int .i64 a0_0,.int .i64 a0_1]) (t:=24) ?hr ?_;(case hd=> rfl);(case hg=> rfl);(case hr=> first|(go_simp;done)|(go_simp;rfl));intro gb215 hg w6 hbox hb;have n0_:=Aside0.mk (below_step (by repeat (first|(with_reducible first|exact HB.out|apply below_alloc|apply pw_below_drewN|apply below_drew1)|exact HB.out)) hb);have n1_:=Aside0.mk (hbox);have n2_:=Aside0.mk ((by rw [hg];exact (below_size (by repeat (first|(with_reducible first|exact HB.out|apply below_alloc|apply pw_below_drewN|apply below_drew1)|exact HB.out))):w.heap.size ≤ gb215));have n3_:=Aside0.mk ((by rw [hg];exact (below_size (by repeat (first|(with_reducible first|exact HB.out|apply below_alloc|apply pw_below_drewN|apply below_drew1)|exact HB.out))):w.heap.size ≤ gb215));clear HB;have HB:=n0_;have BK215:=n1_;have GW215:=n2_;have GE215:=n3_;clear n0_ n1_ n2_ n3_;clear hb hbox hg;have hcz7_0:w6.cell? ⟨gb215,0,none⟩=some (.int .i64 a0_0):=(blk_cell BK215.out 0).trans rfl;have hcz7_1:w6.cell? ⟨gb215,1,none⟩=some (.int .i64 a0_1):=(blk_cell BK215.out 1).trans rfl;have hfz7_0:=blk_frozen BK215.out 0;have hfz7_1:=blk_frozen BK215.out 1)|(go_at_call 89;(with_reducible refine (impl_mul.calls a0_0 a0_0 t216 _ A2.out).mono ?_);rintro e w' ⟨rfl,⟨nd,rfl⟩⟩;(try first|exact ⟨rfl,_,World.drewN_drewN _ _ _⟩|exact ⟨rfl,_,Eq.trans (World.drewN_drewN _ _ _) (congrArg (World.drewN _) (Nat.add_assoc _ _ _))⟩))|(go_at_call 89;(with_reducible refine (impl_mul.calls a0_1 a0_1 t217 _ A3.out).mono ?_);rintro e w' ⟨rfl,⟨nd,rfl⟩⟩;(try first|exact ⟨rfl,_,World.drewN_drewN _ _ _⟩|exact ⟨rfl,_,Eq.trans (World.drewN_drewN _ _ _) (congrArg (World.drewN _) (Nat.add_assoc _ _ _))⟩))|(go_at_call 89;(with_reducible refine (impl_mul.calls 3 t217 t218 _ A4.out).mono ?_);rintro e w' ⟨rfl,⟨nd,rfl⟩⟩;(try first|exact ⟨rfl,_,World.drewN_drewN _ _ _⟩|exact ⟨rfl,_,Eq.trans (World.drewN_drewN _ _ _) (congrArg (World.drewN _) (Nat.add_assoc _ _ _))⟩))|(go_at_call 100;(with_reducible refine (impl_sub.calls t216 t218 t219 _ A5.out).mono ?_);rintro e w' ⟨rfl,⟨nd,rfl⟩⟩;(try first|exact ⟨rfl,_,World.drewN_drewN _ _ _⟩|exact ⟨rfl,_,Eq.trans (World.drewN_drewN _ _ _) (congrArg (World.drewN _) (Nat.add_assoc _ _ _))⟩))))
  go_ret
  exact ⟨by first|rfl|(simp [errW_none,errW_some] <;> rfl)|(simp [*,errW_none,errW_some] <;> rfl),by repeat (first|(with_reducible first|exact HB.out|apply below_alloc|apply pw_below_drewN|apply below_drew1|refine below_set ?_ GE215.out)|exact HB.out)⟩
def impl_Mul.f (a0:Int) (a1:Int):Option (Int × Int):=(two_mul.f a0 a1).bind fun bt163=> (some (bt163.1,bt163.2))
set_option maxHeartbeats 8000000 in
set_option maxRecDepth 100000 in
theorem impl_Mul.calls (a0:Int) (a1:Int) (r1:Int) (r2:Int) (w:World) (h:impl_Mul.f a0 a1=some (r1,r2)):
    Calls Try.prog 33 #[.int .i64 a0,.int .i64 a1] w fun e w'=> e= .returned (.tuple #[.int .i64 r1,.int .i64 r2]) ∧ Drawn0 w w':=by
  have H:((two_mul.f a0 a1).bind fun bt163=> (some (bt163.1,bt163.2)))=some (r1,r2):=h
  clear h
  replace H:=Option.bind_eq_some_iff.mp H
  obtain ⟨⟨t163,t164⟩,A30,H⟩:=H
  replace H:(some (t163,t164))=some (r1,r2):=H
  have A3:=Aside0.mk A30
  clear A30
  simp only [Option.some.injEq,Prod.mk.injEq] at H
  obtain ⟨rfl,rfl⟩:=H
  go_enter Try.func33,Try.ntmps33
  go_wp2_with (first|((with_reducible refine gate_callee (f:=88) rfl ?_);refine goesL_ (some 8) rfl rfl Try.func88 (by kernel_rfl) rfl #[.int .i64 a0,.int .i64 a1,.func (.func 89) #[] #[]] rfl (by (try simp only [List.map_toArray,List.map_cons,List.map_nil]);first|done|rfl|(simp only [List.length_drop,List.length_take];rfl)) ?_;(with_reducible refine (two_mul.calls a0 a1 t163 t164 _ A3.out).mono ?_);rintro e w' ⟨rfl,⟨nd,rfl⟩⟩;refine ⟨_,rfl,?_⟩))
  go_ret2
  exact ⟨by first|rfl|(simp;done)|(simp [*];done),by repeat (first|exact Drawn0.refl _|apply Drawn0.step)⟩
def impl_Norm.f (a0_0:Int) (a0_1:Int):Option (Int × Int):=(impl_ExtOK.f a0_0 a0_1).bind fun t221=> (if t221=true then ((impl_Ext_norm.f a0_0 a0_1).bind fun t222=> (some (t222,0))) else (some (0,1)))
set_option maxHeartbeats 8000000 in
set_option maxRecDepth 100000 in
theorem impl_Norm.calls (a0_0:Int) (a0_1:Int) (r1:Int) (r2:Int) (w:World) (h:impl_Norm.f a0_0 a0_1=some (r1,r2)):
    Calls Try.prog 45 #[.agg #[.int .i64 a0_0,.int .i64 a0_1]] w fun e w'=> e= .returned (.tuple #[.int .i64 r1,.int .i64 r2]) ∧ Below w.heap.size w w':=by
  have hu24:=Try.underlying24
  have HB:=Aside0.mk (Below.refl w.heap.size w)
  have H:((impl_ExtOK.f a0_0 a0_1).bind fun t221=> (if t221=true then ((impl_Ext_norm.f a0_0 a0_1).bind fun t222=> (some (t222,0))) else (some (0,1))))=some (r1,r2):=h
  clear h
  replace H:=Option.bind_eq_some_iff.mp H
  obtain ⟨t221,A20,H⟩:=H
  replace H:(if t221=true then ((impl_Ext_norm.f a0_0 a0_1).bind fun t222=> (some (t222,0))) else (some (0,1)))=some (r1,r2):=H
  have A2:=Aside0.mk A20
  clear A20
  by_cases c3:t221=true
  · subst c3
    have H1:((impl_Ext_norm.f a0_0 a0_1).bind fun t222=> (some (t222,0)))=some (r1,r2):=by rw [if_pos rfl] at H;exact H
    clear H
    have H:=H1
    clear H1
    replace H:=Option.bind_eq_some_iff.mp H
    obtain ⟨t222,A40,H⟩:=H
    replace H:(some (t222,0))=some (r1,r2):=H
    have A4:=Aside0.mk A40
    clear A40
    simp only [Option.some.injEq,Prod.mk.injEq] at H
    obtain ⟨rfl,rfl⟩:=H
    go_enter Try.func45,Try.ntmps45
    go_wp2_with (first|((with_reducible refine gate_dst (N:=1) rfl ?_);refine box_event ?hg (N:=1) ?hd (cs:= #[.int .i64 a0_0,.int .i64 a0_1]) (t:=24) ?hr ?_;(case hd=> rfl);(case hg=> rfl);(case hr=> first|(go_simp;done)|(go_simp;rfl));intro gb220 hg w5 hbox hb;have n0_:=Aside0.mk (below_step (by repeat (first|(with_reducible first|exact HB.out|apply below_alloc|apply pw_below_drewN|apply below_drew1)|exact HB.out)) hb);have n1_:=Aside0.mk (hbox);have n2_:=Aside0.mk ((by rw [hg];exact (below_size (by repeat (first|(with_reducible first|exact HB.out|apply below_alloc|apply pw_below_drewN|apply below_drew1)|exact HB.out))):w.heap.size ≤ gb220));have n3_:=Aside0.mk ((by rw [hg];exact (below_size (by repeat (first|(with_reducible first|exact HB.out|apply below_alloc|apply pw_below_drewN|apply below_drew1)|exact HB.out))):w.heap.size ≤ gb220));clear HB;have HB:=n0_;have BK220:=n1_;have GW220:=n2_;have GE220:=n3_;clear n0_ n1_ n2_ n3_;clear hb hbox hg;have hcz6_0:w5.cell? ⟨gb220,0,none⟩=some (.int .i64 a0_0):=(blk_cell BK220.out 0).trans rfl;have hcz6_1:w5.cell? ⟨gb220,1,none⟩=some (.int .i64 a0_1):=(blk_cell BK220.out 1).trans rfl;have hfz6_0:=blk_frozen BK220.out 0;have hfz6_1:=blk_frozen BK220.out 1)|((with_reducible refine gate_callee (f:=93) rfl ?_);refine goesL_ (some 5) rfl rfl Try.func93 (by kernel_rfl) rfl #[.agg #[.int .i64 a0_0,.int .i64 a0_1]] rfl (by (try simp only [List.map_toArray,List.map_cons,List.map_nil]);first|done|rfl|(simp only [List.length_drop,List.length_take];rfl)) ?_;(with_reducible refine (impl_ExtOK.calls a0_0 a0_1 true _ A2.out).mono ?_);rintro e w7 ⟨rfl,hb⟩;refine ⟨_,rfl,?_⟩;have n0_:=Aside0.mk (blk_below (g:=gb220) (o:= .cells #[.int .i64 a0_0,.int .i64 a0_1] 24 (0,0)) (by (with_reducible repeat (first|apply bN|apply bd|apply bA));exact BK220.out) hb);have n1_:=Aside0.mk (below_step (by repeat (first|(with_reducible first|exact HB.out|apply below_alloc|apply pw_below_drewN|apply below_drew1|refine below_set ?_ GE220.out)|exact HB.out)) hb);clear BK220;clear HB;have BK220:=n0_;have HB:=n1_;clear n0_ n1_;(try clear hb);(try clear hb2);(try clear hk);(try clear hi);have hcz8_0:w7.cell? ⟨gb220,0,none⟩=some (.int .i64 a0_0):=(blk_cell BK220.out 0).trans rfl;have hcz8_1:w7.cell? ⟨gb220,1,none⟩=some (.int .i64 a0_1):=(blk_cell BK220.out 1).trans rfl;have hfz8_0:=blk_frozen BK220.out 0;have hfz8_1:=blk_frozen BK220.out 1)|((with_reducible refine gate_callee (f:=103) rfl ?_);refine goesL_ (some 8) rfl rfl Try.func103 (by kernel_rfl) rfl #[.agg #[.int .i64 a0_0,.int .i64 a0_1]] rfl (by (try simp only [List.map_toArray,List.map_cons,List.map_nil]);first|done|rfl|(simp only [List.length_drop,List.length_take];rfl)) ?_;(with_reducible refine (impl_Ext_norm.calls a0_0 a0_1 t222 _ A4.out).mono ?_);rintro e w9 ⟨rfl,hb⟩;refine ⟨_,rfl,?_⟩;have n0_:=Aside0.mk (blk_below (g:=gb220) (o:= .cells #[.int .i64 a0_0,.int .i64 a0_1] 24 (0,0)) (by (with_reducible repeat (first|apply bN|apply bd|apply bA));exact BK220.out) hb);have n1_:=Aside0.mk (below_step (by repeat (first|(with_reducible first|exact HB.out|apply below_alloc|apply pw_below_drewN|apply below_drew1|refine below_set ?_ GE220.out)|exact HB.out)) hb);clear BK220;clear HB;have BK220:=n0_;have HB:=n1_;clear n0_ n1_;(try clear hb);(try clear hb2);(try clear hk);(try clear hi)))
    go_ret2
    exact ⟨by first|rfl|(simp [errW_none,errW_some] <;> rfl)|(simp [*,errW_none,errW_some] <;> rfl),by repeat (first|(with_reducible first|exact HB.out|apply below_alloc|apply pw_below_drewN|apply below_drew1|refine below_set ?_ GE220.out)|exact HB.out)⟩
  · replace c3:=Bool.eq_false_iff.mpr c3
    subst c3
    have H1:(some (0,1))=some (r1,r2):=by rw [if_neg (show ¬ (false=true) by decide)] at H;exact H
    clear H
    have H:=H1
    clear H1
    simp only [Option.some.injEq,Prod.mk.injEq] at H
    obtain ⟨rfl,rfl⟩:=H
    go_enter Try.func45,Try.ntmps45
    go_wp2_with (first|((with_reducible refine gate_dst (N:=1) rfl ?_);refine box_event ?hg (N:=1) ?hd (cs:= #[.int .i64 a0_0,.int .i64 a0_1]) (t:=24) ?hr ?_;(case hd=> rfl);(case hg=> rfl);(case hr=> first|(go_simp;done)|(go_simp;rfl));intro gb220 hg w10 hbox hb;have n0_:=Aside0.mk (below_step (by repeat (first|(with_reducible first|exact HB.out|apply below_alloc|apply pw_below_drewN|apply below_drew1)|exact HB.out)) hb);have n1_:=Aside0.mk (hbox);have n2_:=Aside0.mk ((by rw [hg];exact (below_size (by repeat (first|(with_reducible first|exact HB.out|apply below_alloc|apply pw_below_drewN|apply below_drew1)|exact HB.out))):w.heap.size ≤ gb220));have n3_:=Aside0.mk ((by rw [hg];exact (below_size (by repeat (first|(with_reducible first|exact HB.out|apply below_alloc|apply pw_below_drewN|apply below_drew1)|exact HB.out))):w.heap.size ≤ gb220));clear HB;have HB:=n0_;have BK220:=n1_;have GW220:=n2_;have GE220:=n3_;clear n0_ n1_ n2_ n3_;clear hb hbox hg;have hcz11_0:w10.cell? ⟨gb220,0,none⟩=some (.int .i64 a0_0):=(blk_cell BK220.out 0).trans rfl;have hcz11_1:w10.cell? ⟨gb220,1,none⟩=some (.int .i64 a0_1):=(blk_cell BK220.out 1).trans rfl;have hfz11_0:=blk_frozen BK220.out 0;have hfz11_1:=blk_frozen BK220.out 1)|((with_reducible refine gate_callee (f:=93) rfl ?_);refine goesL_ (some 5) rfl rfl Try.func93 (by kernel_rfl) rfl #[.agg #[.int .i64 a0_0,.int .i64 a0_1]] rfl (by (try simp only [List.map_toArray,List.map_cons,List.map_nil]);first|done|rfl|(simp only [List.length_drop,List.length_take];rfl)) ?_;(with_reducible refine (impl_ExtOK.calls a0_0 a0_1 false _ A2.out).mono ?_);rintro e w12 ⟨rfl,hb⟩;refine ⟨_,rfl,?_⟩;have n0_:=Aside0.mk (blk_below (g:=gb220) (o:= .cells #[.int .i64 a0_0,.int .i64 a0_1] 24 (0,0)) (by (with_reducible repeat (first|apply bN|apply bd|apply bA));exact BK220.out) hb);have n1_:=Aside0.mk (below_step (by repeat (first|(with_reducible first|exact HB.out|apply below_alloc|apply pw_below_drewN|apply below_drew1|refine below_set ?_ GE220.out)|exact HB.out)) hb);clear BK220;clear HB;have BK220:=n0_;have HB:=n1_;clear n0_ n1_;(try clear hb);(try clear hb2);(try clear hk);(try clear hi)))
    go_ret2
    exact ⟨by first|rfl|(simp [errW_none,errW_some] <;> rfl)|(simp [*,errW_none,errW_some] <;> rfl),by repeat (first|(with_reducible first|exact HB.out|apply below_alloc|apply pw_below_drewN|apply below_drew1|refine below_set ?_ GE220.out)|exact HB.out)⟩
def spec_l01In.f (a0:Int) (a1:Int) (a2:Int):Option (Bool):=if a1 ≤ a0 then (some (decide (a0 ≤ a2))) else (some false)
set_option maxHeartbeats 8000000 in
set_option maxRecDepth 100000 in
theorem spec_l01In.calls (a0:Int) (a1:Int) (a2:Int) (r:Bool) (w:World) (h:spec_l01In.f a0 a1 a2=some r):
    Calls Try.prog 90 #[.int .i64 a0,.int .i64 a1,.int .i64 a2] w fun e w'=> e= .returned (.bool r) ∧ Drawn0 w w':=by
  have H:(if a1 ≤ a0 then (some (decide (a0 ≤ a2))) else (some false))=some r:=h
  clear h
  by_cases c4:a1 ≤ a0
  · rw [if_pos c4] at H
    have c4b0:decide (a1 ≤ a0)=true:=decide_eq_true c4
    clear c4
    obtain rfl:=Option.some.inj H
    go_enter Try.func90,Try.ntmps90
    go_wp2
    go_ret
    exact ⟨by first|rfl|(simp;done)|(simp [*];done),by repeat (first|exact Drawn0.refl _|apply Drawn0.step)⟩
  · rw [if_neg c4] at H
    have c4b0:decide (a1 ≤ a0)=false:=decide_eq_false c4
    clear c4
    obtain rfl:=Option.some.inj H
    go_enter Try.func90,Try.ntmps90
    go_wp2
    go_ret
    exact ⟨by first|rfl|(simp;done)|(simp [*];done),by repeat (first|exact Drawn0.refl _|apply Drawn0.step)⟩
def spec_FieldOK.f (a0:Int):Option (Bool):=(spec_l01In.f a0 0 2130706432).bind fun t137=> (some t137)
set_option maxHeartbeats 8000000 in
set_option maxRecDepth 100000 in
theorem spec_FieldOK.calls (a0:Int) (r:Bool) (w:World) (h:spec_FieldOK.f a0=some r):
    Calls Try.prog 81 #[.int .i64 a0] w fun e w'=> e= .returned (.bool r) ∧ Drawn0 w w':=by
  have H:((spec_l01In.f a0 0 2130706432).bind fun t137=> (some t137))=some r:=h
  clear h
  replace H:=Option.bind_eq_some_iff.mp H
  obtain ⟨t137,A20,H⟩:=H
  replace H:(some t137)=some r:=H
  have A2:=Aside0.mk A20
  clear A20
  obtain rfl:=Option.some.inj H
  go_enter Try.func81,Try.ntmps81
  go_wp2_with (first|((with_reducible refine gate_callee (f:=90) rfl ?_);refine goesL_ (some 4) rfl rfl Try.func90 (by kernel_rfl) rfl #[.int .i64 a0,.int .i64 0,.int .i64 2130706432] rfl (by (try simp only [List.map_toArray,List.map_cons,List.map_nil]);first|done|rfl|(simp only [List.length_drop,List.length_take];rfl)) ?_;(with_reducible refine (spec_l01In.calls a0 0 2130706432 t137 _ A2.out).mono ?_);rintro e w' ⟨rfl,⟨nd,rfl⟩⟩;refine ⟨_,rfl,?_⟩))
  go_ret
  exact ⟨by first|rfl|(simp;done)|(simp [*];done),by repeat (first|exact Drawn0.refl _|apply Drawn0.step)⟩
def spec_ExtOK.f (a0_0:Int) (a0_1:Int):Option (Bool):=(spec_FieldOK.f a0_0).bind fun t139=> (if t139=true then ((spec_FieldOK.f a0_1).bind fun t140=> (some t140)) else (some false))
set_option maxHeartbeats 8000000 in
set_option maxRecDepth 100000 in
theorem spec_ExtOK.calls (a0_0:Int) (a0_1:Int) (r:Bool) (w:World) (h:spec_ExtOK.f a0_0 a0_1=some r):
    Calls Try.prog 73 #[.agg #[.int .i64 a0_0,.int .i64 a0_1]] w fun e w'=> e= .returned (.bool r) ∧ Below w.heap.size w w':=by
  have hu24:=Try.underlying24
  have HB:=Aside0.mk (Below.refl w.heap.size w)
  have H:((spec_FieldOK.f a0_0).bind fun t139=> (if t139=true then ((spec_FieldOK.f a0_1).bind fun t140=> (some t140)) else (some false)))=some r:=h
  clear h
  replace H:=Option.bind_eq_some_iff.mp H
  obtain ⟨t139,A20,H⟩:=H
  replace H:(if t139=true then ((spec_FieldOK.f a0_1).bind fun t140=> (some t140)) else (some false))=some r:=H
  have A2:=Aside0.mk A20
  clear A20
  by_cases c3:t139=true
  · subst c3
    have H1:((spec_FieldOK.f a0_1).bind fun t140=> (some t140))=some r:=by rw [if_pos rfl] at H;exact H
    clear H
    have H:=H1
    clear H1
    replace H:=Option.bind_eq_some_iff.mp H
    obtain ⟨t140,A40,H⟩:=H
    replace H:(some t140)=some r:=H
    have A4:=Aside0.mk A40
    clear A40
    obtain rfl:=Option.some.inj H
    go_enter Try.func73,Try.ntmps73
    go_wp2_with (first|((with_reducible refine gate_dst (N:=1) rfl ?_);refine box_event ?hg (N:=1) ?hd (cs:= #[.int .i64 a0_0,.int .i64 a0_1]) (t:=24) ?hr ?_;(case hd=> rfl);(case hg=> rfl);(case hr=> first|(go_simp;done)|(go_simp;rfl));intro gb138 hg w5 hbox hb;have n0_:=Aside0.mk (below_step (by repeat (first|(with_reducible first|exact HB.out|apply below_alloc|apply pw_below_drewN|apply below_drew1)|exact HB.out)) hb);have n1_:=Aside0.mk (hbox);have n2_:=Aside0.mk ((by rw [hg];exact (below_size (by repeat (first|(with_reducible first|exact HB.out|apply below_alloc|apply pw_below_drewN|apply below_drew1)|exact HB.out))):w.heap.size ≤ gb138));have n3_:=Aside0.mk ((by rw [hg];exact (below_size (by repeat (first|(with_reducible first|exact HB.out|apply below_alloc|apply pw_below_drewN|apply below_drew1)|exact HB.out))):w.heap.size ≤ gb138));clear HB;have HB:=n0_;have BK138:=n1_;have GW138:=n2_;have GE138:=n3_;clear n0_ n1_ n2_ n3_;clear hb hbox hg;have hcz6_0:w5.cell? ⟨gb138,0,none⟩=some (.int .i64 a0_0):=(blk_cell BK138.out 0).trans rfl;have hcz6_1:w5.cell? ⟨gb138,1,none⟩=some (.int .i64 a0_1):=(blk_cell BK138.out 1).trans rfl;have hfz6_0:=blk_frozen BK138.out 0;have hfz6_1:=blk_frozen BK138.out 1)|((with_reducible refine gate_callee (f:=81) rfl ?_);refine goesL_ (some 5) rfl rfl Try.func81 (by kernel_rfl) rfl #[.int .i64 a0_0] rfl (by (try simp only [List.map_toArray,List.map_cons,List.map_nil]);first|done|rfl|(simp only [List.length_drop,List.length_take];rfl)) ?_;(with_reducible refine (spec_FieldOK.calls a0_0 true _ A2.out).mono ?_);rintro e w' ⟨rfl,⟨nd,rfl⟩⟩;refine ⟨_,rfl,?_⟩)|(go_at_call 81;(with_reducible refine (spec_FieldOK.calls a0_1 t140 _ A4.out).mono ?_);rintro e w' ⟨rfl,⟨nd,rfl⟩⟩))
    go_ret
    exact ⟨by first|rfl|(simp [errW_none,errW_some] <;> rfl)|(simp [*,errW_none,errW_some] <;> rfl),by repeat (first|(with_reducible first|exact HB.out|apply below_alloc|apply pw_below_drewN|apply below_drew1|refine below_set ?_ GE138.out)|exact HB.out)⟩
  · replace c3:=Bool.eq_false_iff.mpr c3
    subst c3
    have H1:(some false)=some r:=by rw [if_neg (show ¬ (false=true) by decide)] at H;exact H
    clear H
    have H:=H1
    clear H1
    obtain rfl:=Option.some.inj H
    go_enter Try.func73,Try.ntmps73
    go_wp2_with (first|((with_reducible refine gate_dst (N:=1) rfl ?_);refine box_event ?hg (N:=1) ?hd (cs:= #[.int .i64 a0_0,.int .i64 a0_1]) (t:=24) ?hr ?_;(case hd=> rfl);(case hg=> rfl);(case hr=> first|(go_simp;done)|(go_simp;rfl));intro gb138 hg w7 hbox hb;have n0_:=Aside0.mk (below_step (by repeat (first|(with_reducible first|exact HB.out|apply below_alloc|apply pw_below_drewN|apply below_drew1)|exact HB.out)) hb);have n1_:=Aside0.mk (hbox);have n2_:=Aside0.mk ((by rw [hg];exact (below_size (by repeat (first|(with_reducible first|exact HB.out|apply below_alloc|apply pw_below_drewN|apply below_drew1)|exact HB.out))):w.heap.size ≤ gb138));have n3_:=Aside0.mk ((by rw [hg];exact (below_size (by repeat (first|(with_reducible first|exact HB.out|apply below_alloc|apply pw_below_drewN|apply below_drew1)|exact HB.out))):w.heap.size ≤ gb138));clear HB;have HB:=n0_;have BK138:=n1_;have GW138:=n2_;have GE138:=n3_;clear n0_ n1_ n2_ n3_;clear hb hbox hg;have hcz8_0:w7.cell? ⟨gb138,0,none⟩=some (.int .i64 a0_0):=(blk_cell BK138.out 0).trans rfl;have hcz8_1:w7.cell? ⟨gb138,1,none⟩=some (.int .i64 a0_1):=(blk_cell BK138.out 1).trans rfl;have hfz8_0:=blk_frozen BK138.out 0;have hfz8_1:=blk_frozen BK138.out 1)|((with_reducible refine gate_callee (f:=81) rfl ?_);refine goesL_ (some 5) rfl rfl Try.func81 (by kernel_rfl) rfl #[.int .i64 a0_0] rfl (by (try simp only [List.map_toArray,List.map_cons,List.map_nil]);first|done|rfl|(simp only [List.length_drop,List.length_take];rfl)) ?_;(with_reducible refine (spec_FieldOK.calls a0_0 false _ A2.out).mono ?_);rintro e w' ⟨rfl,⟨nd,rfl⟩⟩;refine ⟨_,rfl,?_⟩))
    go_ret
    exact ⟨by first|rfl|(simp [errW_none,errW_some] <;> rfl)|(simp [*,errW_none,errW_some] <;> rfl),by repeat (first|(with_reducible first|exact HB.out|apply below_alloc|apply pw_below_drewN|apply below_drew1|refine below_set ?_ GE138.out)|exact HB.out)⟩
def spec_l01Add.f (a0:Int) (a1:Int):Option (Int):=some (Int.tmod (wrap64 (a0 + a1)) 2130706433)
set_option maxHeartbeats 8000000 in
set_option maxRecDepth 100000 in
theorem spec_l01Add.calls (a0:Int) (a1:Int) (r:Int) (w:World) (h:spec_l01Add.f a0 a1=some r):
    Calls Try.prog 115 #[.int .i64 a0,.int .i64 a1] w fun e w'=> e= .returned (.int .i64 r) ∧ Drawn0 w w':=by
  have H:(some (Int.tmod (wrap64 (a0 + a1)) 2130706433))=some r:=h
  clear h
  obtain rfl:=Option.some.inj H
  go_enter Try.func115,Try.ntmps115
  go_wp2
  go_ret
  exact ⟨by first|rfl|(simp;done)|(simp [*];done),by repeat (first|exact Drawn0.refl _|apply Drawn0.step)⟩
def spec_l01Mul.f (a0:Int) (a1:Int):Option (Int):=some (Int.tmod (wrap64 (a0 * a1)) 2130706433)
set_option maxHeartbeats 8000000 in
set_option maxRecDepth 100000 in
theorem spec_l01Mul.calls (a0:Int) (a1:Int) (r:Int) (w:World) (h:spec_l01Mul.f a0 a1=some r):
    Calls Try.prog 101 #[.int .i64 a0,.int .i64 a1] w fun e w'=> e= .returned (.int .i64 r) ∧ Drawn0 w w':=by
  have H:(some (Int.tmod (wrap64 (a0 * a1)) 2130706433))=some r:=h
  clear h
  obtain rfl:=Option.some.inj H
  go_enter Try.func101,Try.ntmps101
  go_wp2
  go_ret
  exact ⟨by first|rfl|(simp;done)|(simp [*];done),by repeat (first|exact Drawn0.refl _|apply Drawn0.step)⟩
def spec_l02Mul.f (a0_0:Int) (a0_1:Int) (a1_0:Int) (a1_1:Int):Option (Int × Int):=(spec_l01Mul.f a0_0 a1_0).bind fun t144=> ((spec_l01Mul.f a0_1 a1_1).bind fun t145=> ((spec_l01Add.f t144 (Int.tmod (wrap64 (3 * t145)) 2130706433)).bind fun t146=> ((spec_l01Mul.f a0_0 a1_1).bind fun t147=> ((spec_l01Mul.f a0_1 a1_0).bind fun t148=> ((spec_l01Add.f t147 t148).bind fun t149=> (some (t146,t149)))))))
def spec_l02Mul.T1:Bool × List (List Nat × List Nat):=(true, [([], []),([0], [0]),([], []),([2], [2]),([1,3], [1,3]),([], []),([5], [5]),([], []),([7], [7]),([6,8,4], [6,8]),([9], [9]),([10], [10]),([4,11,9], [4,11]),([], []),([13], [13]),([], []),([15], [15]),([14,16,12], [14,16]),([], []),([18], [18]),([], []),([20], [20]),([19,21,17], [19,21]),([17,22,22], [17,22]),([12,23], [12,23]),([24,23,0,1,2,3,4,5,6,7,8,9,10,11,12,13,14,15,16,17,18,19,20,21,22,23,24], [24])])
def spec_l02Mul.B1:List Nat:= [0,1,0,4,15,0,32,0,128,511,1023,2047,4095,0,8192,0,32768,131071,0,262144,0,1048576,4194303,8388607,16777215,33554431]
theorem spec_l02Mul.tab1:rtab .any (opsOf Try.f79 1)=spec_l02Mul.T1:=by kernel_rfl
theorem spec_l02Mul.bits1:waitsOk spec_l02Mul.T1.2 spec_l02Mul.B1=true:=by kernel_rfl
set_option maxHeartbeats 8000000 in
set_option maxRecDepth 100000 in
theorem spec_l02Mul.calls (a0_0:Int) (a0_1:Int) (a1_0:Int) (a1_1:Int) (r1:Int) (r2:Int) (w:World) (h:spec_l02Mul.f a0_0 a0_1 a1_0 a1_1=some (r1,r2)):
    Calls Try.prog 79 #[.agg #[.int .i64 a0_0,.int .i64 a0_1],.agg #[.int .i64 a1_0,.int .i64 a1_1]] w fun e w'=> e= .returned (.agg #[.int .i64 r1,.int .i64 r2]) ∧ Below w.heap.size w w':=by
  have hu24:=Try.underlying24
  have HB:=Aside0.mk (Below.refl w.heap.size w)
  have H:((spec_l01Mul.f a0_0 a1_0).bind fun t144=> ((spec_l01Mul.f a0_1 a1_1).bind fun t145=> ((spec_l01Add.f t144 (Int.tmod (wrap64 (3 * t145)) 2130706433)).bind fun t146=> ((spec_l01Mul.f a0_0 a1_1).bind fun t147=> ((spec_l01Mul.f a0_1 a1_0).bind fun t148=> ((spec_l01Add.f t147 t148).bind fun t149=> (some (t146,t149))))))))=some (r1,r2):=h
  clear h
  replace H:=Option.bind_eq_some_iff.mp H
  obtain ⟨t144,A30,H⟩:=H
  replace H:((spec_l01Mul.f a0_1 a1_1).bind fun t145=> ((spec_l01Add.f t144 (Int.tmod (wrap64 (3 * t145)) 2130706433)).bind fun t146=> ((spec_l01Mul.f a0_0 a1_1).bind fun t147=> ((spec_l01Mul.f a0_1 a1_0).bind fun t148=> ((spec_l01Add.f t147 t148).bind fun t149=> (some (t146,t149)))))))=some (r1,r2):=H
  have A3:=Aside0.mk A30
  clear A30
  replace H:=Option.bind_eq_some_iff.mp H
  obtain ⟨t145,A40,H⟩:=H
  replace H:((spec_l01Add.f t144 (Int.tmod (wrap64 (3 * t145)) 2130706433)).bind fun t146=> ((spec_l01Mul.f a0_0 a1_1).bind fun t147=> ((spec_l01Mul.f a0_1 a1_0).bind fun t148=> ((spec_l01Add.f t147 t148).bind fun t149=> (some (t146,t149))))))=some (r1,r2):=H
  have A4:=Aside0.mk A40
  clear A40
  replace H:=Option.bind_eq_some_iff.mp H
  obtain ⟨t146,A50,H⟩:=H
  replace H:((spec_l01Mul.f a0_0 a1_1).bind fun t147=> ((spec_l01Mul.f a0_1 a1_0).bind fun t148=> ((spec_l01Add.f t147 t148).bind fun t149=> (some (t146,t149)))))=some (r1,r2):=H
  have A5:=Aside0.mk A50
  clear A50
  replace H:=Option.bind_eq_some_iff.mp H
  obtain ⟨t147,A60,H⟩:=H
  replace H:((spec_l01Mul.f a0_1 a1_0).bind fun t148=> ((spec_l01Add.f t147 t148).bind fun t149=> (some (t146,t149))))=some (r1,r2):=H
  have A6:=Aside0.mk A60
  clear A60
  replace H:=Option.bind_eq_some_iff.mp H
  obtain ⟨t148,A70,H⟩:=H
  replace H:((spec_l01Add.f t147 t148).bind fun t149=> (some (t146,t149)))=some (r1,r2):=H
  have A7:=Aside0.mk A70
  clear A70
  replace H:=Option.bind_eq_some_iff.mp H
  obtain ⟨t149,A80,H⟩:=H
  replace H:(some (t146,t149))=some (r1,r2):=H
  have A8:=Aside0.mk A80
  clear A80
  simp only [Option.some.injEq,Prod.mk.injEq] at H
  obtain ⟨rfl,rfl⟩:=H
  go_enter Try.func79,Try.ntmps79
  try go_wp2_with (first|((with_reducible refine gate_dst (N:=2) rfl ?_);refine box_event ?hg (N:=2) ?hd (cs:= #[.int .i64 a0_0,.int .i64 a0_1]) (t:=24) ?hr ?_;(case hd=> rfl);(case hg=> rfl);(case hr=> first|(go_simp;done)|(go_simp;rfl));intro gb141 hg w9 hbox hb;have n0_:=Aside0.mk (below_step (by repeat (first|(with_reducible first|exact HB.out|apply below_alloc|apply pw_below_drewN|apply below_drew1)|exact HB.out)) hb);have n1_:=Aside0.mk (hbox);have n2_:=Aside0.mk ((by rw [hg];exact (below_size (by repeat (first|(with_reducible first|exact HB.out|apply below_alloc|apply pw_below_drewN|apply below_drew1)|exact HB.out))):w.heap.size ≤ gb141));have n3_:=Aside0.mk ((by rw [hg];exact (below_size (by repeat (first|(with_reducible first|exact HB.out|apply below_alloc|apply pw_below_drewN|apply below_drew1)|exact HB.out))):w.heap.size ≤ gb141));clear HB;have HB:=n0_;have BK141:=n1_;have GW141:=n2_;have GE141:=n3_;clear n0_ n1_ n2_ n3_;clear hb hbox hg)|((with_reducible refine gate_dst (N:=3) rfl ?_);refine box_event ?hg (N:=3) ?hd (cs:= #[.int .i64 a1_0,.int .i64 a1_1]) (t:=24) ?hr ?_;(case hd=> rfl);(case hg=> rfl);(case hr=> first|(go_simp;done)|(go_simp;rfl));intro gb142 hg w10 hbox hb;have n0_:=Aside0.mk (blk_below (g:=gb141) (o:= .cells #[.int .i64 a0_0,.int .i64 a0_1] 24 (0,0)) (by (with_reducible repeat (first|apply bN|apply bd|apply bA));exact BK141.out) hb);have n1_:=Aside0.mk (below_step (by repeat (first|(with_reducible first|exact HB.out|apply below_alloc|apply pw_below_drewN|apply below_drew1|refine below_set ?_ GE141.out)|exact HB.out)) hb);have n2_:=Aside0.mk (hbox);have n3_:=Aside0.mk ((by rw [hg];exact (below_size (by repeat (first|(with_reducible first|exact HB.out|apply below_alloc|apply pw_below_drewN|apply below_drew1|refine below_set ?_ GE141.out)|exact HB.out))):w.heap.size ≤ gb142));have n4_:=Aside0.mk ((by rw [hg];exact (below_size (by repeat (first|(with_reducible first|exact HB.out|apply below_alloc|apply pw_below_drewN|apply below_drew1|refine below_set ?_ GE141.out)|exact HB.out))):w.heap.size ≤ gb142));have n5_:=Aside0.mk ((by rw [hg];exact Nat.ne_of_lt (blk_lt (g:=gb141) (o:= .cells #[.int .i64 a0_0,.int .i64 a0_1] 24 (0,0)) (by (with_reducible repeat (first|apply bN|apply bd|apply bA));exact BK141.out)):gb141 ≠ gb142));have n6_:=Aside0.mk ((by rw [hg];exact Nat.ne_of_gt (blk_lt (g:=gb141) (o:= .cells #[.int .i64 a0_0,.int .i64 a0_1] 24 (0,0)) (by (with_reducible repeat (first|apply bN|apply bd|apply bA));exact BK141.out)):gb142 ≠ gb141));clear BK141;clear HB;have BK141:=n0_;have HB:=n1_;have BK142:=n2_;have GW142:=n3_;have GE142:=n4_;have NB141_142:=n5_;have NB142_141:=n6_;clear n0_ n1_ n2_ n3_ n4_ n5_ n6_;clear hb hbox hg)|((with_reducible refine gate_dst (N:=4) rfl ?_);refine box_event ?hg (N:=4) ?hd (cs:= #[.int .i64 0,.int .i64 0]) (t:=24) ?hr ?_;(case hd=> rfl);(case hg=> rfl);(case hr=> first|(go_simp;done)|(go_simp;rfl));intro gb143 hg w11 hbox hb;have n0_:=Aside0.mk (blk_below (g:=gb141) (o:= .cells #[.int .i64 a0_0,.int .i64 a0_1] 24 (0,0)) (by (with_reducible repeat (first|apply bN|apply bd|apply bA));exact BK141.out) hb);have n1_:=Aside0.mk (blk_below (g:=gb142) (o:= .cells #[.int .i64 a1_0,.int .i64 a1_1] 24 (0,0)) (by (with_reducible repeat (first|apply bN|apply bd|apply bA));exact BK142.out) hb);have n2_:=Aside0.mk (below_step (by repeat (first|(with_reducible first|exact HB.out|apply below_alloc|apply pw_below_drewN|apply below_drew1|refine below_set ?_ GE141.out|refine below_set ?_ GE142.out)|exact HB.out)) hb);have n3_:=Aside0.mk (hbox);have n4_:=Aside0.mk ((by rw [hg];exact (below_size (by repeat (first|(with_reducible first|exact HB.out|apply below_alloc|apply pw_below_drewN|apply below_drew1|refine below_set ?_ GE141.out|refine below_set ?_ GE142.out)|exact HB.out))):w.heap.size ≤ gb143));have n5_:=Aside0.mk ((by rw [hg];exact (below_size (by repeat (first|(with_reducible first|exact HB.out|apply below_alloc|apply pw_below_drewN|apply below_drew1|refine below_set ?_ GE141.out|refine below_set ?_ GE142.out)|exact HB.out))):w.heap.size ≤ gb143));have n6_:=Aside0.mk ((by rw [hg];exact Nat.ne_of_lt (blk_lt (g:=gb141) (o:= .cells #[.int .i64 a0_0,.int .i64 a0_1] 24 (0,0)) (by (with_reducible repeat (first|apply bN|apply bd|apply bA));exact BK141.out)):gb141 ≠ gb143));have n7_:=Aside0.mk ((by rw [hg];exact Nat.ne_of_gt (blk_lt (g:=gb141) (o:= .cells #[.int .i64 a0_0,.int .i64 a0_1] 24 (0,0)) (by (with_reducible repeat (first|apply bN|apply bd|apply bA));exact BK141.out)):gb143 ≠ gb141));have n8_:=Aside0.mk ((by rw [hg];exact Nat.ne_of_lt (blk_lt (g:=gb142) (o:= .cells #[.int .i64 a1_0,.int .i64 a1_1] 24 (0,0)) (by (with_reducible repeat (first|apply bN|apply bd|apply bA));exact BK142.out)):gb142 ≠ gb143));have n9_:=Aside0.mk ((by rw [hg];exact Nat.ne_of_gt (blk_lt (g:=gb142) (o:= .cells #[.int .i64 a1_0,.int .i64 a1_1] 24 (0,0)) (by (with_reducible repeat (first|apply bN|apply bd|apply bA));exact BK142.out)):gb143 ≠ gb142));clear BK141;clear BK142;clear HB;have BK141:=n0_;have BK142:=n1_;have HB:=n2_;have BK143:=n3_;have GW143:=n4_;have GE143:=n5_;have NB141_143:=n6_;have NB143_141:=n7_;have NB142_143:=n8_;have NB143_142:=n9_;clear n0_ n1_ n2_ n3_ n4_ n5_ n6_ n7_ n8_ n9_;clear hb hbox hg))
  have n0_:=Aside0.mk (blk_drew BK141.out)
  have n1_:=Aside0.mk (blk_drew BK142.out)
  have n2_:=Aside0.mk (blk_drew BK143.out)
  have n3_:=Aside0.mk (below_drew1 HB.out)
  clear BK141
  clear BK142
  clear BK143
  clear HB
  have BK141:=n0_
  have BK142:=n1_
  have BK143:=n2_
  have HB:=n3_
  clear n0_ n1_ n2_ n3_
  refine start_ (n:=26) (S:=fun w'=> w'.cell? ⟨gb141,0,none⟩=some (.int .i64 a0_0) ∧ w'.cell? ⟨gb141,1,none⟩=some (.int .i64 a0_1) ∧ w'.cell? ⟨gb142,0,none⟩=some (.int .i64 a1_0) ∧ w'.cell? ⟨gb142,1,none⟩=some (.int .i64 a1_1)) (ds:= []) #[false,false,false,false,false,false,false,false,false,false,false,false,false,false,false,false,false,false,false,false,false,false,false,false,false,false] (by kernel_rfl) rfl rfl ⟨(blk_cell BK141.out 0).trans rfl,(blk_cell BK141.out 1).trans rfl,(blk_cell BK142.out 0).trans rfl,(blk_cell BK142.out 1).trans rfl⟩ (fun hHeld=> ?_);refine with_tabW spec_l02Mul.tab1 spec_l02Mul.bits1 (fun HT_ HW_=> ?_)
  generalize w11.drew=w12 at BK141 BK142 BK143 HB hHeld ⊢
  refine pure_ (i:=0) (N:=some 5) (v:=?_) (a':=?_) #[true,false,false,false,false,false,false,false,false,false,false,false,false,false,false,false,false,false,false,false,false,false,false,false,false,false] rfl rfl (any_of HT_.out (by kernel_rfl)) (fun _ _ _ h=> h) (Or.inl ⟨by rfl,?_⟩) ?_ ?_
  rotate_left
  · intro w'
    go_simp
    with_reducible rfl
  rotate_left
  · simp only [Act.put,List.setIfInBounds_toArray,List.set_cons_zero,List.set_cons_succ,i64_w,i32_w]
    rfl
  refine pure_ (i:=2) (N:=some 7) (v:=?_) (a':=?_) #[true,false,true,false,false,false,false,false,false,false,false,false,false,false,false,false,false,false,false,false,false,false,false,false,false,false] rfl rfl (any_of HT_.out (by kernel_rfl)) (fun _ _ _ h=> h) (Or.inl ⟨by rfl,?_⟩) ?_ ?_
  rotate_left
  · intro w'
    go_simp
    with_reducible rfl
  rotate_left
  · simp only [Act.put,List.setIfInBounds_toArray,List.set_cons_zero,List.set_cons_succ,i64_w,i32_w]
    rfl
  refine pure_ (i:=5) (N:=some 10) (v:=?_) (a':=?_) #[true,false,true,false,false,true,false,false,false,false,false,false,false,false,false,false,false,false,false,false,false,false,false,false,false,false] rfl rfl (any_of HT_.out (by kernel_rfl)) (fun _ _ _ h=> h) (Or.inl ⟨by rfl,?_⟩) ?_ ?_
  rotate_left
  · intro w'
    go_simp
    with_reducible rfl
  rotate_left
  · simp only [Act.put,List.setIfInBounds_toArray,List.set_cons_zero,List.set_cons_succ,i64_w,i32_w]
    rfl
  refine pure_ (i:=7) (N:=some 12) (v:=?_) (a':=?_) #[true,false,true,false,false,true,false,true,false,false,false,false,false,false,false,false,false,false,false,false,false,false,false,false,false,false] rfl rfl (any_of HT_.out (by kernel_rfl)) (fun _ _ _ h=> h) (Or.inl ⟨by rfl,?_⟩) ?_ ?_
  rotate_left
  · intro w'
    go_simp
    with_reducible rfl
  rotate_left
  · simp only [Act.put,List.setIfInBounds_toArray,List.set_cons_zero,List.set_cons_succ,i64_w,i32_w]
    rfl
  refine pure_ (i:=13) (N:=some 18) (v:=?_) (a':=?_) #[true,false,true,false,false,true,false,true,false,false,false,false,false,true,false,false,false,false,false,false,false,false,false,false,false,false] rfl rfl (any_of HT_.out (by kernel_rfl)) (fun _ _ _ h=> h) (Or.inl ⟨by rfl,?_⟩) ?_ ?_
  rotate_left
  · intro w'
    go_simp
    with_reducible rfl
  rotate_left
  · simp only [Act.put,List.setIfInBounds_toArray,List.set_cons_zero,List.set_cons_succ,i64_w,i32_w]
    rfl
  refine pure_ (i:=15) (N:=some 20) (v:=?_) (a':=?_) #[true,false,true,false,false,true,false,true,false,false,false,false,false,true,false,true,false,false,false,false,false,false,false,false,false,false] rfl rfl (any_of HT_.out (by kernel_rfl)) (fun _ _ _ h=> h) (Or.inl ⟨by rfl,?_⟩) ?_ ?_
  rotate_left
  · intro w'
    go_simp
    with_reducible rfl
  rotate_left
  · simp only [Act.put,List.setIfInBounds_toArray,List.set_cons_zero,List.set_cons_succ,i64_w,i32_w]
    rfl
  refine pure_ (i:=18) (N:=some 23) (v:=?_) (a':=?_) #[true,false,true,false,false,true,false,true,false,false,false,false,false,true,false,true,false,false,true,false,false,false,false,false,false,false] rfl rfl (any_of HT_.out (by kernel_rfl)) (fun _ _ _ h=> h) (Or.inl ⟨by rfl,?_⟩) ?_ ?_
  rotate_left
  · intro w'
    go_simp
    with_reducible rfl
  rotate_left
  · simp only [Act.put,List.setIfInBounds_toArray,List.set_cons_zero,List.set_cons_succ,i64_w,i32_w]
    rfl
  refine pure_ (i:=20) (N:=some 25) (v:=?_) (a':=?_) #[true,false,true,false,false,true,false,true,false,false,false,false,false,true,false,true,false,false,true,false,true,false,false,false,false,false] rfl rfl (any_of HT_.out (by kernel_rfl)) (fun _ _ _ h=> h) (Or.inl ⟨by rfl,?_⟩) ?_ ?_
  rotate_left
  · intro w'
    go_simp
    with_reducible rfl
  rotate_left
  · simp only [Act.put,List.setIfInBounds_toArray,List.set_cons_zero,List.set_cons_succ,i64_w,i32_w]
    rfl
  refine take_ (i:=1) (N:=some 6) (v:=?_) (a':=?_) #[true,true,true,false,false,true,false,true,false,false,false,false,false,true,false,true,false,false,true,false,true,false,false,false,false,false] rfl rfl (take_ofW HT_.out HW_.out (by kernel_rfl)) (fun _ _ _ h=> h) (Or.inl ⟨by rfl,?_⟩) hHeld ?_ ?_
  rotate_left
  · rintro w' ⟨s0,s1,s2,s3⟩
    go_simp
    with_reducible rfl
  rotate_left
  · simp only [Act.put,List.setIfInBounds_toArray,List.set_cons_zero,List.set_cons_succ,i64_w,i32_w]
    rfl
  refine take_ (i:=3) (N:=some 8) (v:=?_) (a':=?_) #[true,true,true,true,false,true,false,true,false,false,false,false,false,true,false,true,false,false,true,false,true,false,false,false,false,false] rfl rfl (take_ofW HT_.out HW_.out (by kernel_rfl)) (fun _ _ _ h=> h) (Or.inl ⟨by rfl,?_⟩) hHeld ?_ ?_
  rotate_left
  · rintro w' ⟨s0,s1,s2,s3⟩
    go_simp
    with_reducible rfl
  rotate_left
  · simp only [Act.put,List.setIfInBounds_toArray,List.set_cons_zero,List.set_cons_succ,i64_w,i32_w]
    rfl
  refine take_ (i:=6) (N:=some 11) (v:=?_) (a':=?_) #[true,true,true,true,false,true,true,true,false,false,false,false,false,true,false,true,false,false,true,false,true,false,false,false,false,false] rfl rfl (take_ofW HT_.out HW_.out (by kernel_rfl)) (fun _ _ _ h=> h) (Or.inl ⟨by rfl,?_⟩) hHeld ?_ ?_
  rotate_left
  · rintro w' ⟨s0,s1,s2,s3⟩
    go_simp
    with_reducible rfl
  rotate_left
  · simp only [Act.put,List.setIfInBounds_toArray,List.set_cons_zero,List.set_cons_succ,i64_w,i32_w]
    rfl
  refine take_ (i:=8) (N:=some 13) (v:=?_) (a':=?_) #[true,true,true,true,false,true,true,true,true,false,false,false,false,true,false,true,false,false,true,false,true,false,false,false,false,false] rfl rfl (take_ofW HT_.out HW_.out (by kernel_rfl)) (fun _ _ _ h=> h) (Or.inl ⟨by rfl,?_⟩) hHeld ?_ ?_
  rotate_left
  · rintro w' ⟨s0,s1,s2,s3⟩
    go_simp
    with_reducible rfl
  rotate_left
  · simp only [Act.put,List.setIfInBounds_toArray,List.set_cons_zero,List.set_cons_succ,i64_w,i32_w]
    rfl
  refine take_ (i:=14) (N:=some 19) (v:=?_) (a':=?_) #[true,true,true,true,false,true,true,true,true,false,false,false,false,true,true,true,false,false,true,false,true,false,false,false,false,false] rfl rfl (take_ofW HT_.out HW_.out (by kernel_rfl)) (fun _ _ _ h=> h) (Or.inl ⟨by rfl,?_⟩) hHeld ?_ ?_
  rotate_left
  · rintro w' ⟨s0,s1,s2,s3⟩
    go_simp
    with_reducible rfl
  rotate_left
  · simp only [Act.put,List.setIfInBounds_toArray,List.set_cons_zero,List.set_cons_succ,i64_w,i32_w]
    rfl
  refine take_ (i:=16) (N:=some 21) (v:=?_) (a':=?_) #[true,true,true,true,false,true,true,true,true,false,false,false,false,true,true,true,true,false,true,false,true,false,false,false,false,false] rfl rfl (take_ofW HT_.out HW_.out (by kernel_rfl)) (fun _ _ _ h=> h) (Or.inl ⟨by rfl,?_⟩) hHeld ?_ ?_
  rotate_left
  · rintro w' ⟨s0,s1,s2,s3⟩
    go_simp
    with_reducible rfl
  rotate_left
  · simp only [Act.put,List.setIfInBounds_toArray,List.set_cons_zero,List.set_cons_succ,i64_w,i32_w]
    rfl
  refine take_ (i:=19) (N:=some 24) (v:=?_) (a':=?_) #[true,true,true,true,false,true,true,true,true,false,false,false,false,true,true,true,true,false,true,true,true,false,false,false,false,false] rfl rfl (take_ofW HT_.out HW_.out (by kernel_rfl)) (fun _ _ _ h=> h) (Or.inl ⟨by rfl,?_⟩) hHeld ?_ ?_
  rotate_left
  · rintro w' ⟨s0,s1,s2,s3⟩
    go_simp
    with_reducible rfl
  rotate_left
  · simp only [Act.put,List.setIfInBounds_toArray,List.set_cons_zero,List.set_cons_succ,i64_w,i32_w]
    rfl
  refine take_ (i:=21) (N:=some 26) (v:=?_) (a':=?_) #[true,true,true,true,false,true,true,true,true,false,false,false,false,true,true,true,true,false,true,true,true,true,false,false,false,false] rfl rfl (take_ofW HT_.out HW_.out (by kernel_rfl)) (fun _ _ _ h=> h) (Or.inl ⟨by rfl,?_⟩) hHeld ?_ ?_
  rotate_left
  · rintro w' ⟨s0,s1,s2,s3⟩
    go_simp
    with_reducible rfl
  rotate_left
  · simp only [Act.put,List.setIfInBounds_toArray,List.set_cons_zero,List.set_cons_succ,i64_w,i32_w]
    rfl
  refine one_ (i:=4) (N:=some 9) #[true,true,true,true,true,true,true,true,true,false,false,false,false,true,true,true,true,false,true,true,true,true,false,false,false,false] rfl rfl (one_of HT_.out (by kernel_rfl)) (by decide) (fun K hK=> ?_)
  refine goes_ Try.func101 (by kernel_rfl) rfl #[.int .i64 a0_0,.int .i64 a1_0] (by rfl) rfl rfl (by (try simp only [List.map_toArray,List.map_cons,List.map_nil]);first|done|rfl|(simp only [List.length_drop,List.length_take];rfl)) ?_
  with_reducible refine (spec_l01Mul.calls a0_0 a1_0 t144 _ A3.out).mono ?_
  rintro e w' ⟨rfl,⟨nd,rfl⟩⟩
  refine ⟨_,rfl,?_⟩
  refine hK.out _ _ ⟨(blk_cell BK141.out 0).trans rfl,(blk_cell BK141.out 1).trans rfl,(blk_cell BK142.out 0).trans rfl,(blk_cell BK142.out 1).trans rfl⟩ (fun hHeld=> ?_)
  clear hK K
  refine norm_ (a':=?_) ?_ ?_
  rotate_left
  · show Act.put _ (some 9) _=_
    simp only [Act.put,List.setIfInBounds_toArray,List.set_cons_zero,List.set_cons_succ,i64_w,i32_w]
    rfl
  refine one_ (i:=9) (N:=some 14) #[true,true,true,true,true,true,true,true,true,true,false,false,false,true,true,true,true,false,true,true,true,true,false,false,false,false] rfl rfl (one_of HT_.out (by kernel_rfl)) (by decide) (fun K hK=> ?_)
  refine goes_ Try.func101 (by kernel_rfl) rfl #[.int .i64 a0_1,.int .i64 a1_1] (by rfl) rfl rfl (by (try simp only [List.map_toArray,List.map_cons,List.map_nil]);first|done|rfl|(simp only [List.length_drop,List.length_take];rfl)) ?_
  with_reducible refine (spec_l01Mul.calls a0_1 a1_1 t145 _ A4.out).mono ?_
  rintro e w' ⟨rfl,⟨nd,rfl⟩⟩
  refine ⟨_,rfl,?_⟩
  refine hK.out _ _ ⟨(blk_cell BK141.out 0).trans rfl,(blk_cell BK141.out 1).trans rfl,(blk_cell BK142.out 0).trans rfl,(blk_cell BK142.out 1).trans rfl⟩ (fun hHeld=> ?_)
  clear hK K
  refine norm_ (a':=?_) ?_ ?_
  rotate_left
  · show Act.put _ (some 14) _=_
    simp only [Act.put,List.setIfInBounds_toArray,List.set_cons_zero,List.set_cons_succ,i64_w,i32_w]
    rfl
  refine pure_ (i:=10) (N:=some 15) (v:=?_) (a':=?_) #[true,true,true,true,true,true,true,true,true,true,true,false,false,true,true,true,true,false,true,true,true,true,false,false,false,false] rfl rfl (any_of HT_.out (by kernel_rfl)) (fun _ _ _ h=> h) (Or.inl ⟨by rfl,?_⟩) ?_ ?_
  rotate_left
  · intro w'
    go_simp
    with_reducible rfl
  rotate_left
  · simp only [Act.put,List.setIfInBounds_toArray,List.set_cons_zero,List.set_cons_succ,i64_w,i32_w]
    rfl
  refine pure_ (i:=11) (N:=some 16) (v:=?_) (a':=?_) #[true,true,true,true,true,true,true,true,true,true,true,true,false,true,true,true,true,false,true,true,true,true,false,false,false,false] rfl rfl (any_of HT_.out (by kernel_rfl)) (fun _ _ _ h=> h) (Or.inl ⟨by rfl,?_⟩) ?_ ?_
  rotate_left
  · intro w'
    go_simp
    with_reducible rfl
  rotate_left
  · simp only [Act.put,List.setIfInBounds_toArray,List.set_cons_zero,List.set_cons_succ,i64_w,i32_w]
    rfl
  refine one_ (i:=12) (N:=some 17) #[true,true,true,true,true,true,true,true,true,true,true,true,true,true,true,true,true,false,true,true,true,true,false,false,false,false] rfl rfl (one_of HT_.out (by kernel_rfl)) (by decide) (fun K hK=> ?_)
  refine goes_ Try.func115 (by kernel_rfl) rfl #[.int .i64 t144,.int .i64 (Int.tmod (wrap64 (3 * t145)) 2130706433)] (by rfl) rfl rfl (by (try simp only [List.map_toArray,List.map_cons,List.map_nil]);first|done|rfl|(simp only [List.length_drop,List.length_take];rfl)) ?_
  with_reducible refine (spec_l01Add.calls t144 (Int.tmod (wrap64 (3 * t145)) 2130706433) t146 _ A5.out).mono ?_
  rintro e w' ⟨rfl,⟨nd,rfl⟩⟩
  refine ⟨_,rfl,?_⟩
  refine hK.out _ _ ⟨(blk_cell BK141.out 0).trans rfl,(blk_cell BK141.out 1).trans rfl,(blk_cell BK142.out 0).trans rfl,(blk_cell BK142.out 1).trans rfl⟩ (fun hHeld=> ?_)
  clear hK K
  refine norm_ (a':=?_) ?_ ?_
  rotate_left
  · show Act.put _ (some 17) _=_
    simp only [Act.put,List.setIfInBounds_toArray,List.set_cons_zero,List.set_cons_succ,i64_w,i32_w]
    rfl
  refine one_ (i:=17) (N:=some 22) #[true,true,true,true,true,true,true,true,true,true,true,true,true,true,true,true,true,true,true,true,true,true,false,false,false,false] rfl rfl (one_of HT_.out (by kernel_rfl)) (by decide) (fun K hK=> ?_)
  refine goes_ Try.func101 (by kernel_rfl) rfl #[.int .i64 a0_0,.int .i64 a1_1] (by rfl) rfl rfl (by (try simp only [List.map_toArray,List.map_cons,List.map_nil]);first|done|rfl|(simp only [List.length_drop,List.length_take];rfl)) ?_
  with_reducible refine (spec_l01Mul.calls a0_0 a1_1 t147 _ A6.out).mono ?_
  rintro e w' ⟨rfl,⟨nd,rfl⟩⟩
  refine ⟨_,rfl,?_⟩
  refine hK.out _ _ ⟨(blk_cell BK141.out 0).trans rfl,(blk_cell BK141.out 1).trans rfl,(blk_cell BK142.out 0).trans rfl,(blk_cell BK142.out 1).trans rfl⟩ (fun hHeld=> ?_)
  clear hK K
  refine norm_ (a':=?_) ?_ ?_
  rotate_left
  · show Act.put _ (some 22) _=_
    simp only [Act.put,List.setIfInBounds_toArray,List.set_cons_zero,List.set_cons_succ,i64_w,i32_w]
    rfl
  refine one_ (i:=22) (N:=some 27) #[true,true,true,true,true,true,true,true,true,true,true,true,true,true,true,true,true,true,true,true,true,true,true,false,false,false] rfl rfl (one_of HT_.out (by kernel_rfl)) (by decide) (fun K hK=> ?_)
  refine goes_ Try.func101 (by kernel_rfl) rfl #[.int .i64 a0_1,.int .i64 a1_0] (by rfl) rfl rfl (by (try simp only [List.map_toArray,List.map_cons,List.map_nil]);first|done|rfl|(simp only [List.length_drop,List.length_take];rfl)) ?_
  with_reducible refine (spec_l01Mul.calls a0_1 a1_0 t148 _ A7.out).mono ?_
  rintro e w' ⟨rfl,⟨nd,rfl⟩⟩
  refine ⟨_,rfl,?_⟩
  refine hK.out _ _ ⟨(blk_cell BK141.out 0).trans rfl,(blk_cell BK141.out 1).trans rfl,(blk_cell BK142.out 0).trans rfl,(blk_cell BK142.out 1).trans rfl⟩ (fun hHeld=> ?_)
  clear hK K
  refine norm_ (a':=?_) ?_ ?_
  rotate_left
  · show Act.put _ (some 27) _=_
    simp only [Act.put,List.setIfInBounds_toArray,List.set_cons_zero,List.set_cons_succ,i64_w,i32_w]
    rfl
  refine one_ (i:=23) (N:=some 28) #[true,true,true,true,true,true,true,true,true,true,true,true,true,true,true,true,true,true,true,true,true,true,true,true,false,false] rfl rfl (one_of HT_.out (by kernel_rfl)) (by decide) (fun K hK=> ?_)
  refine goes_ Try.func115 (by kernel_rfl) rfl #[.int .i64 t147,.int .i64 t148] (by rfl) rfl rfl (by (try simp only [List.map_toArray,List.map_cons,List.map_nil]);first|done|rfl|(simp only [List.length_drop,List.length_take];rfl)) ?_
  with_reducible refine (spec_l01Add.calls t147 t148 t149 _ A8.out).mono ?_
  rintro e w' ⟨rfl,⟨nd,rfl⟩⟩
  refine ⟨_,rfl,?_⟩
  refine hK.out _ _ ⟨(blk_cell BK141.out 0).trans rfl,(blk_cell BK141.out 1).trans rfl,(blk_cell BK142.out 0).trans rfl,(blk_cell BK142.out 1).trans rfl⟩ (fun hHeld=> ?_)
  clear hK K
  refine norm_ (a':=?_) ?_ ?_
  rotate_left
  · show Act.put _ (some 28) _=_
    simp only [Act.put,List.setIfInBounds_toArray,List.set_cons_zero,List.set_cons_succ,i64_w,i32_w]
    rfl
  refine pure_ (i:=24) (N:=some 29) (v:=?_) (a':=?_) #[true,true,true,true,true,true,true,true,true,true,true,true,true,true,true,true,true,true,true,true,true,true,true,true,true,false] rfl rfl (any_of HT_.out (by kernel_rfl)) (fun _ _ _ h=> h) (Or.inl ⟨by rfl,?_⟩) ?_ ?_
  rotate_left
  · intro w'
    go_simp
    with_reducible rfl
  rotate_left
  · simp only [Act.put,List.setIfInBounds_toArray,List.set_cons_zero,List.set_cons_succ,i64_w,i32_w]
    rfl
  refine one_ (i:=25) (N:=none) #[true,true,true,true,true,true,true,true,true,true,true,true,true,true,true,true,true,true,true,true,true,true,true,true,true,true] rfl rfl (one_of HT_.out (by kernel_rfl)) (by decide) (fun K hK=> ?_)
  have hs13:w12.cell? ⟨gb143,0,none⟩=some (.int .i64 0):=(blk_cell BK143.out 0).trans rfl
  have hfs13:=blk_frozen BK143.out 0
  have hns13_0:=NB141_143.out
  have hns13_1:=NB142_143.out
  have hms13_0:=NB143_141.out
  have hms13_1:=NB143_142.out
  have hs14:w12.cell? ⟨gb143,1,none⟩=some (.int .i64 0):=(blk_cell BK143.out 1).trans rfl
  have hfs14:=blk_frozen BK143.out 1
  have hns14_0:=NB141_143.out
  have hns14_1:=NB142_143.out
  have hms14_0:=NB143_141.out
  have hms14_1:=NB143_142.out
  refine skip_ (w1:=?_) (by rfl) rfl ?_ ?_
  rotate_left
  · go_simp
    rfl
  refine hK.out _ _ ⟨((cell_far (p:=⟨gb143,_,none⟩) NB141_143.out _).trans (((cell_far (p:=⟨gb143,_,none⟩) NB141_143.out _).trans (hHeld.1)))),((cell_far (p:=⟨gb143,_,none⟩) NB141_143.out _).trans (((cell_far (p:=⟨gb143,_,none⟩) NB141_143.out _).trans (hHeld.2.1)))),((cell_far (p:=⟨gb143,_,none⟩) NB142_143.out _).trans (((cell_far (p:=⟨gb143,_,none⟩) NB142_143.out _).trans (hHeld.2.2.1)))),((cell_far (p:=⟨gb143,_,none⟩) NB142_143.out _).trans (((cell_far (p:=⟨gb143,_,none⟩) NB142_143.out _).trans (hHeld.2.2.2))))⟩ (fun hHeld=> ?_)
  clear hK K
  refine done_ (done_of HT_.out (by kernel_rfl)) ?_
  try go_wp2
  refine bodyPost_ret (results_cell_row rfl _ _ gb143 24 #[.int .i64 t146,.int .i64 t149] (0,0) _ rfl (by (with_reducible repeat (first|apply bN|apply bd|apply bA));refine blk_put (cs:= #[.int .i64 t146,.int .i64 0]) ?_ 1 _ rfl;(with_reducible repeat (first|apply bN|apply bd|apply bA));refine blk_put (cs:= #[.int .i64 0,.int .i64 0]) ?_ 0 _ rfl;(with_reducible repeat (first|apply bN|apply bd|apply bA));exact BK143.out) Try.underlying24 rfl (by kernel_rfl)) rfl ?_
  exact ⟨by first|rfl|(simp [errW_none,errW_some] <;> rfl)|(simp [*,errW_none,errW_some] <;> rfl),by repeat (first|(with_reducible first|exact HB.out|apply below_alloc|apply pw_below_drewN|apply below_drew1|refine below_set ?_ GE141.out|refine below_set ?_ GE142.out|refine below_set ?_ GE143.out)|exact HB.out)⟩
end Go.Proofs.Ytnggbahcmhdjnaa.Print
