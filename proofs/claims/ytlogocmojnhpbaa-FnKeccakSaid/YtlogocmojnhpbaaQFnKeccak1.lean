-- Packed by a program of this session (slim.py) out of printed texts; not trusted, Lean checks it.
import Derived.Test.YtlogocmojnhpbaaP0
import Derived.Test.YtlogocmojnhpbaaK3
import Derived.Test.YtlogocmojnhpbaaK4
import Derived.Test.YtlogocmojnhpbaaQFnKeccak0
import Derived.Test.YtlogocmojnhpbaaP0
namespace Go.Proofs.Ytlogocmojnhpbaa.Print
open Go.RowKit Go.Proofs.YtlogocmojnhpbaaW.PrintWords Go.Proofs.YtlogocmojnhpbaaW.PrintLast Go.Proofs.YtlogocmojnhpbaaW.PrintMore
attribute [local go_sem] max2_int min2_int max_two min_two max_three min_three max_four min_four
set_option linter.unusedVariables false
set_option linter.unusedSimpArgs false
def RB (w:World) (base:Nat) (ok:Nat → Prop) (v:Value) (xs:List Int):Prop:=∃ g cap,v= .slice (some ⟨g,0,none⟩) xs.length cap ∧ base ≤ g ∧ ok g ∧ MRow w g cap xs
namespace RB
variable {w w1 W:World} {base base':Nat} {ok ok':Nat → Prop} {v u:Value} {xs:List Int}
theorem below (h:RB w base ok v xs) (hb:Below w.heap.size w w1):RB w1 base ok v xs:=by
  obtain ⟨g,cap,e,h1,h2,h3⟩:=h
  exact ⟨g,cap,e,h1,h2,h3.below hb⟩
theorem alloc (h:RB w base ok v xs) (o:Obj):RB (w.alloc o) base ok v xs:=h.below (bwA (Below.refl _ _) o)
theorem drew (h:RB w base ok v xs):RB w.drew base ok v xs:=h.below (bwD (Below.refl _ _))
theorem drewN (h:RB w base ok v xs) (n:Nat):RB (w.drewN n) base ok v xs:=h.below (bwN (Below.refl _ _) n)
theorem mono (h:RB w base ok v xs) (hok:∀ k,ok k → ok' k):RB w base ok' v xs:=by
  obtain ⟨g,cap,e,h1,h2,h3⟩:=h
  exact ⟨g,cap,e,h1,hok _ h2,h3⟩
theorem lower (h:RB w base ok v xs) (hb:base' ≤ base):RB w base' ok v xs:=by
  obtain ⟨g,cap,e,h1,h2,h3⟩:=h
  exact ⟨g,cap,e,Nat.le_trans hb h1,h2,h3⟩
theorem lt (h:RB w base ok v xs):∀ k,v.ownBlock=some k → k < w.heap.size:=by
  obtain ⟨g,cap,rfl,h1,h2,h3⟩:=h
  intro k hk
  obtain rfl:g=k:=by simpa [Value.ownBlock] using hk
  exact h3.lt
theorem base_le (h:RB w base ok v xs):∀ k,v.ownBlock=some k → base ≤ k:=by
  obtain ⟨g,cap,rfl,h1,h2,h3⟩:=h
  intro k hk
  obtain rfl:g=k:=by simpa [Value.ownBlock] using hk
  exact h1
theorem elder' (h:RB w base ok u xs) (hbase:∀ k,v.ownBlock=some k → w.heap.size ≤ k) (hb:Below w.heap.size w w1):RB w1 base (fun k=> ok k ∧ some k ≠ v.ownBlock) u xs:=by
  obtain ⟨g,cap,e,h1,h2,h3⟩:=h
  exact ⟨g,cap,e,h1,⟨h2,fun he=> by have:=hbase g he.symm;have:=h3.lt;omega⟩,h3.below hb⟩
theorem new' (h:RB w1 W.heap.size ok v xs) (hlt:∀ k,u.ownBlock=some k → k < W.heap.size):RB w1 W.heap.size (fun k=> ok k ∧ some k ≠ u.ownBlock) v xs:=by
  obtain ⟨g,cap,e,h1,h2,h3⟩:=h
  exact ⟨g,cap,e,h1,⟨h2,fun he=> by have:=hlt g he.symm;omega⟩,h3⟩
theorem slice (h:RB w base ok v xs):∃ A c,v= .slice A xs.length c:=by
  obtain ⟨g,cap,e,_⟩:=h
  exact ⟨_,cap,e⟩
theorem reads' {A:Option Addr} {n c:Nat} (h:RB w base ok (.slice A n c) xs):n=xs.length ∧ n ≤ c ∧ (Kd.int .u8).C w A xs.length xs:=by
  obtain ⟨g,cap,e,h1,h2,h3⟩:=h
  injection e with e1 e2 e3
  subst e1;subst e2;subst e3
  refine ⟨rfl,?_,h3.reads⟩
  obtain ⟨_,_,_,_,h4,_⟩:=h3
  exact h4
theorem form (h:RB w base ok v xs) (hp:0 < xs.length):∃ g cap,v= .slice (some ⟨g,0,none⟩) xs.length cap ∧ base ≤ g ∧ g < w.heap.size ∧ ∃ cells,∃ fz,w.heap[g]?=some (.cells cells 5 fz):=by
  obtain ⟨g,cap,e,h1,h2,h3⟩:=h
  obtain ⟨cur,fz,h4,_⟩:=id h3
  exact ⟨g,cap,e,h1,h3.lt,cur,fz,h4⟩
theorem celln {g n cap:Nat} (h:RB w base ok (.slice (some ⟨g,0,none⟩) n cap) xs) (i:Int) (h0:0 ≤ i) (hi:i < n):w.cell? ⟨g,i.toNat,none⟩=some (.int .u8 (rd xs i)) ∧ w.frozen? ⟨g,i.toNat,none⟩=false:=by
  obtain ⟨g',cap',e,h1,h2,h3⟩:=h
  injection e with e1 e2 e3
  injection e1 with e1
  injection e1 with e1
  subst e1;subst e2;subst e3
  have hc:xs.length ≤ cap:=by obtain ⟨_,_,_,_,h4,_⟩:=h3;exact h4
  exact ⟨h3.cell i.toNat (by omega),h3.free i.toNat (by omega)⟩
theorem putn {g n cap:Nat} (h:RB w base ok (.slice (some ⟨g,0,none⟩) n cap) xs) (i:Int) (x:Int) (h0:0 ≤ i) (hi:i < n):RB (w.setCell ⟨g,i.toNat,none⟩ (.int .u8 x)) base ok (.slice (some ⟨g,0,none⟩) n cap) (xs.set i.toNat x):=by
  obtain ⟨g',cap',e,h1,h2,h3⟩:=h
  injection e with e1 e2 e3
  injection e1 with e1
  injection e1 with e1
  subst e1;subst e2;subst e3
  exact ⟨g,cap,by rw [List.length_set],h1,h2,h3.set i.toNat x (by omega)⟩
theorem of_R (h:(Kd.int .u8).R 5 w base ok v xs) (hp:0 < xs.length):RB w base ok v xs:=by
  obtain ⟨g,cap,e,h1,h2⟩:=MRow.of_R h hp
  exact ⟨g,cap,e,h1,h.1 g (by rw [e];rfl),h2⟩
end RB
section
variable {ops:Array Oper} {rest:List Oper} {o:Oper} {a:Act} {Q:Exit → Act → World → Prop}
theorem R_bytes {W:World} (hgd:o.guard=none) (x:Operand) (ho:o.op= .convert 9 25 x) (s:ByteArray) (hx:a.eval x= .string s) (hs:s.size ≤ 9223372036854775807)
    (h:∀ v1 w1,RB w1 W.heap.size (fun _=> True) v1 (bytesOf s) → Below W.heap.size W w1 → wpList Try.prog ops Q rest (a.put o.dst v1) w1):wpList Try.prog ops Q (o::rest) a W:=by
  have hrun:(execOp a.eval o).run Try.prog W= .ok (.value (.slice (some ⟨W.heap.size,0,none⟩) s.size (grownCap W s.size 0 5))) (Lib.bytesWorld W 5 s):=by
    have hc:=print_bytes (P:=Try.prog) 9 25 5 Try.underlying9 Try.underlying25 Try.underlying5 s W
    unfold execOp
    rw [ho]
    simp only [hx]
    exact (congrArg (fun r=> r) (by simp [hc]))
  refine Kd.event_run hgd hrun (h _ _ ⟨W.heap.size,_,by rw [bytesOf_length],Nat.le_refl _,trivial,MRow.of_bytes W s hs⟩ (bytes_below (Below.refl _ _) (Nat.le_refl _) 5 s))
end
mutual
def laws_FnKeccak.j0:Nat → List Int → ByteArray → Bool → Option (Bool)
  |0,_,_,_=> none
  |k + 1,x0,x3,x55=> if x55=true then (none) else ((some (([]:List Int):List Int)).bind fun y130=> (if y130.length + x0.length < 140737488355328 then ((some (y130 ++ x0:List Int)).bind fun y133=> (if y133.length < 140737488355328 then (laws_FnKeccak.l0 k x0 x3 (y133 ++ [1])) else (none))) else (none)))
def laws_FnKeccak.l0:Nat → List Int → ByteArray → List Int → Option (Bool)
  |0,_,_,_=> none
  |k + 1,x0,x3,x8=> if ((x8.length:Int) % 136)=0 then (if 0 ≤ (wrap64 ((x8.length:Int) - 1)) then (if (wrap64 ((x8.length:Int) - 1)) < (x8.length:Int) then (if 200 ≤ 281474976710656 then (laws_FnKeccak.l1 k x0 x3 (x8.set ((wrap64 ((x8.length:Int) - 1)):Int).toNat (Go.bits .or .u8 (rd x8 (wrap64 ((x8.length:Int) - 1))) 128)) (List.replicate 200 0) 0 0) else (none)) else (none)) else (none)) else (if x8.length < 140737488355328 then (laws_FnKeccak.l0 k x0 x3 (x8 ++ [0])) else (none))
def laws_FnKeccak.l1:Nat → List Int → ByteArray → List Int → List Int → Int → Int → Option (Bool)
  |0,_,_,_,_,_,_=> none
  |k + 1,x0,x3,x8,x9,x10,x11=> if x11 < (x8.length:Int) then (laws_FnKeccak.l2 k x0 x3 x8 x9 x10 x11 0) else ((impl_KeccakCalls.f (x0.length:Int)).bind fun bt147=> (if 32 ≤ (x9.length:Int) then (if (strOfNums (x9.take 32)).toList=x3.toList then (if bt147.2=0 then (some (bt147.1==x10)) else (none)) else (none)) else (none)))
def laws_FnKeccak.l2:Nat → List Int → ByteArray → List Int → List Int → Int → Int → Int → Option (Bool)
  |0,_,_,_,_,_,_,_=> none
  |k + 1,x0,x3,x8,x9,x10,x11,x12=> if x12 < 136 then (if 0 ≤ x12 then (if x12 < (x9.length:Int) then (if 0 ≤ (wrap64 (x11 + x12)) then (if (wrap64 (x11 + x12)) < (x8.length:Int) then (laws_FnKeccak.l2 k x0 x3 x8 (x9.set (x12:Int).toNat (Go.bits .xor .u8 (rd x9 x12) (rd x8 (wrap64 (x11 + x12))))) x10 x11 (wrap64 (x12 + 1))) else (none)) else (none)) else (none)) else (none)) else ((impl_Permute.f (strOfNums x9)).bind fun bt156=> (if bt156.2=0 then (if (bt156.1.size:Int)=200 then (if 200 ≤ 281474976710656 then (laws_FnKeccak.l1 k x0 x3 x8 (bytesOf bt156.1) (wrap64 (x10 + 1)) (wrap64 (x11 + 136))) else (none)) else (none)) else (none)))
end
def laws_FnKeccak.f (k:Nat) (l0:List Int):Option (Bool):=if (l0.length:Int) > 1048576 then (some true) else (if (l0.length:Int) > 65536 then ((impl_Keccak256.f l0).bind fun t123=> (some (t123.toList==([]:List UInt8)))) else ((impl_Keccak256.f l0).bind fun t124=> ((impl_HashText.f k t124).bind fun bt125=> ((spec_HashText.f k t124).bind fun bt127=> (if (t124.size:Int)=32 then ((spec_Keccak256.f l0).bind fun t129=> (if t124.toList=t129.toList then (if bt125.2=0 then (laws_FnKeccak.j0 k l0 t124 (bt125.1.toList !=bt127.1.toList)) else (none)) else (none))) else (none))))))
theorem laws_FnKeccak.mono_l:∀ k,(∀ y0 y1 y2,LeO (laws_FnKeccak.j0 k y0 y1 y2) (laws_FnKeccak.j0 (k + 1) y0 y1 y2)) ∧ (∀ y0 y1 y2,LeO (laws_FnKeccak.l0 k y0 y1 y2) (laws_FnKeccak.l0 (k + 1) y0 y1 y2)) ∧ (∀ y0 y1 y2 y3 y4 y5,LeO (laws_FnKeccak.l1 k y0 y1 y2 y3 y4 y5) (laws_FnKeccak.l1 (k + 1) y0 y1 y2 y3 y4 y5)) ∧ (∀ y0 y1 y2 y3 y4 y5 y6,LeO (laws_FnKeccak.l2 k y0 y1 y2 y3 y4 y5 y6) (laws_FnKeccak.l2 (k + 1) y0 y1 y2 y3 y4 y5 y6))
  |0=> ⟨fun _ _ _ r h=> by simp [laws_FnKeccak.j0] at h,fun _ _ _ r h=> by simp [laws_FnKeccak.l0] at h,fun _ _ _ _ _ _ r h=> by simp [laws_FnKeccak.l1] at h,fun _ _ _ _ _ _ _ r h=> by simp [laws_FnKeccak.l2] at h⟩
  |k + 1=> by
    obtain ⟨ih0,ih1,ih2,ih3⟩:=laws_FnKeccak.mono_l k
    refine ⟨?_,?_,?_,?_⟩
    · intro y0 y1 y2
      unfold laws_FnKeccak.j0
      repeat' first
      |(with_reducible exact ih0 _ _ _)
      |(with_reducible exact ih1 _ _ _)
      |(with_reducible exact ih2 _ _ _ _ _ _)
      |(with_reducible exact ih3 _ _ _ _ _ _ _)
      |(with_reducible exact impl_HashText.mono _ _)
      |(with_reducible exact spec_HashText.mono _ _)
      |(with_reducible exact LeO.refl _)
      |(with_reducible exact LeO.none _)
      |(with_reducible refine LeO.ite ?_ ?_)
      |(with_reducible refine LeO.bind ?_ (fun _=> ?_))
      |exact ih0 _ _ _
      |exact ih1 _ _ _
      |exact ih2 _ _ _ _ _ _
      |exact ih3 _ _ _ _ _ _ _
      |exact impl_HashText.mono _ _
      |exact spec_HashText.mono _ _
      |exact LeO.none _
      |refine LeO.ite ?_ ?_
      |refine LeO.bind ?_ (fun _=> ?_)
    · intro y0 y1 y2
      unfold laws_FnKeccak.l0
      repeat' first
      |(with_reducible exact ih0 _ _ _)
      |(with_reducible exact ih1 _ _ _)
      |(with_reducible exact ih2 _ _ _ _ _ _)
      |(with_reducible exact ih3 _ _ _ _ _ _ _)
      |(with_reducible exact impl_HashText.mono _ _)
      |(with_reducible exact spec_HashText.mono _ _)
      |(with_reducible exact LeO.refl _)
      |(with_reducible exact LeO.none _)
      |(with_reducible refine LeO.ite ?_ ?_)
      |(with_reducible refine LeO.bind ?_ (fun _=> ?_))
      |exact ih0 _ _ _
      |exact ih1 _ _ _
      |exact ih2 _ _ _ _ _ _
      |exact ih3 _ _ _ _ _ _ _
      |exact impl_HashText.mono _ _
      |exact spec_HashText.mono _ _
      |exact LeO.none _
      |refine LeO.ite ?_ ?_
      |refine LeO.bind ?_ (fun _=> ?_)
    · intro y0 y1 y2 y3 y4 y5
      unfold laws_FnKeccak.l1
      repeat' first
      |(with_reducible exact ih0 _ _ _)
      |(with_reducible exact ih1 _ _ _)
      |(with_reducible exact ih2 _ _ _ _ _ _)
      |(with_reducible exact ih3 _ _ _ _ _ _ _)
      |(with_reducible exact impl_HashText.mono _ _)
      |(with_reducible exact spec_HashText.mono _ _)
      |(with_reducible exact LeO.refl _)
      |(with_reducible exact LeO.none _)
      |(with_reducible refine LeO.ite ?_ ?_)
      |(with_reducible refine LeO.bind ?_ (fun _=> ?_))
      |exact ih0 _ _ _
      |exact ih1 _ _ _
      |exact ih2 _ _ _ _ _ _
      |exact ih3 _ _ _ _ _ _ _
      |exact impl_HashText.mono _ _
      |exact spec_HashText.mono _ _
      |exact LeO.none _
      |refine LeO.ite ?_ ?_
      |refine LeO.bind ?_ (fun _=> ?_)
    · intro y0 y1 y2 y3 y4 y5 y6
      unfold laws_FnKeccak.l2
      repeat' first
      |(with_reducible exact ih0 _ _ _)
      |(with_reducible exact ih1 _ _ _)
      |(with_reducible exact ih2 _ _ _ _ _ _)
      |(with_reducible exact ih3 _ _ _ _ _ _ _)
      |(with_reducible exact impl_HashText.mono _ _)
      |(with_reducible exact spec_HashText.mono _ _)
      |(with_reducible exact LeO.refl _)
      |(with_reducible exact LeO.none _)
      |(with_reducible refine LeO.ite ?_ ?_)
      |(with_reducible refine LeO.bind ?_ (fun _=> ?_))
      |exact ih0 _ _ _
      |exact ih1 _ _ _
      |exact ih2 _ _ _ _ _ _
      |exact ih3 _ _ _ _ _ _ _
      |exact impl_HashText.mono _ _
      |exact spec_HashText.mono _ _
      |exact LeO.none _
      |refine LeO.ite ?_ ?_
      |refine LeO.bind ?_ (fun _=> ?_)
theorem laws_FnKeccak.mono:∀ a0 k,LeO (laws_FnKeccak.f k a0) (laws_FnKeccak.f (k + 1) a0):=by
  intro a0 k
  obtain ⟨ih0,ih1,ih2,ih3⟩:=laws_FnKeccak.mono_l k
  unfold laws_FnKeccak.f
  repeat' first
      |(with_reducible exact ih0 _ _ _)
      |(with_reducible exact ih1 _ _ _)
      |(with_reducible exact ih2 _ _ _ _ _ _)
      |(with_reducible exact ih3 _ _ _ _ _ _ _)
      |(with_reducible exact impl_HashText.mono _ _)
      |(with_reducible exact spec_HashText.mono _ _)
      |(with_reducible exact LeO.refl _)
      |(with_reducible exact LeO.none _)
      |(with_reducible refine LeO.ite ?_ ?_)
      |(with_reducible refine LeO.bind ?_ (fun _=> ?_))
      |exact ih0 _ _ _
      |exact ih1 _ _ _
      |exact ih2 _ _ _ _ _ _
      |exact ih3 _ _ _ _ _ _ _
      |exact impl_HashText.mono _ _
      |exact spec_HashText.mono _ _
      |exact LeO.none _
      |refine LeO.ite ?_ ?_
      |refine LeO.bind ?_ (fun _=> ?_)
def laws_FnKeccak.T22:Bool × List (List Nat × List Nat):=(true, [([], []),([], []),([0,1], [0,1]),([2], [2]),([], []),([], []),([], []),([5,6], [5,6]),([4,7], [4,7]),([8], [8]),([3,9], [3,9]),([0,1,0,1,2,3,4,5,6,7,8,9,10], [0,1]),([11,10,0,1,2,3,4,5,6,7,8,9,10], [10,11])])
def laws_FnKeccak.B22:List Nat:= [0,0,3,7,0,0,0,96,240,496,1023,2047,4095]
theorem laws_FnKeccak.tab22:rtab .any (opsOf Try.f7 22)=laws_FnKeccak.T22:=by kernel_rfl
theorem laws_FnKeccak.bits22:waitsOk laws_FnKeccak.T22.2 laws_FnKeccak.B22=true:=by kernel_rfl
set_option maxHeartbeats 8000000 in
set_option maxRecDepth 100000 in
theorem laws_FnKeccak.calls (k:Nat) (A0:Option Addr) (c0:Nat) (l0:List Int) (r:Bool) (w:World) (hr0:Kd.C (Kd.int .u8) w A0 l0.length l0) (hc0:l0.length ≤ c0) (h:laws_FnKeccak.f k l0=some r):
    Calls Try.prog 7 #[.slice A0 l0.length c0] w fun e w'=> e= .returned (.bool r) ∧ Below w.heap.size w w':=by
  have HR0:=Aside0.mk hr0
  have HC0:=Aside0.mk hc0
  clear hr0 hc0
  have HB:=Aside0.mk (Below.refl w.heap.size w)
  have H:(if (l0.length:Int) > 1048576 then (some true) else (if (l0.length:Int) > 65536 then ((impl_Keccak256.f l0).bind fun t123=> (some (t123.toList==([]:List UInt8)))) else ((impl_Keccak256.f l0).bind fun t124=> ((impl_HashText.f k t124).bind fun bt125=> ((spec_HashText.f k t124).bind fun bt127=> (if (t124.size:Int)=32 then ((spec_Keccak256.f l0).bind fun t129=> (if t124.toList=t129.toList then (if bt125.2=0 then (laws_FnKeccak.j0 k l0 t124 (bt125.1.toList !=bt127.1.toList)) else (none)) else (none))) else (none)))))))=some r:=h
  clear h
  by_cases c2:(l0.length:Int) > 1048576
  · rw [if_pos c2] at H
    have c2b0:decide (1048576 < (l0.length:Int))=true:=decide_eq_true c2
    have c2b1:decide (1048576 < l0.length)=true:=decide_eq_true (by omega)
    clear c2
    obtain rfl:=Option.some.inj H
    go_enter Try.func7,Try.ntmps7
    go_wp2
    go_ret
    exact ⟨by first|rfl|(simp [errW_none,errW_some] <;> rfl)|(simp [*,errW_none,errW_some] <;> rfl),by repeat (first|(with_reducible first|exact HB.out|apply bwA|apply bwN|apply bwD)|exact HB.out)⟩
  · rw [if_neg c2] at H
    have c2b0:decide (1048576 < (l0.length:Int))=false:=decide_eq_false c2
    have c2b1:decide (1048576 < l0.length)=false:=decide_eq_false (by omega)
    clear c2
    by_cases c3:(l0.length:Int) > 65536
    · rw [if_pos c3] at H
      have c3b0:decide (65536 < (l0.length:Int))=true:=decide_eq_true c3
      have c3b1:decide (65536 < l0.length)=true:=decide_eq_true (by omega)
      clear c3
      replace H:=Option.bind_eq_some_iff.mp H
      obtain ⟨t123,A40,H⟩:=H
      replace H:(some (t123.toList==([]:List UInt8)))=some r:=H
      have A4:=Aside0.mk A40
      clear A40
      obtain rfl:=Option.some.inj H
      go_enter Try.func7,Try.ntmps7
      go_wp2_with (first|((with_reducible refine gate_callee (f:=25) rfl ?_);refine goesL_ (some 24) rfl rfl Try.func25 (by kernel_rfl) rfl #[.slice A0 l0.length c0] rfl (by (try simp only [List.map_toArray,List.map_cons,List.map_nil]);first|done|rfl|(simp only [List.length_drop,List.length_take];rfl)) ?_;(with_reducible refine (impl_Keccak256.calls _ _ l0 t123 _ ?side1 ?side2 A4.out).mono ?_);(case side1=> repeat (first|exact HR0.out|(with_reducible refine Kd.C_alloc ?_ _)|(with_reducible refine Kd.C_drewN ?_ _)|(with_reducible refine Kd.C_drew ?_)));(case side2=> exact HC0.out);rintro e w5 ⟨rfl,hb⟩;refine ⟨_,rfl,?_⟩;have n0_:=Aside0.mk (below_step (by repeat (first|(with_reducible first|exact HB.out|apply bwA|apply bwN|apply bwD)|exact HB.out)) hb);clear HB;have HB:=n0_;clear n0_;(try clear hb);(try clear hb2);(try clear hk);(try clear hi)))
      go_ret
      exact ⟨by first|rfl|(simp [errW_none,errW_some] <;> rfl)|(simp [*,errW_none,errW_some] <;> rfl),by repeat (first|(with_reducible first|exact HB.out|apply bwA|apply bwN|apply bwD)|exact HB.out)⟩
    · rw [if_neg c3] at H
      have c3b0:decide (65536 < (l0.length:Int))=false:=decide_eq_false c3
      have c3b1:decide (65536 < l0.length)=false:=decide_eq_false (by omega)
      clear c3
      replace H:=Option.bind_eq_some_iff.mp H
      obtain ⟨t124,A60,H⟩:=H
      replace H:((impl_HashText.f k t124).bind fun bt125=> ((spec_HashText.f k t124).bind fun bt127=> (if (t124.size:Int)=32 then ((spec_Keccak256.f l0).bind fun t129=> (if t124.toList=t129.toList then (if bt125.2=0 then (laws_FnKeccak.j0 k l0 t124 (bt125.1.toList !=bt127.1.toList)) else (none)) else (none))) else (none))))=some r:=H
      have A6:=Aside0.mk A60
      clear A60
      replace H:=Option.bind_eq_some_iff.mp H
      obtain ⟨⟨t125,t126⟩,A70,H⟩:=H
      replace H:((spec_HashText.f k t124).bind fun bt127=> (if (t124.size:Int)=32 then ((spec_Keccak256.f l0).bind fun t129=> (if t124.toList=t129.toList then (if t126=0 then (laws_FnKeccak.j0 k l0 t124 (t125.toList !=bt127.1.toList)) else (none)) else (none))) else (none)))=some r:=H
      have A7:=Aside0.mk A70
      clear A70
      replace H:=Option.bind_eq_some_iff.mp H
      obtain ⟨⟨t127,t128⟩,A80,H⟩:=H
      replace H:(if (t124.size:Int)=32 then ((spec_Keccak256.f l0).bind fun t129=> (if t124.toList=t129.toList then (if t126=0 then (laws_FnKeccak.j0 k l0 t124 (t125.toList !=t127.toList)) else (none)) else (none))) else (none))=some r:=H
      have A8:=Aside0.mk A80
      clear A80
      have HC9:=Aside0.mk H
      clear H
      go_enter Try.func7,Try.ntmps7
      go_upto_region 8 with (first|((with_reducible refine gate_callee (f:=25) rfl ?_);refine goesL_ (some 27) rfl rfl Try.func25 (by kernel_rfl) rfl #[.slice A0 l0.length c0] rfl (by (try simp only [List.map_toArray,List.map_cons,List.map_nil]);first|done|rfl|(simp only [List.length_drop,List.length_take];rfl)) ?_;(with_reducible refine (impl_Keccak256.calls _ _ l0 t124 _ ?side1 ?side2 A6.out).mono ?_);(case side1=> repeat (first|exact HR0.out|(with_reducible refine Kd.C_alloc ?_ _)|(with_reducible refine Kd.C_drewN ?_ _)|(with_reducible refine Kd.C_drew ?_)));(case side2=> exact HC0.out);rintro e w10 ⟨rfl,hb⟩;refine ⟨_,rfl,?_⟩;have n0_:=Aside0.mk (below_step (by repeat (first|(with_reducible first|exact HB.out|apply bwA|apply bwN|apply bwD)|exact HB.out)) hb);clear HB;have HB:=n0_;clear n0_;(try clear hb);(try clear hb2);(try clear hk);(try clear hi))|((with_reducible refine gate_callee (f:=31) rfl ?_);refine goesL_ (some 30) rfl rfl Try.func31 (by kernel_rfl) rfl #[.string t124] rfl (by (try simp only [List.map_toArray,List.map_cons,List.map_nil]);first|done|rfl|(simp only [List.length_drop,List.length_take];rfl)) ?_;(with_reducible refine (impl_HashText.calls k t124 t125 t126 _ A7.out).mono ?_);rintro e w11 ⟨rfl,hb⟩;refine ⟨_,rfl,?_⟩;have n0_:=Aside0.mk (below_step (by repeat (first|(with_reducible first|exact HB.out|apply bwA|apply bwN|apply bwD)|exact HB.out)) hb);clear HB;have HB:=n0_;clear n0_;(try clear hb);(try clear hb2);(try clear hk);(try clear hi))|((with_reducible refine gate_callee (f:=32) rfl ?_);refine goesL_ (some 35) rfl rfl Try.func32 (by kernel_rfl) rfl #[.string t124] rfl (by (try simp only [List.map_toArray,List.map_cons,List.map_nil]);first|done|rfl|(simp only [List.length_drop,List.length_take];rfl)) ?_;(with_reducible refine (spec_HashText.calls k t124 t127 t128 _ A8.out).mono ?_);rintro e w12 ⟨rfl,hb⟩;refine ⟨_,rfl,?_⟩;have n0_:=Aside0.mk (below_step (by repeat (first|(with_reducible first|exact HB.out|apply bwA|apply bwN|apply bwD)|exact HB.out)) hb);clear HB;have HB:=n0_;clear n0_;(try clear hb);(try clear hb2);(try clear hk);(try clear hi)))
      (try simp only [Act.put,List.setIfInBounds_toArray,List.set_cons_zero,List.set_cons_succ])
      go_cut [55] (fun v55 wc=> ∃ (kq:Nat) (x55_8:Bool),v55= .bool x55_8 ∧ Aside0 (laws_FnKeccak.j0 kq l0 t124 x55_8=some r) ∧ Aside0 (kq ≤ k) ∧ Aside0 (Below w.heap.size w wc))
      case first=>
        have H:=HC9.out
        clear HC9
        by_cases c13:(t124.size:Int)=32
        · rw [if_pos c13] at H
          have c13b0:((t124.size:Int)==32)=true:=beq_iff_eq.mpr c13
          have c13b1:((t124.size:Int) !=32)=false:=bne_eq_false_iff_eq.mpr c13
          clear c13
          (first|rw [c13b0]|(simp only [i64_w,i32_w];rw [c13b0])|skip)
          replace H:=Option.bind_eq_some_iff.mp H
          obtain ⟨t129,A140,H⟩:=H
          replace H:(if t124.toList=t129.toList then (if t126=0 then (laws_FnKeccak.j0 k l0 t124 (t125.toList !=t127.toList)) else (none)) else (none))=some r:=H
          have A14:=Aside0.mk A140
          clear A140
          by_cases c15:t124.toList=t129.toList
          · rw [if_pos c15] at H
            have c15b0:(t124.toList==t129.toList)=true:=beq_iff_eq.mpr c15
            have c15b1:(t124.toList !=t129.toList)=false:=bne_eq_false_iff_eq.mpr c15
            clear c15
            by_cases c16:t126=0
            · rw [if_pos c16] at H
              have c16b0:(t126==0)=true:=beq_iff_eq.mpr c16
              have c16b1:(t126 !=0)=false:=bne_eq_false_iff_eq.mpr c16
              clear c16
              have H':=Aside0.mk H
              clear H
              go_wp2_with (first|(go_at_call 23;(with_reducible refine (spec_Keccak256.calls _ _ l0 t129 _ ?side1 ?side2 A14.out).mono ?_);(case side1=> repeat (first|exact (Kd.C_below HR0.out HB.out)|(with_reducible refine Kd.C_alloc ?_ _)|(with_reducible refine Kd.C_drewN ?_ _)|(with_reducible refine Kd.C_drew ?_)));(case side2=> exact HC0.out);rintro e w17 ⟨rfl,hb⟩;have n0_:=Aside0.mk (below_step (by repeat (first|(with_reducible first|exact HB.out|apply bwA|apply bwN|apply bwD)|exact HB.out)) hb);clear HB;have HB:=n0_;clear n0_;(try clear hb);(try clear hb2);(try clear hk);(try clear hi)))
              go_meet
              case rel=> exact ⟨_,((t125.toList !=t127.toList)),(by first|rfl|(simp;done)|(simp [*];done)),H',⟨by first|omega|exact Nat.le_refl _⟩,⟨by repeat (first|(with_reducible first|exact HB.out|apply bwA|apply bwN|apply bwD)|exact HB.out)⟩⟩
            · rw [if_neg c16] at H
              exact absurd H (by simp)
          · rw [if_neg c15] at H
            exact absurd H (by simp)
        · rw [if_neg c13] at H
          exact absurd H (by simp)
      case rest=>
        clear HC9
        try clear c1
        try clear c2
        try clear c2b0
        try clear c2b1
        try clear p2
        try clear c3
        try clear c3b0
        try clear c3b1
        try clear c7
        try clear c13
        try clear c13b0
        try clear c13b1
        try clear c15
        try clear c15b0
        try clear c15b1
        try clear c16
        try clear c16b0
        try clear c16b1
        obtain ⟨kq,x55_8,rfl,HA,HJ8,HB⟩:=hcut
        cases kq with
        |zero=> exact absurd HA.out (by simp [laws_FnKeccak.j0])
        |succ kj8=>
          have H:=HA.out
          clear HA
          simp only [laws_FnKeccak.j0] at H
          by_cases c18:x55_8=true
          · subst c18
            have H1:(none)=some r:=by rw [if_pos rfl] at H;exact H
            clear H
            have H:=H1
            clear H1
            exact absurd H (by simp)
          · replace c18:=Bool.eq_false_iff.mpr c18
            subst c18
            have H1:((some (([]:List Int):List Int)).bind fun y130=> (if y130.length + l0.length < 140737488355328 then ((some (y130 ++ l0:List Int)).bind fun y133=> (if y133.length < 140737488355328 then (laws_FnKeccak.l0 kj8 l0 t124 (y133 ++ [1])) else (none))) else (none)))=some r:=by rw [if_neg (show ¬ (false=true) by decide)] at H;exact H
            clear H
            have H:=H1
            clear H1
            obtain ⟨y130,hy130⟩:∃ y_:List Int,y_=(([]:List Int)):=⟨_,rfl⟩
            replace H:(if y130.length + l0.length < 140737488355328 then ((some (y130 ++ l0:List Int)).bind fun y133=> (if y133.length < 140737488355328 then (laws_FnKeccak.l0 kj8 l0 t124 (y133 ++ [1])) else (none))) else (none))=some r:=by first|(rw [hy130];with_reducible exact H)|(have H2_:=(Option.bind_some _ _).symm.trans H;rw [hy130];with_reducible exact H2_)|(have H2_:=(Option.bind_some _ _).symm.trans H;with_reducible exact H2_)|with_reducible exact H|(rw [hy130];exact H)|exact H
            have Ny130:=Aside0.mk hy130
            clear hy130
            by_cases c19:y130.length + l0.length < 140737488355328
            · rw [if_pos c19] at H
              have LMc19:=Aside0.mk c19
              clear c19
              obtain ⟨y133,hy133⟩:∃ y_:List Int,y_=(y130 ++ l0):=⟨_,rfl⟩
              replace H:(if y133.length < 140737488355328 then (laws_FnKeccak.l0 kj8 l0 t124 (y133 ++ [1])) else (none))=some r:=by first|(rw [hy133];with_reducible exact H)|(have H2_:=(Option.bind_some _ _).symm.trans H;rw [hy133];with_reducible exact H2_)|(have H2_:=(Option.bind_some _ _).symm.trans H;with_reducible exact H2_)|with_reducible exact H|(rw [hy133];exact H)|exact H
              have Ny133:=Aside0.mk hy133
              clear hy133
              by_cases c20:y133.length < 140737488355328
              · rw [if_pos c20] at H
                have LMc20:=Aside0.mk c20
                clear c20
                obtain ⟨y136,hy136⟩:∃ y_:List Int,y_=(y133 ++ [1]):=⟨_,rfl⟩
                replace H:(laws_FnKeccak.l0 kj8 l0 t124 y136)=some r:=by first|(rw [hy136];with_reducible exact H)|(have H2_:=(Option.bind_some _ _).symm.trans H;rw [hy136];with_reducible exact H2_)|(have H2_:=(Option.bind_some _ _).symm.trans H;with_reducible exact H2_)|with_reducible exact H|(rw [hy136];exact H)|exact H
                have Ny136:=Aside0.mk hy136
                clear hy136
                have H':=Aside0.mk H
                clear H
                go_wp2_with (first|((with_reducible refine gate_dst (N:=56) rfl ?_);(try (refine gate_guard (by rfl) ?_;dsimp only));refine Kd.R_lit (Kd.int .u8) _ 5 ?hg (N:=56) ?hd (xs:=([]:List Int)) (inner:= []) (ok:=fun _=> True) (okp:=fun _=> True) ?hr ?hp (fun _ hk=> hk) trivial (Below.refl _ _) (Nat.le_refl _) (by simp) ?_;(case hd=> rfl);(case hg=> rfl);(case hr=> first|(go_simp;done)|(go_simp;rfl));(case hp=> exact (Reps.none _ _));intro v131 w21 ho22 hb hg_ hnew_;clear hg_ hnew_;(first|rw [← Ny130.out] at ho22|(simp only [Int.reduceToNat] at ho22;rw [← Ny130.out] at ho22));have n0_:=Aside0.mk (Kd.R_lower ho22 (below_size (by repeat (first|(with_reducible first|exact HB.out|apply bwA|apply bwN|apply bwD)|exact HB.out))));have n1_:=Aside0.mk (below_step (by repeat (first|(with_reducible first|exact HB.out|apply bwA|apply bwN|apply bwD)|exact HB.out)) hb);clear HB;have HO132:=n0_;have HB:=n1_;clear n0_ n1_;clear hb ho22)|((with_reducible refine gate_builtin (b:= .append) (xs:= #[.tmp 56,.tmp 57]) rfl ?_);(try (refine gate_guard (by rfl) ?_;dsimp only));at_builtin;refine Kd.R_append_rows (Kd.int .u8) (w0:=w) w.heap.size rfl (.tmp 56) (.tmp 57) 25 5 (.int .u8 0) 1 rfl Try.underlying25 info5 rfl (by decide) (by omega) v131 y130 l0 _ _ _ (fun _=> True) (fun _=> False) rfl rfl ?aO ?aR (fun _ _ h=> h) (fun _ h=> h.elim) ?aF ?aB ?aS ?aL ?_;(case aR=> repeat (first|exact (Kd.C_below HR0.out HB.out)|(with_reducible refine Kd.C_alloc ?_ _)|(with_reducible refine Kd.C_drewN ?_ _)|(with_reducible refine Kd.C_drew ?_)));(case aB=> exact (by repeat (first|(with_reducible first|exact HB.out|apply bwA|apply bwN|apply bwD)|exact HB.out)));(case aF=> exact (fun _ _=> trivial));(case aO=> exact (by (with_reducible repeat (first|apply Kd.R_alloc|apply Kd.R_drewN|apply Kd.R_drew));exact HO132.out));(case aS=> exact (below_size (by repeat (first|(with_reducible first|exact HB.out|apply bwA|apply bwN|apply bwD)|exact HB.out))));(case aL=> have:=LMc19.out;omega);intro v134 w23 ho hb hg hat;rw [← Ny133.out] at ho;have n0_:=Aside0.mk (hb);have n1_:=Aside0.mk (ho);clear HB;clear HO132;have HB:=n0_;have HO135:=n1_;clear n0_ n1_;clear ho hb hg hat)|((with_reducible refine gate_builtin (b:= .append) (xs:= #[.tmp 58,.tmp 59]) rfl ?_);(try (refine gate_guard (by rfl) ?_;dsimp only));at_builtin;refine Kd.R_append (Kd.int .u8) (w0:=w) w.heap.size rfl (.tmp 58) (.tmp 59) 25 5 (.int .u8 0) 1 rfl Try.underlying25 info5 rfl (by decide) (by omega) v134 y133 1 [.int .u8 1] (fun _=> True) (fun _=> False) rfl rfl ?aP (fun _ hk=> hk.elim) ?aF ?aO ?aB ?aS ?aL ?_;(case aP=> exact rfl);(case aB=> exact (by repeat (first|(with_reducible first|exact HB.out|apply bwA|apply bwN|apply bwD)|exact HB.out)));(case aF=> exact (fun _ _=> trivial));(case aO=> exact (by (with_reducible repeat (first|apply Kd.R_alloc|apply Kd.R_drewN|apply Kd.R_drew));exact HO135.out));(case aS=> exact (below_size (by repeat (first|(with_reducible first|exact HB.out|apply bwA|apply bwN|apply bwD)|exact HB.out))));(case aL=> have:=LMc20.out;omega);intro v137 w24 ho hb hg hat;rw [← Ny136.out] at ho;have n0_:=Aside0.mk (hb);have n1_:=Aside0.mk (ho);clear HB;clear HO135;have HB:=n0_;have HO138:=n1_;clear n0_ n1_;clear ho hb hg hat))
                go_loopg [8] kj8 (fun kq v8 w'=> ∃ (x8_2:List Int),Aside0 (laws_FnKeccak.l0 kq l0 t124 x8_2=some r) ∧ Aside0 (kq ≤ kj8) ∧ Aside0 (Kd.R (Kd.int .u8) 5 w' w.heap.size (fun _=> True) v8 x8_2) ∧ Aside0 (Below w.heap.size w w'))
                case atStart=> exact ⟨(y136),H',⟨Nat.le_refl _⟩,⟨by (with_reducible repeat (first|apply Kd.R_alloc|apply Kd.R_drewN|apply Kd.R_drew));exact HO138.out⟩,⟨by repeat (first|(with_reducible first|exact HB.out|apply bwA|apply bwN|apply bwD)|exact HB.out)⟩⟩
                case round=>
                  clear H'
                  try clear c1
                  try clear c2
                  try clear c2b0
                  try clear c2b1
                  try clear p2
                  try clear c3
                  try clear c3b0
                  try clear c3b1
                  try clear c7
                  try clear c13
                  try clear c13b0
                  try clear c13b1
                  try clear c15
                  try clear c15b0
                  try clear c15b1
                  try clear c16
                  try clear c16b0
                  try clear c16b1
                  try clear c18
                  try clear c19
                  try clear c20
                  try clear p2
                  obtain ⟨x8_2,HA,HK2,HO_8,HB⟩:=hrel
                  cases gk with
                  |zero=> exact absurd HA.out (by simp [laws_FnKeccak.l0])
                  |succ k2=>
                    have H:=HA.out
                    clear HA
                    simp only [laws_FnKeccak.l0] at H
                    by_cases c25:((x8_2.length:Int) % 136)=0
                    · rw [if_pos c25] at H
                      have c25b0:(((x8_2.length:Int) % 136)==0)=true:=beq_iff_eq.mpr c25
                      have c25b1:(((x8_2.length:Int) % 136) !=0)=false:=bne_eq_false_iff_eq.mpr c25
                      clear c25
                      obtain ⟨ji26,hji26⟩:∃ j_:Int,(wrap64 ((x8_2.length:Int) - 1))=j_:=⟨_,rfl⟩
                      replace H:(if 0 ≤ (ji26) then (if (ji26) < (x8_2.length:Int) then (if 200 ≤ 281474976710656 then (laws_FnKeccak.l1 k2 l0 t124 (x8_2.set ((ji26):Int).toNat (Go.bits .or .u8 (rd x8_2 (ji26)) 128)) (List.replicate 200 0) 0 0) else (none)) else (none)) else (none))=some r:=by first|(rw [hji26] at H;exact H)|(simp only [hji26] at H ⊢;exact H)
                      have hji26w:(IntKind.i64.wrap ((x8_2.length:Int) - 1))=ji26:=(i64_w _).trans hji26
                      by_cases c27:0 ≤ (ji26)
                      · rw [if_pos c27] at H
                        have c27b0:decide (0 ≤ (ji26))=true:=decide_eq_true c27
                        clear c27
                        by_cases c28:(ji26) < (x8_2.length:Int)
                        · rw [if_pos c28] at H
                          have c28b0:decide ((ji26) < (x8_2.length:Int))=true:=decide_eq_true c28
                          clear c28
                          obtain ⟨y143,hy143⟩:∃ y_:List Int,y_=(x8_2.set ((ji26):Int).toNat (Go.bits .or .u8 (rd x8_2 (ji26)) 128)):=⟨_,rfl⟩
                          replace H:(if 200 ≤ 281474976710656 then (laws_FnKeccak.l1 k2 l0 t124 y143 (List.replicate 200 0) 0 0) else (none))=some r:=by first|(rw [hy143];with_reducible exact H)|(have H2_:=(Option.bind_some _ _).symm.trans H;rw [hy143];with_reducible exact H2_)|(have H2_:=(Option.bind_some _ _).symm.trans H;with_reducible exact H2_)|with_reducible exact H|(rw [hy143];exact H)|exact H
                          have Ny143:=Aside0.mk hy143
                          clear hy143
                          by_cases c30:200 ≤ 281474976710656
                          · rw [if_pos c30] at H
                            have c30b0:=eq_true c30
                            have c30b1:decide (200 ≤ 281474976710656)=true:=decide_eq_true c30
                            clear c30
                            obtain ⟨y144,hy144⟩:∃ y_:List Int,y_=(List.replicate 200 0):=⟨_,rfl⟩
                            replace H:(laws_FnKeccak.l1 k2 l0 t124 y143 y144 0 0)=some r:=by first|(rw [hy144];with_reducible exact H)|(have H2_:=(Option.bind_some _ _).symm.trans H;rw [hy144];with_reducible exact H2_)|(have H2_:=(Option.bind_some _ _).symm.trans H;with_reducible exact H2_)|with_reducible exact H|(rw [hy144];exact H)|exact H
                            have Ny144:=Aside0.mk hy144
                            clear hy144
                            have H':=Aside0.mk H
                            clear H
                            obtain ⟨Ao31,co31,eo31⟩:=Kd.R_slice HO_8.out
                            subst eo31
                            have p142:0 ≤ ((ji26):Int):=of_decide_eq_true (by first|(with_reducible assumption)|assumption)
                            have q142:(ji26) < (x8_2.length:Int):=of_decide_eq_true (by first|(with_reducible assumption)|assumption)
                            obtain ⟨ad142,e142,hx142_0⟩:=Kd.at_int (Kd.R_reads' HO_8.out).2.2 (ji26) p142 q142
                            cases e142
                            replace p142:=eq_true p142
                            replace q142:=eq_true q142
                            have p29:0 ≤ ((ji26):Int):=of_decide_eq_true (by first|(with_reducible assumption)|assumption)
                            have q29:((ji26):Int) < ((x8_2.length:Int):Int):=of_decide_eq_true (by first|(with_reducible assumption)|assumption)
                            obtain ⟨go29,co29,eo29,gb29,gl29,cl29,HG29⟩:=Kd.R_form HO_8.out (by omega)
                            (first|cases eo29|(injection eo29 with ea_ en_ ec_;(first|subst ea_|(injection ea_ with ea_;subst ea_));subst ec_;clear en_))
                            have GB29:=Aside0.mk gb29
                            have GG29:=Aside0.mk HG29
                            clear gb29 gl29 HG29
                            (first|simp only [add_plain] at hx142_0|skip)
                            obtain ⟨hx29_0,hf29_0⟩:=Kd.R_celln 0 HO_8.out ((ji26):Int) p29 q29
                            replace p29:=eq_true p29
                            replace q29:=eq_true q29
                            have HP32:=Kd.R_putg HO_8.out ((ji26):Int) (Go.bits .or .u8 (rd x8_2 (ji26)) 128)
                            go_wp2_with (first|((with_reducible refine gate_store (t:=5) (p:=75) rfl ?_);refine store_event (t:=5) (p:=75) (v:=?vo_w33) (w1:=(wr.setCell ⟨go29,((ji26):Int).toNat,none⟩ (.int .u8 (Go.bits .or .u8 (rd x8_2 (ji26)) 128)))) ?hg ?ho ?hn ?hr ?_;(case ho=> rfl);(case hg=> rfl);(case hn=> rfl);(case hr=> first|(go_simp;done)|(go_simp;rfl));intro w33 hw;have hg:wr.grownBy w33 (some go29):=(by rw [hw];exact HP32.2);have hp_:Kd.R (Kd.int .u8) 5 w33 w.heap.size (fun _=> True) (.slice (some ⟨go29,0,none⟩) x8_2.length co31) y143:=(by rw [hw,Ny143.out];exact HP32.1);clear HP32;have n0_:=Aside0.mk (hp_);have n1_:=Aside0.mk ((by rw [hw];exact bwS (HB.out) GB29.out:Below w.heap.size w w33));clear HO_8;clear HB;have HO_8:=n0_;have HB:=n1_;clear n0_ n1_;clear hg hw hp_)|((with_reducible refine gate_dst (N:=76) rfl ?_);(try (refine gate_guard (by rfl) ?_;dsimp only));refine Kd.R_make (Kd.int .u8) _ 5 rfl (N:=76) rfl 25 _ _ rfl 200 rfl rfl Try.underlying25 (.int .u8 0) 1 info5 rfl (by decide) (by omega) 0 (ok:=fun _=> True) (okp:=fun _=> True) rfl (fun _ hk=> hk) trivial (by omega) (by omega) (Below.refl _ _) (Nat.le_refl _) ?_;intro v145 w34 ho35 hb hg_ hnew_;clear hg_ hnew_;(first|rw [← Ny144.out] at ho35|(simp only [Int.reduceToNat] at ho35;rw [← Ny144.out] at ho35));have n0_:=Aside0.mk (Kd.R_elder' (by (with_reducible repeat (first|apply Kd.R_alloc|apply Kd.R_drewN|apply Kd.R_drew));exact HO_8.out) (Kd.R_base ho35) hb);have n1_:=Aside0.mk (Kd.R_lower (Kd.R_new' ho35 (Kd.R_lt (by (with_reducible repeat (first|apply Kd.R_alloc|apply Kd.R_drewN|apply Kd.R_drew));exact HO_8.out))) (below_size (by repeat (first|(with_reducible first|exact HB.out|apply bwA|apply bwN|apply bwD)|exact HB.out))));have n2_:=Aside0.mk (below_step (by repeat (first|(with_reducible first|exact HB.out|apply bwA|apply bwN|apply bwD)|exact HB.out)) hb);clear HO_8;clear HB;have HO_8:=n0_;have HO146:=n1_;have HB:=n2_;clear n0_ n1_ n2_;clear hb ho35))
                            go_loopg [9,10,11] k2 (fun kq v9 v10 v11 w'=> ∃ (x8_3:List Int) (x9_3:List Int) (x10_3:Int) (x11_3:Int),v10= .int .i64 x10_3 ∧ v11= .int .i64 x11_3 ∧ Aside0 (laws_FnKeccak.l1 kq l0 t124 x8_3 x9_3 x10_3 x11_3=some r) ∧ Aside0 (kq ≤ k2) ∧ Aside0 (Kd.R (Kd.int .u8) 5 w' w.heap.size (fun k_=> some k_ ≠ (v9:Value).ownBlock) (.slice (some ⟨go29,0,none⟩) x8_2.length co31) x8_3) ∧ Aside0 (RB w' w.heap.size (fun k_=> some k_ ≠ ((.slice (some ⟨go29,0,none⟩) x8_2.length co31):Value).ownBlock) v9 x9_3) ∧ Aside0 (Below w.heap.size w w'))
                            case atStart=> exact ⟨(y143),(y144),(0),(0),(by first|rfl|(simp;done)|(simp [*];done)),(by first|rfl|(simp;done)|(simp [*];done)),H',⟨Nat.le_refl _⟩,⟨by (with_reducible repeat (first|apply Kd.R_alloc|apply Kd.R_drewN|apply Kd.R_drew));exact Kd.R_mono HO_8.out (fun _ hk=> hk.2)⟩,⟨by (with_reducible repeat (first|apply RB.alloc|apply RB.drewN|apply RB.drew));exact RB.of_R (Kd.R_mono HO146.out (fun _ hk=> hk.2)) (by rw [Ny144.out];simp)⟩,⟨by repeat (first|(with_reducible first|exact HB.out|apply bwA|apply bwN|apply bwD)|exact HB.out)⟩⟩
                            case round=>
                              clear H'
                              try clear c1
                              try clear p1
                              try clear q1
                              try clear hx1
                              try clear c2
                              try clear c2b0
                              try clear c2b1
                              try clear p2
                              try clear q2
                              try clear hx2
                              try clear hf2
                              try clear c3
                              try clear c3b0
                              try clear c3b1
                              try clear p6
                              try clear c7
                              try clear c13
                              try clear c13b0
                              try clear c13b1
                              try clear p14
                              try clear q14
                              try clear hx14
                              try clear c15
                              try clear c15b0
                              try clear c15b1
                              try clear c16
                              try clear c16b0
                              try clear c16b1
                              try clear c18
                              try clear c19
                              try clear c20
                              try clear c25
                              try clear c25b0
                              try clear c25b1
                              try clear c27
                              try clear c27b0
                              try clear c28
                              try clear c28b0
                              try clear p29
                              try clear q29
                              try clear hx29
                              try clear hf29
                              try clear c30
                              try clear c30b0
                              try clear c30b1
                              try clear c31
                              try clear c32
                              try clear hx142_0
                              try clear hx29_0
                              try clear p142
                              try clear p2
                              try clear p29
                              try clear q142
                              try clear q29
                              obtain ⟨x8_3,x9_3,x10_3,x11_3,rfl,rfl,HA,HK3,HO_8,HO_9,HB⟩:=hrel
                              have hl8_3:=(Kd.R_reads' HO_8.out).1
                              rw [hl8_3] at HO_8
                              (try simp only [hl8_3])
                              (try simp only [hl8_3] at HO_9)
                              cases gk with
                              |zero=> exact absurd HA.out (by simp [laws_FnKeccak.l1])
                              |succ k3=>
                                have H:=HA.out
                                clear HA
                                simp only [laws_FnKeccak.l1] at H
                                by_cases c36:x11_3 < (x8_3.length:Int)
                                · rw [if_pos c36] at H
                                  have c36b0:decide (x11_3 < (x8_3.length:Int))=true:=decide_eq_true c36
                                  clear c36
                                  have H':=Aside0.mk H
                                  clear H
                                  go_wp2
                                  go_loopg [12] k3 (fun kq v12 w'=> ∃ (x9_4:List Int) (x12_4:Int),v12= .int .i64 x12_4 ∧ Aside0 (laws_FnKeccak.l2 kq l0 t124 x8_3 x9_4 x10_3 x11_3 x12_4=some r) ∧ Aside0 (kq ≤ k3) ∧ Aside0 (Kd.R (Kd.int .u8) 5 w' w.heap.size (fun k_=> some k_ ≠ (u9:Value).ownBlock) (.slice (some ⟨go29,0,none⟩) x8_3.length co31) x8_3) ∧ Aside0 (RB w' w.heap.size (fun k_=> some k_ ≠ ((.slice (some ⟨go29,0,none⟩) x8_3.length co31):Value).ownBlock) u9 x9_4) ∧ Aside0 (Below w.heap.size w w'))
                                  case atStart=> exact ⟨(x9_3),(0),(by first|rfl|(simp;done)|(simp [*];done)),H',⟨Nat.le_refl _⟩,⟨by (try simp only [hl8_3]);(with_reducible repeat (first|apply Kd.R_alloc|apply Kd.R_drewN|apply Kd.R_drew));exact HO_8.out⟩,⟨by (try simp only [hl8_3]);(with_reducible repeat (first|apply RB.alloc|apply RB.drewN|apply RB.drew));exact HO_9.out⟩,⟨by repeat (first|(with_reducible first|exact HB.out|apply bwA|apply bwN|apply bwD)|exact HB.out)⟩⟩
                                  case round=>
                                    clear H'
                                    try clear c1
                                    try clear p1
                                    try clear q1
                                    try clear hx1
                                    try clear c2
                                    try clear c2b0
                                    try clear c2b1
                                    try clear p2
                                    try clear q2
                                    try clear hx2
                                    try clear hf2
                                    try clear c3
                                    try clear c3b0
                                    try clear c3b1
                                    try clear p6
                                    try clear c7
                                    try clear c13
                                    try clear c13b0
                                    try clear c13b1
                                    try clear p14
                                    try clear q14
                                    try clear hx14
                                    try clear c15
                                    try clear c15b0
                                    try clear c15b1
                                    try clear c16
                                    try clear c16b0
                                    try clear c16b1
                                    try clear c18
                                    try clear c19
                                    try clear c20
                                    try clear c25
                                    try clear c25b0
                                    try clear c25b1
                                    try clear c27
                                    try clear c27b0
                                    try clear c28
                                    try clear c28b0
                                    try clear p29
                                    try clear q29
                                    try clear hx29
                                    try clear hf29
                                    try clear c30
                                    try clear c30b0
                                    try clear c30b1
                                    try clear c31
                                    try clear c32
                                    try clear c36
                                    try clear c36b0
                                    try clear hx142_0
                                    try clear hx29_0
                                    try clear p1
                                    try clear p14
                                    try clear p142
                                    try clear p2
                                    try clear p29
                                    try clear p6
                                    try clear q1
                                    try clear q14
                                    try clear q142
                                    try clear q2
                                    try clear q29
                                    obtain ⟨x9_4,x12_4,rfl,HA,HK4,HO_8,HO_9,HB⟩:=hrel
                                    cases gk with
                                    |zero=> exact absurd HA.out (by simp [laws_FnKeccak.l2])
                                    |succ k4=>
                                      have H:=HA.out
                                      clear HA
                                      simp only [laws_FnKeccak.l2] at H
                                      by_cases c37:x12_4 < 136
                                      · rw [if_pos c37] at H
                                        have c37b0:decide (x12_4 < 136)=true:=decide_eq_true c37
                                        clear c37
                                        by_cases c38:0 ≤ x12_4
                                        · rw [if_pos c38] at H
                                          have c38b0:decide (0 ≤ x12_4)=true:=decide_eq_true c38
                                          clear c38
                                          by_cases c39:x12_4 < (x9_4.length:Int)
                                          · rw [if_pos c39] at H
                                            have c39b0:decide (x12_4 < (x9_4.length:Int))=true:=decide_eq_true c39
                                            clear c39
                                            obtain ⟨ji40,hji40⟩:∃ j_:Int,(wrap64 (x11_3 + x12_4))=j_:=⟨_,rfl⟩
                                            replace H:(if 0 ≤ (ji40) then (if (ji40) < (x8_3.length:Int) then (laws_FnKeccak.l2 k4 l0 t124 x8_3 (x9_4.set (x12_4:Int).toNat (Go.bits .xor .u8 (rd x9_4 x12_4) (rd x8_3 (ji40)))) x10_3 x11_3 (wrap64 (x12_4 + 1))) else (none)) else (none))=some r:=by first|(rw [hji40] at H;exact H)|(simp only [hji40] at H ⊢;exact H)
                                            have hji40w:(IntKind.i64.wrap (x11_3 + x12_4))=ji40:=(i64_w _).trans hji40
                                            by_cases c41:0 ≤ (ji40)
                                            · rw [if_pos c41] at H
                                              have c41b0:decide (0 ≤ (ji40))=true:=decide_eq_true c41
                                              clear c41
                                              by_cases c42:(ji40) < (x8_3.length:Int)
                                              · rw [if_pos c42] at H
                                                have c42b0:decide ((ji40) < (x8_3.length:Int))=true:=decide_eq_true c42
                                                clear c42
                                                obtain ⟨y155,hy155⟩:∃ y_:List Int,y_=(x9_4.set (x12_4:Int).toNat (Go.bits .xor .u8 (rd x9_4 x12_4) (rd x8_3 (ji40)))):=⟨_,rfl⟩
                                                replace H:(laws_FnKeccak.l2 k4 l0 t124 x8_3 y155 x10_3 x11_3 (wrap64 (x12_4 + 1)))=some r:=by first|(rw [hy155];with_reducible exact H)|(have H2_:=(Option.bind_some _ _).symm.trans H;rw [hy155];with_reducible exact H2_)|(have H2_:=(Option.bind_some _ _).symm.trans H;with_reducible exact H2_)|with_reducible exact H|(rw [hy155];exact H)|exact H
                                                have Ny155:=Aside0.mk hy155
                                                clear hy155
                                                have H':=Aside0.mk H
                                                clear H
                                                try go_wp2
                                                have n0_:=Aside0.mk (Kd.R_drew HO_8.out)
                                                have n1_:=Aside0.mk (RB.drew HO_9.out)
                                                have n2_:=Aside0.mk (bwD HB.out)
                                                clear HO_8
                                                clear HO_9
                                                clear HB
                                                have HO_8:=n0_
                                                have HO_9:=n1_
                                                have HB:=n2_
                                                clear n0_ n1_ n2_
                                                obtain ⟨Ao45,co45,eo45⟩:=RB.slice HO_9.out
                                                (first|subst eo45|(injection eo45 with f1_ f2_ f3_;have f4_:=f1_.symm;have f5_:=f3_.symm;clear f1_ f2_ f3_;subst f4_;subst f5_))
                                                have p153:0 ≤ (x12_4:Int):=of_decide_eq_true (by first|(with_reducible assumption)|assumption)
                                                have q153:x12_4 < (x9_4.length:Int):=of_decide_eq_true (by first|(with_reducible assumption)|assumption)
                                                obtain ⟨ad153,e153,hx153_0⟩:=Kd.at_int (RB.reads' HO_9.out).2.2 x12_4 p153 q153
                                                cases e153
                                                replace p153:=eq_true p153
                                                replace q153:=eq_true q153
                                                have p154:0 ≤ ((ji40):Int):=of_decide_eq_true (by first|(with_reducible assumption)|assumption)
                                                have q154:(ji40) < (x8_3.length:Int):=of_decide_eq_true (by first|(with_reducible assumption)|assumption)
                                                obtain ⟨ad154,e154,hx154_0⟩:=Kd.at_int (Kd.R_reads' HO_8.out).2.2 (ji40) p154 q154
                                                obtain rfl:(⟨go29,0,none⟩:Addr)=ad154:=(by injection e154)
                                                (first|simp only [add_plain] at hx154_0|simp only [add_at] at hx154_0|simp only [Addr.add,Nat.zero_add] at hx154_0|skip)
                                                replace p154:=eq_true p154
                                                replace q154:=eq_true q154
                                                have p43:0 ≤ (x12_4:Int):=of_decide_eq_true (by first|(with_reducible assumption)|assumption)
                                                have q43:(x12_4:Int) < ((x9_4.length:Int):Int):=of_decide_eq_true (by first|(with_reducible assumption)|assumption)
                                                obtain ⟨go43,co43,eo43,gb43,gl43,cl43,HG43⟩:=RB.form HO_9.out (by omega)
                                                (first|cases eo43|(injection eo43 with ea_ en_ ec_;(first|subst ea_|(injection ea_ with ea_;subst ea_));subst ec_;clear en_))
                                                have GB43:=Aside0.mk gb43
                                                have GG43:=Aside0.mk HG43
                                                clear gb43 gl43 HG43
                                                (first|simp only [add_plain] at hx153_0|skip)
                                                obtain ⟨hx43_0,hf43_0⟩:=RB.celln HO_9.out (x12_4:Int) p43 q43
                                                replace p43:=eq_true p43
                                                replace q43:=eq_true q43
                                                have HP46:=RB.putn HO_9.out (x12_4:Int) (Go.bits .xor .u8 (rd x9_4 x12_4) (rd x8_3 (ji40))) (of_eq_true p43) (of_eq_true q43)
                                                rw [← Ny155.out] at HP46
                                                have HQ46:=Aside0.mk HP46
                                                clear HP46
                                                refine start_ (n:=13) (S:=fun w'=> w'.cell? ⟨go43,(x12_4).toNat,none⟩=some (.int .u8 (rd x9_4 x12_4)) ∧ w'.cell? ⟨go29,((ji40)).toNat,none⟩=some (.int .u8 (rd x8_3 (ji40)))) (ds:= [12]) #[false,false,false,false,false,false,false,false,false,false,false,false,false] (by kernel_rfl) rfl rfl ⟨hx153_0,hx154_0⟩ (fun hHeld=> ?_);refine with_tabW laws_FnKeccak.tab22 laws_FnKeccak.bits22 (fun HT_ HW_=> ?_)
                                                generalize wr.drew=w44 at HO_8 HO_9 HB GG43 HQ46 hf43_0 hx153_0 hx154_0 hx43_0 hHeld ⊢
                                                refine pure_ (i:=0) (N:=some 87) (v:=?_) (a':=?_) #[true,false,false,false,false,false,false,false,false,false,false,false,false] rfl rfl (any_of HT_.out (by kernel_rfl)) (fun _ _ _ h=> h) (Or.inl ⟨by rfl,?_⟩) ?_ ?_
                                                rotate_left
                                                · intro w'
                                                  go_simp
                                                  with_reducible rfl
                                                rotate_left
                                                · simp only [Act.put,List.setIfInBounds_toArray,List.set_cons_zero,List.set_cons_succ,i64_w,i32_w]
                                                  rfl
                                                refine pure_ (i:=1) (N:=some 88) (v:=?_) (a':=?_) #[true,true,false,false,false,false,false,false,false,false,false,false,false] rfl rfl (any_of HT_.out (by kernel_rfl)) (fun _ _ _ h=> h) (Or.inl ⟨by rfl,?_⟩) ?_ ?_
                                                rotate_left
                                                · intro w'
                                                  go_simp
                                                  with_reducible rfl
                                                rotate_left
                                                · simp only [Act.put,List.setIfInBounds_toArray,List.set_cons_zero,List.set_cons_succ,i64_w,i32_w]
                                                  rfl
                                                refine pure_ (i:=2) (N:=some 89) (v:=?_) (a':=?_) #[true,true,true,false,false,false,false,false,false,false,false,false,false] rfl rfl (any_of HT_.out (by kernel_rfl)) (fun _ _ _ h=> h) (Or.inl ⟨by rfl,?_⟩) ?_ ?_
                                                rotate_left
                                                · intro w'
                                                  go_simp
                                                  with_reducible rfl
                                                rotate_left
                                                · simp only [Act.put,List.setIfInBounds_toArray,List.set_cons_zero,List.set_cons_succ,i64_w,i32_w]
                                                  rfl
                                                refine pure_ (i:=4) (N:=some 91) (v:=?_) (a':=?_) #[true,true,true,false,true,false,false,false,false,false,false,false,false] rfl rfl (any_of HT_.out (by kernel_rfl)) (fun _ _ _ h=> h) (Or.inl ⟨by rfl,?_⟩) ?_ ?_
                                                rotate_left
                                                · intro w'
                                                  go_simp
                                                  with_reducible rfl
                                                rotate_left
                                                · simp only [Act.put,List.setIfInBounds_toArray,List.set_cons_zero,List.set_cons_succ,i64_w,i32_w]
                                                  rfl
                                                refine pure_ (i:=5) (N:=some 92) (v:=?_) (a':=?_) #[true,true,true,false,true,true,false,false,false,false,false,false,false] rfl rfl (any_of HT_.out (by kernel_rfl)) (fun _ _ _ h=> h) (Or.inl ⟨by rfl,?_⟩) ?_ ?_
                                                rotate_left
                                                · intro w'
                                                  go_simp
                                                  with_reducible rfl
                                                rotate_left
                                                · simp only [Act.put,List.setIfInBounds_toArray,List.set_cons_zero,List.set_cons_succ,i64_w,i32_w]
                                                  rfl
                                                refine pure_ (i:=6) (N:=some 93) (v:=?_) (a':=?_) #[true,true,true,false,true,true,true,false,false,false,false,false,false] rfl rfl (any_of HT_.out (by kernel_rfl)) (fun _ _ _ h=> h) (Or.inl ⟨by rfl,?_⟩) ?_ ?_
                                                rotate_left
                                                · intro w'
                                                  go_simp
                                                  with_reducible rfl
                                                rotate_left
                                                · simp only [Act.put,List.setIfInBounds_toArray,List.set_cons_zero,List.set_cons_succ,i64_w,i32_w]
                                                  rfl
                                                refine pure_ (i:=7) (N:=some 94) (v:=?_) (a':=?_) #[true,true,true,false,true,true,true,true,false,false,false,false,false] rfl rfl (any_of HT_.out (by kernel_rfl)) (fun _ _ _ h=> h) (Or.inl ⟨by rfl,?_⟩) ?_ ?_
                                                rotate_left
                                                · intro w'
                                                  go_simp
                                                  with_reducible rfl
                                                rotate_left
                                                · simp only [Act.put,List.setIfInBounds_toArray,List.set_cons_zero,List.set_cons_succ,i64_w,i32_w]
                                                  rfl
                                                refine pure_ (i:=8) (N:=some 95) (v:=?_) (a':=?_) #[true,true,true,false,true,true,true,true,true,false,false,false,false] rfl rfl (any_of HT_.out (by kernel_rfl)) (fun _ _ _ h=> h) (Or.inl ⟨by rfl,?_⟩) ?_ ?_
                                                rotate_left
                                                · intro w'
                                                  go_simp
                                                  with_reducible rfl
                                                rotate_left
                                                · simp only [Act.put,List.setIfInBounds_toArray,List.set_cons_zero,List.set_cons_succ,i64_w,i32_w]
                                                  rfl
                                                refine take_ (i:=3) (N:=some 90) (v:=?_) (a':=?_) #[true,true,true,true,true,true,true,true,true,false,false,false,false] rfl rfl (take_ofW HT_.out HW_.out (by kernel_rfl)) (fun _ _ _ h=> h) (Or.inl ⟨by rfl,?_⟩) hHeld ?_ ?_
                                                rotate_left
                                                · rintro w' ⟨s0,s1⟩
                                                  go_simp
                                                  with_reducible rfl
                                                rotate_left
                                                · simp only [Act.put,List.setIfInBounds_toArray,List.set_cons_zero,List.set_cons_succ,i64_w,i32_w]
                                                  rfl
                                                refine take_ (i:=9) (N:=some 96) (v:=?_) (a':=?_) #[true,true,true,true,true,true,true,true,true,true,false,false,false] rfl rfl (take_ofW HT_.out HW_.out (by kernel_rfl)) (fun _ _ _ h=> h) (Or.inl ⟨by rfl,?_⟩) hHeld ?_ ?_
                                                rotate_left
                                                · rintro w' ⟨s0,s1⟩
                                                  go_simp
                                                  with_reducible rfl
                                                rotate_left
                                                · simp only [Act.put,List.setIfInBounds_toArray,List.set_cons_zero,List.set_cons_succ,i64_w,i32_w]
                                                  rfl
                                                refine pure_ (i:=10) (N:=some 97) (v:=?_) (a':=?_) #[true,true,true,true,true,true,true,true,true,true,true,false,false] rfl rfl (any_of HT_.out (by kernel_rfl)) (fun _ _ _ h=> h) (Or.inl ⟨by rfl,?_⟩) ?_ ?_
                                                rotate_left
                                                · intro w'
                                                  go_simp
                                                  with_reducible rfl
                                                rotate_left
                                                · simp only [Act.put,List.setIfInBounds_toArray,List.set_cons_zero,List.set_cons_succ,i64_w,i32_w]
                                                  rfl
                                                refine pure_ (i:=11) (N:=some 98) (v:=?_) (a':=?_) #[true,true,true,true,true,true,true,true,true,true,true,true,false] rfl rfl (any_of HT_.out (by kernel_rfl)) (fun _ _ _ h=> h) (Or.inl ⟨by rfl,?_⟩) ?_ ?_
                                                rotate_left
                                                · intro w'
                                                  go_simp
                                                  with_reducible rfl
                                                rotate_left
                                                · simp only [Act.put,List.setIfInBounds_toArray,List.set_cons_zero,List.set_cons_succ,i64_w,i32_w]
                                                  rfl
                                                refine last_ (i:=12) (N:=none) #[true,true,true,true,true,true,true,true,true,true,true,true,true] rfl rfl (one_of HT_.out (by kernel_rfl)) (by decide) (fun K hK=> ?_)
                                                refine skip_ (w1:=?_) (by rfl) rfl ?_ ?_
                                                rotate_left
                                                · go_simp
                                                  rfl
                                                refine hK.out _ _ ?_
                                                clear hK K
                                                refine done_ (done_of HT_.out (by kernel_rfl)) ?_
                                                try go_wp2
                                                go_roundg k4
                                                case measure=> have:=HJ8.out;have:=HK2.out;have:=HK3.out;have:=HK4.out;omega
                                                case rel=> exact ⟨(y155),(wrap64 (x12_4 + 1)),(by first|rfl|(simp;done)|(simp [*];done)),H',⟨by have:=HJ8.out;have:=HK2.out;have:=HK3.out;have:=HK4.out;omega⟩,⟨by (try simp only [hl8_3]);(with_reducible repeat (first|apply Kd.R_alloc|apply Kd.R_drewN|apply Kd.R_drew));exact Kd.R_mono (Kd.R_far (p:=⟨go43,(x12_4:Int).toNat,none⟩) (Kd.R_mono HO_8.out (fun k_ hk=> (⟨hk,fun e_=> hk (by rw [e_];rfl)⟩:_ ∧ k_ ≠ go43))) (fun _ hk=> hk.2) (.int .u8 (Go.bits .xor .u8 (rd x9_4 x12_4) (rd x8_3 (ji40))))) (fun _ hk=> hk.1)⟩,⟨by (try simp only [hl8_3]);(with_reducible repeat (first|apply RB.alloc|apply RB.drewN|apply RB.drew));exact HQ46.out⟩,⟨by repeat (first|(with_reducible first|exact HB.out|apply bwA|apply bwN|apply bwD|refine bwS ?_ GB43.out)|exact HB.out)⟩⟩
                                              · rw [if_neg c42] at H
                                                exact absurd H (by simp)
                                            · rw [if_neg c41] at H
                                              exact absurd H (by simp)
                                          · rw [if_neg c39] at H
                                            exact absurd H (by simp)
                                        · rw [if_neg c38] at H
                                          exact absurd H (by simp)
                                      · rw [if_neg c37] at H
                                        have c37b0:decide (x12_4 < 136)=false:=decide_eq_false c37
                                        clear c37
                                        replace H:=Option.bind_eq_some_iff.mp H
                                        obtain ⟨⟨t156,t157⟩,A470,H⟩:=H
                                        replace H:(if t157=0 then (if (t156.size:Int)=200 then (if 200 ≤ 281474976710656 then (laws_FnKeccak.l1 k4 l0 t124 x8_3 (bytesOf t156) (wrap64 (x10_3 + 1)) (wrap64 (x11_3 + 136))) else (none)) else (none)) else (none))=some r:=H
                                        have A47:=Aside0.mk A470
                                        clear A470
                                        by_cases c48:t157=0
                                        · rw [if_pos c48] at H
                                          have c48b0:(t157==0)=true:=beq_iff_eq.mpr c48
                                          have c48b1:(t157 !=0)=false:=bne_eq_false_iff_eq.mpr c48
                                          clear c48
                                          by_cases c49:(t156.size:Int)=200
                                          · rw [if_pos c49] at H
                                            have c49b0:((t156.size:Int)==200)=true:=beq_iff_eq.mpr c49
                                            have c49b1:((t156.size:Int) !=200)=false:=bne_eq_false_iff_eq.mpr c49
                                            clear c49
                                            by_cases c50:200 ≤ 281474976710656
                                            · rw [if_pos c50] at H
                                              have c50b0:=eq_true c50
                                              have c50b1:decide (200 ≤ 281474976710656)=true:=decide_eq_true c50
                                              clear c50
                                              obtain ⟨y158,hy158⟩:∃ y_:List Int,y_=(bytesOf t156):=⟨_,rfl⟩
                                              replace H:(laws_FnKeccak.l1 k4 l0 t124 x8_3 y158 (wrap64 (x10_3 + 1)) (wrap64 (x11_3 + 136)))=some r:=by first|(rw [hy158];with_reducible exact H)|(have H2_:=(Option.bind_some _ _).symm.trans H;rw [hy158];with_reducible exact H2_)|(have H2_:=(Option.bind_some _ _).symm.trans H;with_reducible exact H2_)|with_reducible exact H|(rw [hy158];exact H)|exact H
                                              have Ny158:=Aside0.mk hy158
                                              clear hy158
                                              have H':=Aside0.mk H
                                              clear H
                                              obtain ⟨Ab,cb,eb⟩:=RB.slice HO_9.out
                                              subst eb
                                              have hcv51:=Kd.C_string (P:=Try.prog) (A:=Ab) (c:=cb) Try.underlying25 Try.underlying5 Try.underlying9 (RB.reads' HO_9.out).2.2
                                              have hs49:t156.size ≤ 9223372036854775807:=by have:=beq_iff_eq.mp c49b0;omega
                                              have HS49:=Aside0.mk hs49
                                              clear hs49
                                              go_wp2_with (first|((with_reducible refine gate_callee (f:=22) rfl ?_);refine goesL_ (some 102) rfl rfl Try.func22 (by kernel_rfl) rfl #[.string (strOfNums x9_4)] rfl (by (try simp only [List.map_toArray,List.map_cons,List.map_nil]);first|done|rfl|(simp only [List.length_drop,List.length_take];rfl)) ?_;(with_reducible refine (impl_Permute.calls (strOfNums x9_4) t156 t157 _ A47.out).mono ?_);rintro e w52 ⟨rfl,hb⟩;refine ⟨_,rfl,?_⟩;have n0_:=Aside0.mk (Kd.R_below (by (with_reducible repeat (first|apply Kd.R_alloc|apply Kd.R_drewN|apply Kd.R_drew));exact HO_8.out) hb);have n1_:=Aside0.mk (RB.below (by (with_reducible repeat (first|apply RB.alloc|apply RB.drewN|apply RB.drew));exact HO_9.out) hb);have n2_:=Aside0.mk (below_step (by repeat (first|(with_reducible first|exact HB.out|apply bwA|apply bwN|apply bwD)|exact HB.out)) hb);clear HO_8;clear HO_9;clear HB;have HO_8:=n0_;have HO_9:=n1_;have HB:=n2_;clear n0_ n1_ n2_;(try clear hb);(try clear hb2);(try clear hk);(try clear hi))|((with_reducible refine gate_dst (N:=113) rfl ?_);(try (refine gate_guard (by rfl) ?_;dsimp only));refine R_bytes rfl (.tmp 112) rfl t156 rfl HS49.out ?_;intro v159 w53 ho54 hb;rw [← Ny158.out] at ho54;have n0_:=Aside0.mk (Kd.R_elder' (by (with_reducible repeat (first|apply Kd.R_alloc|apply Kd.R_drewN|apply Kd.R_drew));exact HO_8.out) (RB.base_le ho54) hb);have n1_:=Aside0.mk (RB.elder' (by (with_reducible repeat (first|apply RB.alloc|apply RB.drewN|apply RB.drew));exact HO_9.out) (RB.base_le ho54) hb);have n2_:=Aside0.mk (RB.lower (RB.new' (RB.new' ho54 (Kd.R_lt (by (with_reducible repeat (first|apply Kd.R_alloc|apply Kd.R_drewN|apply Kd.R_drew));exact HO_8.out))) (RB.lt (by (with_reducible repeat (first|apply RB.alloc|apply RB.drewN|apply RB.drew));exact HO_9.out))) (below_size (by repeat (first|(with_reducible first|exact HB.out|apply bwA|apply bwN|apply bwD)|exact HB.out))));have n3_:=Aside0.mk (below_step (by repeat (first|(with_reducible first|exact HB.out|apply bwA|apply bwN|apply bwD)|exact HB.out)) hb);clear HO_8;clear HO_9;clear HB;have HO_8:=n0_;have HO_9:=n1_;have HO160:=n2_;have HB:=n3_;clear n0_ n1_ n2_ n3_;clear hb ho54))
                                              (try simp only [← hl8_3])
                                              go_roundg k4
                                              case measure=> have:=HJ8.out;have:=HK2.out;have:=HK3.out;have:=HK4.out;omega
                                              case rel=> exact ⟨(x8_3),(y158),(wrap64 (x10_3 + 1)),(wrap64 (x11_3 + 136)),(by first|rfl|(simp;done)|(simp [*];done)),(by first|rfl|(simp;done)|(simp [*];done)),H',⟨by have:=HJ8.out;have:=HK2.out;have:=HK3.out;have:=HK4.out;omega⟩,⟨by (try simp only [hl8_3]);(with_reducible repeat (first|apply Kd.R_alloc|apply Kd.R_drewN|apply Kd.R_drew));exact Kd.R_mono HO_8.out (fun _ hk=> hk.2)⟩,⟨by (try simp only [hl8_3]);(with_reducible repeat (first|apply RB.alloc|apply RB.drewN|apply RB.drew));exact RB.mono HO160.out (fun _ hk=> hk.1.2)⟩,⟨by repeat (first|(with_reducible first|exact HB.out|apply bwA|apply bwN|apply bwD)|exact HB.out)⟩⟩
                                            · rw [if_neg c50] at H
                                              exact absurd H (by simp)
                                          · rw [if_neg c49] at H
                                            exact absurd H (by simp)
                                        · rw [if_neg c48] at H
                                          exact absurd H (by simp)
                                · rw [if_neg c36] at H
                                  have c36b0:decide (x11_3 < (x8_3.length:Int))=false:=decide_eq_false c36
                                  clear c36
                                  replace H:=Option.bind_eq_some_iff.mp H
                                  obtain ⟨⟨t147,t148⟩,A550,H⟩:=H
                                  replace H:(if 32 ≤ (x9_3.length:Int) then (if (strOfNums (x9_3.take 32)).toList=t124.toList then (if t148=0 then (some (t147==x10_3)) else (none)) else (none)) else (none))=some r:=H
                                  have A55:=Aside0.mk A550
                                  clear A550
                                  by_cases c56:32 ≤ (x9_3.length:Int)
                                  · rw [if_pos c56] at H
                                    have c56b0:=eq_true c56
                                    have c56b1:decide (32 ≤ (x9_3.length:Int))=true:=decide_eq_true c56
                                    clear c56
                                    obtain ⟨y149,hy149⟩:∃ y_:List Int,y_=(x9_3.take 32):=⟨_,rfl⟩
                                    replace H:(if (strOfNums y149).toList=t124.toList then (if t148=0 then (some (t147==x10_3)) else (none)) else (none))=some r:=by first|(rw [hy149];with_reducible exact H)|(have H2_:=(Option.bind_some _ _).symm.trans H;rw [hy149];with_reducible exact H2_)|(have H2_:=(Option.bind_some _ _).symm.trans H;with_reducible exact H2_)|with_reducible exact H|(rw [hy149];exact H)|exact H
                                    have Ny149:=Aside0.mk hy149
                                    clear hy149
                                    by_cases c57:(strOfNums y149).toList=t124.toList
                                    · rw [if_pos c57] at H
                                      have c57b0:((strOfNums y149).toList==t124.toList)=true:=beq_iff_eq.mpr c57
                                      have c57b1:((strOfNums y149).toList !=t124.toList)=false:=bne_eq_false_iff_eq.mpr c57
                                      clear c57
                                      by_cases c58:t148=0
                                      · rw [if_pos c58] at H
                                        have c58b0:(t148==0)=true:=beq_iff_eq.mpr c58
                                        have c58b1:(t148 !=0)=false:=bne_eq_false_iff_eq.mpr c58
                                        clear c58
                                        obtain rfl:=Option.some.inj H
                                        go_wp2_with (first|((with_reducible refine gate_callee (f:=33) rfl ?_);refine goesL_ (some 119) rfl rfl Try.func33 (by kernel_rfl) rfl #[.int .i64 (l0.length:Int)] rfl (by (try simp only [List.map_toArray,List.map_cons,List.map_nil]);first|done|rfl|(simp only [List.length_drop,List.length_take];rfl)) ?_;(with_reducible refine (impl_KeccakCalls.calls (l0.length:Int) t147 t148 _ A55.out).mono ?_);rintro e w' ⟨rfl,⟨nd,rfl⟩⟩;refine ⟨_,rfl,?_⟩;obtain ⟨Ao60,co60,eo60⟩:=RB.slice HO_9.out;subst eo60;have q59:(32:Int) ≤ ((x9_3.length:Int):Int):=of_decide_eq_true (by first|(with_reducible assumption)|assumption);obtain ⟨i059,hi059,_,hsz59,_⟩:=info_parts info5;have hroom59:x9_3.length ≤ co60:=(RB.reads' HO_9.out).2.1;have hC59:Kd.C (Kd.int .u8) _ Ao60 x9_3.length x9_3:=(RB.reads' HO_9.out).2.2;have hcut59:=cut_to (P:=Try.prog) 25 5 .i64 Try.underlying25 hi059 Ao60 x9_3.length co60 32 (by omega) q59 hroom59;have hr59:=Kd.C_take (m:=32) hC59 (by omega);have hy59:y149.length=(32:Int).toNat:=(by rw [Ny149.out,List.length_take];omega);rw [← Ny149.out] at hr59;rw [← hy59] at hcut59;have HR152:=Aside0.mk hr59;have HC152:=Aside0.mk (show y149.length ≤ co60 from by omega);clear hr59 hC59 hroom59 hi059 hsz59;have KY59:=Aside0.mk hy59;clear hy59;have KL59:=Aside0.mk (show 32 ≤ x9_3.length from by omega);replace q59:=eq_true q59;have hcv61:=Kd.C_string (P:=Try.prog) (A:=Ao60) (c:=co60) Try.underlying25 Try.underlying5 Try.underlying9 (Kd.C_drewN HR152.out nd)))
                                        go_ret
                                        exact ⟨by first|rfl|(simp [errW_none,errW_some] <;> rfl)|(simp only [← hji26];first|rfl|(simp [errW_none,errW_some] <;> rfl))|(simp [*,errW_none,errW_some] <;> rfl),by repeat (first|(with_reducible first|exact HB.out|apply bwA|apply bwN|apply bwD)|exact HB.out)⟩
                                      · rw [if_neg c58] at H
                                        exact absurd H (by simp)
                                    · rw [if_neg c57] at H
                                      exact absurd H (by simp)
                                  · rw [if_neg c56] at H
                                    exact absurd H (by simp)
                          · rw [if_neg c30] at H
                            exact absurd H (by simp)
                        · rw [if_neg c28] at H
                          exact absurd H (by simp)
                      · rw [if_neg c27] at H
                        exact absurd H (by simp)
                    · rw [if_neg c25] at H
                      have c25b0:(((x8_2.length:Int) % 136)==0)=false:=beq_eq_false_iff_ne.mpr c25
                      have c25b1:(((x8_2.length:Int) % 136) !=0)=true:=bne_iff_ne.mpr c25
                      by_cases c62:x8_2.length < 140737488355328
                      · rw [if_pos c62] at H
                        have LMc62:=Aside0.mk c62
                        clear c62
                        obtain ⟨y139,hy139⟩:∃ y_:List Int,y_=(x8_2 ++ [0]):=⟨_,rfl⟩
                        replace H:(laws_FnKeccak.l0 k2 l0 t124 y139)=some r:=by first|(rw [hy139];with_reducible exact H)|(have H2_:=(Option.bind_some _ _).symm.trans H;rw [hy139];with_reducible exact H2_)|(have H2_:=(Option.bind_some _ _).symm.trans H;with_reducible exact H2_)|with_reducible exact H|(rw [hy139];exact H)|exact H
                        have Ny139:=Aside0.mk hy139
                        clear hy139
                        have H':=Aside0.mk H
                        clear H
                        obtain ⟨Ao63,co63,eo63⟩:=Kd.R_slice HO_8.out
                        subst eo63
                        go_wp2_with (first|((with_reducible refine gate_builtin (b:= .append) (xs:= #[.tmp 65,.tmp 66]) rfl ?_);(try (refine gate_guard (by rfl) ?_;dsimp only));at_builtin;refine Kd.R_append (Kd.int .u8) (w0:=w) w.heap.size rfl (.tmp 65) (.tmp 66) 25 5 (.int .u8 0) 1 rfl Try.underlying25 info5 rfl (by decide) (by omega) (.slice Ao63 x8_2.length co63) x8_2 0 [.int .u8 0] (fun _=> True) (fun _=> False) rfl rfl ?aP (fun _ hk=> hk.elim) ?aF ?aO ?aB ?aS ?aL ?_;(case aP=> exact rfl);(case aB=> exact (by repeat (first|(with_reducible first|exact HB.out|apply bwA|apply bwN|apply bwD)|exact HB.out)));(case aF=> exact (fun _ _=> trivial));(case aO=> exact (by (with_reducible repeat (first|apply Kd.R_alloc|apply Kd.R_drewN|apply Kd.R_drew));exact HO_8.out));(case aS=> exact (below_size (by repeat (first|(with_reducible first|exact HB.out|apply bwA|apply bwN|apply bwD)|exact HB.out))));(case aL=> have:=LMc62.out;omega);intro v140 w64 ho hb hg hat;rw [← Ny139.out] at ho;have n0_:=Aside0.mk (hb);have n1_:=Aside0.mk (ho);clear HB;clear HO_8;have HB:=n0_;have HO141:=n1_;clear n0_ n1_;clear ho hb hg hat))
                        go_roundg k2
                        case measure=> have:=HJ8.out;have:=HK2.out;omega
                        case rel=> exact ⟨(y139),H',⟨by have:=HJ8.out;have:=HK2.out;omega⟩,⟨by (with_reducible repeat (first|apply Kd.R_alloc|apply Kd.R_drewN|apply Kd.R_drew));exact HO141.out⟩,⟨by repeat (first|(with_reducible first|exact HB.out|apply bwA|apply bwN|apply bwD)|exact HB.out)⟩⟩
                      · rw [if_neg c62] at H
                        exact absurd H (by simp)
              · rw [if_neg c20] at H
                exact absurd H (by simp)
            · rw [if_neg c19] at H
              exact absurd H (by simp)
def laws_FnKeccak.Pure:Prop:=∀ (l0:List Int),l0.length ≤ maxLen → l0.length * 1 ≤ 140737488351232 → (∀ x ∈ l0,(Lit.int .u8 x).wf=true) → ∃ k,laws_FnKeccak.f k l0=some true
theorem laws_FnKeccak.walk (P:laws_FnKeccak.Pure) (a0:Option Addr) (len0 cap0:Nat) (z0:List Int) (w:World) (w0:(a0=none ∧ len0=0 ∧ cap0=0 ∧ z0= []) ∨ ∃ x,a0=some x ∧ len0 ≤ cap0 ∧ cap0 ≤ maxLen ∧ z0.length=cap0 ∧ (∀ i,i < z0.length → w.cell? (x.add i)=some (.int .u8 (z0.getD i 0))) ∧ ∀ n ∈ z0,(Lit.int .u8 n).wf=true) (y0:len0 * 1 ≤ 140737488351232):
    Calls Try.prog 7 #[.slice a0 len0 cap0] w fun e w'=> e= .returned (.bool true) ∧ Below w.heap.size w w':=by
  obtain ⟨l0,rfl,hr0,hm0,hw0,hc0⟩:=ReadsInt.ofRowC w0
  obtain ⟨k,h⟩:=P l0 hm0 y0 hw0
  refine (laws_FnKeccak.calls k _ _ l0 true w (Kd.C_of_reads (d:=(0:Int)) (h1:=fun _=> rfl) hr0) hc0 h).mono ?_
  rintro e w' ⟨rfl,hd⟩
  exact ⟨rfl,hd⟩
end Go.Proofs.Ytlogocmojnhpbaa.Print
