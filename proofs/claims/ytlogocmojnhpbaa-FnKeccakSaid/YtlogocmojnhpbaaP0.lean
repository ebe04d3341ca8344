-- Written by a program of this session (myprint.py) out of the translation; not trusted, Lean checks it.
import Derived.Test.YtlogocmojnhpbaaProg
import Derived.Test.YtlogocmojnhpbaaV
import Derived.Below
import Derived.Deep.Draws
import Derived.Deep.AppendLies
import Derived.Maps.AppendAt
import Derived.OwnWalk
import Derived.Laws.BytesArg
import Derived.Laws.MakeOwn
import Derived.Laws.OwnMore
import Derived.Deep.OwnRows
import Derived.Tactics
import Derived.Lib.ConvBytes
import Derived.Laws.Slices
import Derived.WalkKit
import Derived.KernelRfl
import Derived.RowKit3
import Derived.Deep.LoopGhost
import Derived.Deep.QuietTactic
import Derived.BigQuiet
import Derived.WideLaws
import Derived.Deep.DeepCutAuto
import Derived.Deep.CutBlock
import Derived.Deep.RegionHeld3
import Derived.Laws.Rows
import Derived.Lib.AppendStr
import Derived.ArgAppend
import Derived.Laws.IdiomCopy
import Derived.OrdersHeld
import Derived.Laws.BitsLemmas
import Derived.RowKit
namespace Go.Proofs.Ytlogocmojnhpbaa.Print
open Go.RowKit Go.Proofs.YtlogocmojnhpbaaW.PrintWords Go.Proofs.YtlogocmojnhpbaaW.PrintLast Go.Proofs.YtlogocmojnhpbaaW.PrintMore
attribute [local go_sem] max2_int min2_int max_two min_two max_three min_three max_four min_four
set_option linter.unusedVariables false
set_option linter.unusedSimpArgs false
def errW:Option Int → Value
  |none=> .nilIface
  |some c=> .iface 0 (.int .i64 c)
theorem errW_none:errW none= .nilIface:=rfl
theorem errW_some (c:Int):errW (some c)= .iface 0 (.int .i64 c):=rfl
theorem info3:(Try.prog.info? 3).map (fun i=> (i.zero,i.size,i.bytes))=some (some (.int .i64 0),1,8):=by kernel_rfl
theorem info5:(Try.prog.info? 5).map (fun i=> (i.zero,i.size,i.bytes))=some (some (.int .u8 0),1,1):=by kernel_rfl
theorem info9:(Try.prog.info? 9).map (fun i=> (i.zero,i.size,i.bytes))=some (some (.string ⟨#[]⟩),1,16):=by kernel_rfl
theorem info41:(Try.prog.info? 41).map (fun i=> (i.zero,i.size,i.bytes))=some (some (.slice none 0 0),1,24):=by kernel_rfl
theorem info79:(Try.prog.info? 79).map (fun i=> (i.zero,i.size,i.bytes))=some (some (.agg #[(.int .i64 0),(.int .i64 0)]),2,16):=by kernel_rfl
structure S79 where
  f0:Int
  f1:Int
def z79:S79:=⟨(0:Int),(0:Int)⟩
def k79:Kd S79:=Kd.iso (Kd.pair (Kd.int .i64) (Kd.int .i64)) (fun x:S79=> (x.f0,x.f1))
theorem k79_open {w:World} {x:S79} {cs:List Value} (h:k79.K w x cs):cs= [.int .i64 x.f0,.int .i64 x.f1]:=by
  obtain ⟨_,_,rfl,rfl,rfl⟩:=h
  exact rfl
theorem k79_openM {w:World} {base:Nat} {ok:Nat → Prop} {x:S79} {cs:List Value} (h:k79.M w base ok x cs):cs= [.int .i64 x.f0,.int .i64 x.f1]:=by
  obtain ⟨_,_,rfl,rfl,rfl⟩:=h
  exact rfl
theorem k79_mk (w:World) (x:S79) :k79.K w x [.int .i64 x.f0,.int .i64 x.f1]:=⟨[.int .i64 x.f0], [.int .i64 x.f1],rfl,rfl,rfl⟩
theorem k79_mkM (w:World) (base:Nat) (ok:Nat → Prop) (x:S79) :k79.M w base ok x [.int .i64 x.f0,.int .i64 x.f1]:=⟨[.int .i64 x.f0], [.int .i64 x.f1],rfl,rfl,rfl⟩
theorem k79_mkF (W:World) (ok:Nat → Prop) (x:S79):Kd.FK k79 W ok x [.int .i64 x.f0,.int .i64 x.f1]:=fun W2 _=> k79_mk W2 x
def rd_T79 (xs:List S79) (i:Int):S79:=xs.getD i.toNat z79
theorem at_T79 {w:World} {A:Option Addr} {n:Nat} {xs:List S79} (h:Kd.C k79 w A n xs) (i:Int) (h0:0 ≤ i) (h1:i < n):∃ ad,A=some ad ∧ w.cell? (ad.add (i.toNat * 2))=some (.int .i64 (rd_T79 xs i).f0) ∧ w.cell? ⟨(ad.add (i.toNat * 2)).block,(ad.add (i.toNat * 2)).off + 1,none⟩=some (.int .i64 (rd_T79 xs i).f1):=by
  obtain ⟨ad,c,e,_,hK,hc0⟩:=Kd.C_get h z79 i h0 h1
  have hc:∀ j u,c[j]?=some u → w.cell? (ad.add (i.toNat * 2 + j))=some u:=hc0
  obtain rfl:=k79_open hK
  exact ⟨ad,e,hc 0 _ rfl,by rw [← add_field _ _ 1 (by omega)];exact hc 1 _ rfl⟩
def rd_L2 (xs:List (List S79)) (i:Int):(List S79):=xs.getD i.toNat ([]:List S79)
theorem at_L2 {w:World} {A:Option Addr} {n:Nat} {xs:List (List S79)} (h:Kd.C (Kd.slice 79 k79) w A n xs) (i:Int) (h0:0 ≤ i) (h1:i < n):∃ ad A0 c0,A=some ad ∧ w.cell? (ad.add i.toNat)=some (.slice A0 (rd_L2 xs i).length c0) ∧ (rd_L2 xs i).length ≤ c0 ∧ k79.C w A0 (rd_L2 xs i).length (rd_L2 xs i):=by
  obtain ⟨ad,c,e,_,hK,hc0⟩:=Kd.C_get h ([]:List S79) i h0 h1
  have hc:∀ j u,c[j]?=some u → w.cell? (ad.add (i.toNat * 1 + j))=some u:=hc0
  obtain ⟨A0,c0,rfl,l0,g0⟩:=hK
  exact ⟨ad,A0,c0,e,by have hq:=hc 0 _ rfl;rwa [Nat.mul_one,Nat.add_zero] at hq,l0,g0⟩
def rd_L6 (xs:List (List Int)) (i:Int):(List Int):=xs.getD i.toNat ([]:List Int)
theorem at_L6 {w:World} {A:Option Addr} {n:Nat} {xs:List (List Int)} (h:Kd.C (Kd.slice 5 (Kd.int .u8)) w A n xs) (i:Int) (h0:0 ≤ i) (h1:i < n):∃ ad A0 c0,A=some ad ∧ w.cell? (ad.add i.toNat)=some (.slice A0 (rd_L6 xs i).length c0) ∧ (rd_L6 xs i).length ≤ c0 ∧ (Kd.int .u8).C w A0 (rd_L6 xs i).length (rd_L6 xs i):=by
  obtain ⟨ad,c,e,_,hK,hc0⟩:=Kd.C_get h ([]:List Int) i h0 h1
  have hc:∀ j u,c[j]?=some u → w.cell? (ad.add (i.toNat * 1 + j))=some u:=hc0
  obtain ⟨A0,c0,rfl,l0,g0⟩:=hK
  exact ⟨ad,A0,c0,e,by have hq:=hc 0 _ rfl;rwa [Nat.mul_one,Nat.add_zero] at hq,l0,g0⟩
def rd_L7 (xs:List (List ByteArray)) (i:Int):(List ByteArray):=xs.getD i.toNat ([]:List ByteArray)
theorem at_L7 {w:World} {A:Option Addr} {n:Nat} {xs:List (List ByteArray)} (h:Kd.C (Kd.slice 9 Kd.string) w A n xs) (i:Int) (h0:0 ≤ i) (h1:i < n):∃ ad A0 c0,A=some ad ∧ w.cell? (ad.add i.toNat)=some (.slice A0 (rd_L7 xs i).length c0) ∧ (rd_L7 xs i).length ≤ c0 ∧ Kd.string.C w A0 (rd_L7 xs i).length (rd_L7 xs i):=by
  obtain ⟨ad,c,e,_,hK,hc0⟩:=Kd.C_get h ([]:List ByteArray) i h0 h1
  have hc:∀ j u,c[j]?=some u → w.cell? (ad.add (i.toNat * 1 + j))=some u:=hc0
  obtain ⟨A0,c0,rfl,l0,g0⟩:=hK
  exact ⟨ad,A0,c0,e,by have hq:=hc 0 _ rfl;rwa [Nat.mul_one,Nat.add_zero] at hq,l0,g0⟩
def rd_L8 (xs:List (List (List ByteArray))) (i:Int):(List (List ByteArray)):=xs.getD i.toNat ([]:List (List ByteArray))
theorem at_L8 {w:World} {A:Option Addr} {n:Nat} {xs:List (List (List ByteArray))} (h:Kd.C (Kd.slice 41 (Kd.slice 9 Kd.string)) w A n xs) (i:Int) (h0:0 ≤ i) (h1:i < n):∃ ad A0 c0,A=some ad ∧ w.cell? (ad.add i.toNat)=some (.slice A0 (rd_L8 xs i).length c0) ∧ (rd_L8 xs i).length ≤ c0 ∧ (Kd.slice 9 Kd.string).C w A0 (rd_L8 xs i).length (rd_L8 xs i):=by
  obtain ⟨ad,c,e,_,hK,hc0⟩:=Kd.C_get h ([]:List (List ByteArray)) i h0 h1
  have hc:∀ j u,c[j]?=some u → w.cell? (ad.add (i.toNat * 1 + j))=some u:=hc0
  obtain ⟨A0,c0,rfl,l0,g0⟩:=hK
  exact ⟨ad,A0,c0,e,by have hq:=hc 0 _ rfl;rwa [Nat.mul_one,Nat.add_zero] at hq,l0,g0⟩
structure S36 where
  f0:(List S79)
  f1:Int
  f2:ByteArray
  f3:Int
def z36:S36:=⟨([]:List S79),(0:Int),(⟨#[]⟩:ByteArray),(0:Int)⟩
def k36:Kd S36:=Kd.iso (Kd.pair (Kd.slice 79 k79) (Kd.pair (Kd.int .i64) (Kd.pair Kd.string (Kd.int .i64)))) (fun x:S36=> (x.f0,x.f1,x.f2,x.f3))
theorem k36_open {w:World} {x:S36} {cs:List Value} (h:k36.K w x cs):∃ A0 c0,cs= [.slice A0 x.f0.length c0,.int .i64 x.f1,.string x.f2,.int .i64 x.f3] ∧ x.f0.length ≤ c0 ∧ k79.C w A0 x.f0.length x.f0:=by
  obtain ⟨_,_,rfl,⟨A0,c0,rfl,l0,g0⟩,⟨_,_,rfl,rfl,⟨_,_,rfl,rfl,rfl⟩⟩⟩:=h
  exact ⟨A0,c0,rfl,l0,g0⟩
theorem k36_openM {w:World} {base:Nat} {ok:Nat → Prop} {x:S36} {cs:List Value} (h:k36.M w base ok x cs):∃ v0,cs= [v0,.int .i64 x.f1,.string x.f2,.int .i64 x.f3] ∧ k79.R 79 w base ok v0 x.f0:=by
  obtain ⟨_,_,rfl,⟨v0,rfl,g0⟩,⟨_,_,rfl,rfl,⟨_,_,rfl,rfl,rfl⟩⟩⟩:=h
  exact ⟨v0,rfl,g0⟩
theorem k36_mk (w:World) (x:S36) {A0:Option Addr} {c0:Nat} (l0:x.f0.length ≤ c0) (g0:k79.C w A0 x.f0.length x.f0):k36.K w x [.slice A0 x.f0.length c0,.int .i64 x.f1,.string x.f2,.int .i64 x.f3]:=⟨[.slice A0 x.f0.length c0], [.int .i64 x.f1,.string x.f2,.int .i64 x.f3],rfl,⟨A0,c0,rfl,l0,g0⟩,⟨[.int .i64 x.f1], [.string x.f2,.int .i64 x.f3],rfl,rfl,⟨[.string x.f2], [.int .i64 x.f3],rfl,rfl,rfl⟩⟩⟩
theorem k36_mkM (w:World) (base:Nat) (ok:Nat → Prop) (x:S36) {v0:Value} (g0:k79.R 79 w base ok v0 x.f0):k36.M w base ok x [v0,.int .i64 x.f1,.string x.f2,.int .i64 x.f3]:=⟨[v0], [.int .i64 x.f1,.string x.f2,.int .i64 x.f3],rfl,⟨v0,rfl,g0⟩,⟨[.int .i64 x.f1], [.string x.f2,.int .i64 x.f3],rfl,rfl,⟨[.string x.f2], [.int .i64 x.f3],rfl,rfl,rfl⟩⟩⟩
theorem k36_openF {W:World} {ok:Nat → Prop} {x:S36} {cs:List Value} (h:Kd.FK k36 W ok x cs):∃ A0 c0,cs= [.slice A0 x.f0.length c0,.int .i64 x.f1,.string x.f2,.int .i64 x.f3] ∧ x.f0.length ≤ c0 ∧ Kd.F k79 W ok A0 x.f0.length x.f0:=by
  obtain ⟨A0,c0,rfl,l0,_⟩:=k36_open (Kd.FK_now h)
  exact ⟨A0,c0,rfl,l0,(fun W' hW=> by obtain ⟨A0_,c0_,he,l0_,g0_⟩:=k36_open (h W' hW);injection (Option.some.inj (show some (Value.slice A0 x.f0.length c0)=some (Value.slice A0_ x.f0.length c0_) from congrArg (fun l=> l[0]?) he)) with ha_ _ _;rw [ha_];exact g0_)⟩
theorem k36_mkF (W:World) (ok:Nat → Prop) (x:S36) {A0:Option Addr} {c0:Nat} (l0:x.f0.length ≤ c0) (g0:Kd.F k79 W ok A0 x.f0.length x.f0):Kd.FK k36 W ok x [.slice A0 x.f0.length c0,.int .i64 x.f1,.string x.f2,.int .i64 x.f3]:=fun W2 hW=> k36_mk W2 x l0 (g0 W2 hW)
def rd_T36 (xs:List S36) (i:Int):S36:=xs.getD i.toNat z36
theorem at_T36 {w:World} {A:Option Addr} {n:Nat} {xs:List S36} (h:Kd.C k36 w A n xs) (i:Int) (h0:0 ≤ i) (h1:i < n):∃ ad A0 c0,A=some ad ∧ w.cell? (ad.add (i.toNat * 4))=some (.slice A0 (rd_T36 xs i).f0.length c0) ∧ w.cell? ⟨(ad.add (i.toNat * 4)).block,(ad.add (i.toNat * 4)).off + 1,none⟩=some (.int .i64 (rd_T36 xs i).f1) ∧ w.cell? ⟨(ad.add (i.toNat * 4)).block,(ad.add (i.toNat * 4)).off + 2,none⟩=some (.string (rd_T36 xs i).f2) ∧ w.cell? ⟨(ad.add (i.toNat * 4)).block,(ad.add (i.toNat * 4)).off + 3,none⟩=some (.int .i64 (rd_T36 xs i).f3) ∧ (rd_T36 xs i).f0.length ≤ c0 ∧ k79.C w A0 (rd_T36 xs i).f0.length (rd_T36 xs i).f0:=by
  obtain ⟨ad,c,e,_,hK,hc0⟩:=Kd.C_get h z36 i h0 h1
  have hc:∀ j u,c[j]?=some u → w.cell? (ad.add (i.toNat * 4 + j))=some u:=hc0
  obtain ⟨A0,c0,rfl,l0,g0⟩:=k36_open hK
  exact ⟨ad,A0,c0,e,hc 0 _ rfl,by rw [← add_field _ _ 1 (by omega)];exact hc 1 _ rfl,by rw [← add_field _ _ 2 (by omega)];exact hc 2 _ rfl,by rw [← add_field _ _ 3 (by omega)];exact hc 3 _ rfl,l0,g0⟩
structure S125 where
  f0:Int
  f1:Int
def z125:S125:=⟨(0:Int),(0:Int)⟩
def k125:Kd S125:=Kd.iso (Kd.pair (Kd.int .i64) (Kd.int .i64)) (fun x:S125=> (x.f0,x.f1))
theorem k125_open {w:World} {x:S125} {cs:List Value} (h:k125.K w x cs):cs= [.int .i64 x.f0,.int .i64 x.f1]:=by
  obtain ⟨_,_,rfl,rfl,rfl⟩:=h
  exact rfl
theorem k125_openM {w:World} {base:Nat} {ok:Nat → Prop} {x:S125} {cs:List Value} (h:k125.M w base ok x cs):cs= [.int .i64 x.f0,.int .i64 x.f1]:=by
  obtain ⟨_,_,rfl,rfl,rfl⟩:=h
  exact rfl
theorem k125_mk (w:World) (x:S125) :k125.K w x [.int .i64 x.f0,.int .i64 x.f1]:=⟨[.int .i64 x.f0], [.int .i64 x.f1],rfl,rfl,rfl⟩
theorem k125_mkM (w:World) (base:Nat) (ok:Nat → Prop) (x:S125) :k125.M w base ok x [.int .i64 x.f0,.int .i64 x.f1]:=⟨[.int .i64 x.f0], [.int .i64 x.f1],rfl,rfl,rfl⟩
theorem k125_mkF (W:World) (ok:Nat → Prop) (x:S125):Kd.FK k125 W ok x [.int .i64 x.f0,.int .i64 x.f1]:=fun W2 _=> k125_mk W2 x
def rd_T125 (xs:List S125) (i:Int):S125:=xs.getD i.toNat z125
theorem at_T125 {w:World} {A:Option Addr} {n:Nat} {xs:List S125} (h:Kd.C k125 w A n xs) (i:Int) (h0:0 ≤ i) (h1:i < n):∃ ad,A=some ad ∧ w.cell? (ad.add (i.toNat * 2))=some (.int .i64 (rd_T125 xs i).f0) ∧ w.cell? ⟨(ad.add (i.toNat * 2)).block,(ad.add (i.toNat * 2)).off + 1,none⟩=some (.int .i64 (rd_T125 xs i).f1):=by
  obtain ⟨ad,c,e,_,hK,hc0⟩:=Kd.C_get h z125 i h0 h1
  have hc:∀ j u,c[j]?=some u → w.cell? (ad.add (i.toNat * 2 + j))=some u:=hc0
  obtain rfl:=k125_open hK
  exact ⟨ad,e,hc 0 _ rfl,by rw [← add_field _ _ 1 (by omega)];exact hc 1 _ rfl⟩
theorem bN {w:World} {g:Nat} {o:Obj} (n:Nat) (h:w.heap[g]?=some o):(w.drewN n).heap[g]?=some o:=h
theorem bd {w:World} {g:Nat} {o:Obj} (h:w.heap[g]?=some o):w.drew.heap[g]?=some o:=h
theorem bA {w:World} {g:Nat} {o:Obj} (o':Obj) (h:w.heap[g]?=some o):(w.alloc o').heap[g]?=some o:=blk_alloc h o'
theorem bwA {w W:World} (h:Below w.heap.size w W) (o:Obj):Below w.heap.size w (W.alloc o):=below_alloc h o
theorem bwN {B:Nat} {w W:World} (h:Below B w W) (n:Nat):Below B w (W.drewN n):=pw_below_drewN h n
theorem bwD {base:Nat} {w W:World} (h:Below base w W):Below base w W.drew:=below_drew1 h
theorem bwS {w W:World} {g j:Nat} {v:Value} (h:Below w.heap.size w W) (hg:w.heap.size ≤ g):Below w.heap.size w (W.setCell ⟨g,j,none⟩ v):=below_set h hg
end Go.Proofs.Ytlogocmojnhpbaa.Print
