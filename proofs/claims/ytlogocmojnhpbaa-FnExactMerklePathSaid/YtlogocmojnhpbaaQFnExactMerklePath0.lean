-- Packed by a program of this session (slim.py) out of printed texts; not trusted, Lean checks it.
import Derived.Test.YtlogocmojnhpbaaP0
import Derived.Test.YtlogocmojnhpbaaK4
import Derived.Deep.RegionHeld3
import Derived.Shelf.Abstract
import Derived.Test.YtlogocmojnhpbaaP0
import Derived.WalkKit
import Derived.Test.YtlogocmojnhpbaaLogA
import Derived.Lib.Strings
import Derived.Lib.Slices
import Derived.Lib.Small
import Derived.Lib.Walk
import Derived.Lib.BitFns
namespace Go.Proofs.Ytlogocmojnhpbaa.Print
open Go.RowKit Go.Proofs.YtlogocmojnhpbaaW.PrintWords Go.Proofs.YtlogocmojnhpbaaW.PrintLast
set_option linter.unusedVariables false
set_option linter.unusedSimpArgs false
section
variable {W W1:World} {p:Addr} {v:Value} {g cap base:Nat} {xs:List Int}
theorem keep_alloc (h:W.cell? p=some v) (o:Obj):(W.alloc o).cell? p=some v:=(World.cell?_of_block ((bwA (Below.refl W.heap.size W) o).block _ (World.block_lt_of_cell? W _ h))).trans h
theorem keep_bytes (h:W.cell? p=some v) (e:TypeId) (s:ByteArray):(Lib.bytesWorld W e s).cell? p=some v:=(Lib.bytesWorld_old W e s p (World.block_lt_of_cell? W _ h)).trans h
theorem keep_below (h:W.cell? p=some v) (hb:Below W.heap.size W W1):W1.cell? p=some v:=(World.cell?_of_block (hb.block _ (World.block_lt_of_cell? W _ h))).trans h
theorem MRow.bytes (h:MRow W g cap xs) (e:TypeId) (s:ByteArray):MRow (Lib.bytesWorld W e s) g cap xs:=h.step (Lib.bytesWorld_at_old W e s g h.lt)
theorem MRow.of_lit (W:World) (xs:List Int) (hm:xs.length ≤ 1000):MRow (W.alloc (.cells (nums .u8 xs).toArray 5)) W.heap.size xs.length xs:=
  ⟨(nums .u8 xs).toArray,(0,0),blk_new _ _,.inr rfl,Nat.le_refl _,by unfold maxLen;omega,by simp [nums],List.take_of_length_le (by simp [nums])⟩
theorem below_bytes {B:Nat} {w:World} (h:Below B w W) (hB:B ≤ W.heap.size) (e:TypeId) (s:ByteArray):Below B w (Lib.bytesWorld W e s):=bytes_below h hB e s
def PRow (W:World) (v:Value) (xs:List Int):Prop:=∃ A c,v= .slice A xs.length c ∧ xs.length ≤ c ∧ (Kd.int .u8).C W A xs.length xs
theorem PRow.step {v:Value} (h:PRow W v xs) (hb:Below W.heap.size W W1):PRow W1 v xs:=by
  obtain ⟨A,c,e,hc,hC⟩:=h
  exact ⟨A,c,e,hc,Kd.C_below hC hb⟩
theorem PRow.alloc {v:Value} (h:PRow W v xs) (o:Obj):PRow (W.alloc o) v xs:=h.step (bwA (Below.refl _ _) o)
theorem PRow.bytes {v:Value} (h:PRow W v xs) (e:TypeId) (s:ByteArray):PRow (Lib.bytesWorld W e s) v xs:=h.step (bytes_below (Below.refl _ _) (Nat.le_refl _) e s)
theorem PRow.of_M (h:MRow W g cap xs) {n:Nat} (hn:n=xs.length):PRow W (.slice (some ⟨g,0,none⟩) n cap) xs:=by
  subst hn
  obtain ⟨cur,fz,h1,h2,h3,_⟩:=h
  exact ⟨_,_,rfl,h3,MRow.reads ⟨cur,fz,h1,h2,h3,by assumption⟩⟩
theorem PRow.of_bytes (W:World) (s:ByteArray) (hs:s.size ≤ 9223372036854775807):PRow (Lib.bytesWorld W 5 s) (.slice (some ⟨W.heap.size,0,none⟩) s.size (grownCap W s.size 0 5)) (bytesOf s):=PRow.of_M (MRow.of_bytes W s hs) (bytesOf_length s).symm
theorem PRow.of_lit (W:World) (xs:List Int) (cells:Array Value) (n:Nat) (hc:cells=(nums .u8 xs).toArray) (hn:n=xs.length) (hm:xs.length ≤ 1000):PRow (W.alloc (.cells cells 5)) (.slice (some ⟨W.heap.size,0,none⟩) n n) xs:=by
  subst hc hn
  exact PRow.of_M (MRow.of_lit W xs hm) rfl
theorem PRow.of_R {v:Value} {e:Nat} {ok:Nat → Prop} (h:(Kd.int .u8).R e W base ok v xs):PRow W v xs:=by
  obtain ⟨A,c,he,hc,hC⟩:=Kd.R_reads h
  exact ⟨A,c,he,hc,hC⟩
theorem pieces3 {v0 v1 v2:Value} {x0 x1 x2:List Int} (h0:PRow W v0 x0) (h1:PRow W v1 x1) (h2:PRow W v2 x2):(Kd.slice 5 (Kd.int .u8)).C (W.alloc (.cells #[v0,v1,v2] 25)) (some ⟨W.heap.size,0,none⟩) 3 [x0,x1,x2]:=by
  refine pieces_C _ _ [v0,v1,v2] [x0,x1,x2] (blk_new _ _) rfl (by simp) ?_
  intro j v xs hv hx
  match j with
  |0=>
    obtain rfl:v0=v:=by simpa using hv
    obtain rfl:x0=xs:=by simpa using hx
    exact h0.alloc _
  |1=>
    obtain rfl:v1=v:=by simpa using hv
    obtain rfl:x1=xs:=by simpa using hx
    exact h1.alloc _
  |2=>
    obtain rfl:v2=v:=by simpa using hv
    obtain rfl:x2=xs:=by simpa using hx
    exact h2.alloc _
  |j + 3=> simp at hv
theorem pieces4 {v0 v1 v2 v3:Value} {x0 x1 x2 x3:List Int} (h0:PRow W v0 x0) (h1:PRow W v1 x1) (h2:PRow W v2 x2) (h3:PRow W v3 x3):(Kd.slice 5 (Kd.int .u8)).C (W.alloc (.cells #[v0,v1,v2,v3] 25)) (some ⟨W.heap.size,0,none⟩) 4 [x0,x1,x2,x3]:=by
  refine pieces_C _ _ [v0,v1,v2,v3] [x0,x1,x2,x3] (blk_new _ _) rfl (by simp) ?_
  intro j v xs hv hx
  match j with
  |0=>
    obtain rfl:v0=v:=by simpa using hv
    obtain rfl:x0=xs:=by simpa using hx
    exact h0.alloc _
  |1=>
    obtain rfl:v1=v:=by simpa using hv
    obtain rfl:x1=xs:=by simpa using hx
    exact h1.alloc _
  |2=>
    obtain rfl:v2=v:=by simpa using hv
    obtain rfl:x2=xs:=by simpa using hx
    exact h2.alloc _
  |3=>
    obtain rfl:v3=v:=by simpa using hv
    obtain rfl:x3=xs:=by simpa using hx
    exact h3.alloc _
  |j + 4=> simp at hv
theorem kCat3 (x0 x1 x2:List Int):kCat [x0,x1,x2] 3=x0 ++ x1 ++ x2:=by simp [kCat]
theorem kCat4 (x0 x1 x2 x3:List Int):kCat [x0,x1,x2,x3] 4=x0 ++ x1 ++ x2 ++ x3:=by simp [kCat]
end
end Go.Proofs.Ytlogocmojnhpbaa.Print
namespace Go.Proofs.Ytlogocmojnhpbaa.Print
open Go.RowKit Go.Proofs.YtlogocmojnhpbaaW.PrintWords Go.Proofs.YtlogocmojnhpbaaW.PrintLast Go.Proofs.YtlogocmojnhpbaaW.PrintMore
attribute [local go_sem] max2_int min2_int max_two min_two max_three min_three max_four min_four
set_option linter.unusedVariables false
set_option linter.unusedSimpArgs false
def impl_isHash.f (a0:ByteArray):Option (Bool):=some ((a0.size:Int)==32)
set_option maxHeartbeats 8000000 in
set_option maxRecDepth 100000 in
theorem impl_isHash.calls (a0:ByteArray) (r:Bool) (w:World) (h:impl_isHash.f a0=some r):
    Calls Try.prog 93 #[.string a0] w fun e w'=> e= .returned (.bool r) ∧ Drawn0 w w':=by
  have H:(some ((a0.size:Int)==32))=some r:=h
  clear h
  obtain rfl:=Option.some.inj H
  go_enter Try.func93,Try.ntmps93
  go_wp2
  go_ret
  exact ⟨by first|rfl|(simp;done)|(simp [*];done),by repeat (first|exact Drawn0.refl _|apply Drawn0.step)⟩
end Go.Proofs.Ytlogocmojnhpbaa.Print
namespace Go.Proofs.Ytlogocmojnhpbaa.Print
open Go Go.RowKit Go.Proofs.YtlogocmojnhpbaaW.PrintWords Go.Proofs.YtlogocmojnhpbaaW.PrintLast
set_option linter.unusedVariables false
set_option linter.unusedSimpArgs false
def SomeIdxT (b:Bool) (e:Ending):Prop:=∃ i:Int,e= .returned (.int .i64 i) ∧ decide (i ≥ 0)=b
theorem any_take_T (p:ByteArray → Bool) (l0:List ByteArray) (kk:Nat) (hk:kk ≤ l0.length) (h:∀ j,j < kk → p (l0.getD j ByteArray.empty)=false) (hn:l0.length ≤ kk):l0.any p=false:=by
  rw [List.any_eq_false]
  intro x hx
  obtain ⟨j,hj,rfl⟩:=List.mem_iff_getElem.1 hx
  have:=h j (by omega)
  rw [List.getD_eq_getElem?_getD,List.getElem?_eq_getElem hj] at this
  simpa using this
theorem any_hit_T (p:ByteArray → Bool) (l0:List ByteArray) (kk:Nat) (hk:kk < l0.length) (h:p (l0.getD kk ByteArray.empty)=true):l0.any p=true:=by
  rw [List.any_eq_true]
  refine ⟨l0.getD kk ByteArray.empty,?_,h⟩
  rw [List.getD_eq_getElem?_getD,List.getElem?_eq_getElem hk]
  exact List.getElem_mem hk
set_option maxHeartbeats 4000000 in
theorem idx_T.calls (g:Nat) (eg:∀ args w,(callFunc g args).run Try.prog w= .ok (.enter g args) w) (p:ByteArray → Bool) (A0:Option Addr) (c0:Nat) (l0:List ByteArray) (w:World) (hr0:Kd.C Kd.string w A0 l0.length l0)
    (hp:∀ (W:World) (x:ByteArray),Below w.heap.size w W → Calls Try.prog g #[.string x] W fun e w'=> e= .returned (.bool (p x)) ∧ Below w.heap.size w w'):
    Calls Try.prog 159 #[.slice A0 l0.length c0,.func (.func g) #[] #[]] w fun e w'=> SomeIdxT (l0.any p) e ∧ Below w.heap.size w w':=by
  have HR0:=Aside0.mk hr0
  have hbig:l0.length ≤ 9223372036854775807:=hr0.2.1
  have HP:=Aside0.mk hp
  clear hr0 hp
  go_enter Try.func159,Try.ntmps159
  go_wp2
  go_loopg [5,8] l0.length (fun gg _ s8 wr=> ∃ kk:Nat,kk ≤ l0.length ∧ l0.length - kk ≤ gg ∧ s8= .int .i64 kk ∧ Aside0 (Below w.heap.size w wr) ∧ Aside0 (∀ j,j < kk → p (l0.getD j ByteArray.empty)=false))
  case atStart=> exact ⟨0,Nat.zero_le _,by omega,rfl,⟨Below.refl _ w⟩,⟨fun j hj=> absurd hj (Nat.not_lt_zero _)⟩⟩
  case round=>
    obtain ⟨kk,hkk,hg,rfl,BW,AA⟩:=hrel
    by_cases hlt:kk < l0.length
    · have hltz:(kk:Int) < (l0.length:Int):=by omega
      have h0z:(0:Int) ≤ (kk:Int):=by omega
      obtain ⟨ad,e0,hx0⟩:=Kd.at_string HR0.out (kk:Int) h0z hltz
      subst e0
      replace hx0:=(BW.out.cell (World.block_lt_of_cell? w _ hx0)).trans hx0
      have hcall:=HP.out wr (rdOf ByteArray.empty l0 (kk:Int)) BW.out
      have hsame:Aside0 (rdOf ByteArray.empty l0 (kk:Int)=l0.getD kk ByteArray.empty):=⟨rfl⟩
      generalize hy:rdOf ByteArray.empty l0 (kk:Int)=y at hx0 hcall hsame
      clear hy
      simp only [Int.toNat_natCast] at hx0
      cases hq:p y with
      |true=>
        have hq':=Aside0.mk hq
        rw [hq] at hcall
        clear hq
        have HC:=Aside0.mk hcall
        clear hcall
        go_wp2_with (go_at_fn g;refine HC.out.mono ?_;rintro e w' ⟨rfl,hb'⟩)
        go_ret
        exact ⟨⟨_,rfl,by rw [any_hit_T p l0 kk hlt (by rw [← hsame.out];exact hq'.out)];simp⟩,hb'⟩
      |false=>
        have hq':=Aside0.mk hq
        rw [hq] at hcall
        clear hq
        have HC:=Aside0.mk hcall
        clear hcall
        go_wp2_with (go_at_fn g;refine HC.out.mono ?_;rintro e w' ⟨rfl,hb'⟩)
        go_roundg (l0.length - (kk + 1))
        case measure=> omega
        case rel=>
          refine ⟨kk + 1,by omega,by omega,by go_num,⟨hb'⟩,⟨fun j hj=> ?_⟩⟩
          by_cases e:j=kk
          · subst e
            rw [← hsame.out];exact hq'.out
          · exact AA.out j (by omega)
    · have hltz:¬ (kk:Int) < (l0.length:Int):=by omega
      have hk:kk=l0.length:=by omega
      have HK:=Aside0.mk hk
      clear hk
      go_wp2
      go_ret
      exact ⟨⟨-1,rfl,by rw [any_take_T p l0 kk hkk AA.out (by have:=HK.out;omega)];rfl⟩,BW.out⟩
set_option maxHeartbeats 4000000 in
theorem con_T.calls (g:Nat) (eg:∀ args w,(callFunc g args).run Try.prog w= .ok (.enter g args) w) (p:ByteArray → Bool) (A0:Option Addr) (c0:Nat) (l0:List ByteArray) (w:World) (hr0:Kd.C Kd.string w A0 l0.length l0)
    (hp:∀ (W:World) (x:ByteArray),Below w.heap.size w W → Calls Try.prog g #[.string x] W fun e w'=> e= .returned (.bool (p x)) ∧ Below w.heap.size w w'):
    Calls Try.prog 144 #[.slice A0 l0.length c0,.func (.func g) #[] #[]] w fun e w'=> e= .returned (.bool (l0.any p)) ∧ Below w.heap.size w w':=by
  have HC:=Aside0.mk (idx_T.calls g eg p A0 c0 l0 w hr0 hp)
  clear hr0 hp
  generalize l0.any p=b at HC ⊢
  go_enter Try.func144,Try.ntmps144
  go_wp2_with (go_at_call 159;refine HC.out.mono ?_;rintro e w' ⟨⟨i,rfl,hi⟩,hb'⟩)
  go_ret
  exact ⟨by subst hi;rfl,hb'⟩
def con_leaf.f (l0:List ByteArray):Option Bool:=some (l0.any fun s=> decide ((s.size:Int) > 64))
def con_path.f (l0:List ByteArray):Option Bool:=some (l0.any fun h=> !((h.size:Int)==32))
set_option maxHeartbeats 4000000 in
theorem con_leaf.closure (w W:World) (x:ByteArray) (hW:Below w.heap.size w W):
    Calls Try.prog 145 #[.string x] W fun e w'=> e= .returned (.bool (decide ((x.size:Int) > 64))) ∧ Below w.heap.size w w':=by
  have HW:=Aside0.mk hW
  clear hW
  go_enter Try.func145,Try.ntmps145
  go_wp2
  go_ret
  exact ⟨rfl,HW.out⟩
set_option maxHeartbeats 4000000 in
theorem con_path.closure (w W:World) (x:ByteArray) (hW:Below w.heap.size w W):
    Calls Try.prog 147 #[.string x] W fun e w'=> e= .returned (.bool (!((x.size:Int)==32))) ∧ Below w.heap.size w w':=by
  have HW:=Aside0.mk hW
  clear hW
  have HC:=Aside0.mk (impl_isHash.calls x ((x.size:Int)==32) W rfl)
  generalize ((x.size:Int)==32)=b at HC ⊢
  go_enter Try.func147,Try.ntmps147
  go_wp2_with (go_at_call 93;refine HC.out.mono ?_;rintro e w' ⟨rfl,hd⟩)
  go_ret
  exact ⟨rfl,below_step HW.out hd.below⟩
theorem con_leaf.calls (A0:Option Addr) (c0:Nat) (l0:List ByteArray) (r:Bool) (w:World) (hr0:Kd.C Kd.string w A0 l0.length l0) (hc0:l0.length ≤ c0) (h:con_leaf.f l0=some r):
    Calls Try.prog 144 #[.slice A0 l0.length c0,.func (.func 145) #[] #[]] w fun e w'=> e= .returned (.bool r) ∧ Below w.heap.size w w':=by
  obtain rfl:=Option.some.inj h
  exact con_T.calls _ (Go.Proofs.enters_of Try.func145 (by kernel_rfl) rfl) _ A0 c0 l0 w hr0 fun W x hW=> con_leaf.closure w W x hW
theorem con_path.calls (A0:Option Addr) (c0:Nat) (l0:List ByteArray) (r:Bool) (w:World) (hr0:Kd.C Kd.string w A0 l0.length l0) (hc0:l0.length ≤ c0) (h:con_path.f l0=some r):
    Calls Try.prog 144 #[.slice A0 l0.length c0,.func (.func 147) #[] #[]] w fun e w'=> e= .returned (.bool r) ∧ Below w.heap.size w w':=by
  obtain rfl:=Option.some.inj h
  exact con_T.calls _ (Go.Proofs.enters_of Try.func147 (by kernel_rfl) rfl) _ A0 c0 l0 w hr0 fun W x hW=> con_path.closure w W x hW
end Go.Proofs.Ytlogocmojnhpbaa.Print
namespace Go.Proofs.Ytlogocmojnhpbaa.Print
open Go.RowKit Go.Proofs.YtlogocmojnhpbaaW.PrintWords Go.Proofs.YtlogocmojnhpbaaW.PrintLast Go.Proofs.YtlogocmojnhpbaaW.PrintMore
attribute [local go_sem] max2_int min2_int max_two min_two max_three min_three max_four min_four
set_option linter.unusedVariables false
set_option linter.unusedSimpArgs false
def impl_leafText.f (a0:ByteArray):Option (ByteArray):=if 1 + a0.size ≤ 9223372036854775807 then (some ((⟨#[0]⟩:ByteArray) ++ a0)) else (none)
set_option maxHeartbeats 8000000 in
set_option maxRecDepth 100000 in
theorem impl_leafText.calls (a0:ByteArray) (r:ByteArray) (w:World) (h:impl_leafText.f a0=some r):
    Calls Try.prog 91 #[.string a0] w fun e w'=> e= .returned (.string r) ∧ Drawn0 w w':=by
  have H:(if 1 + a0.size ≤ 9223372036854775807 then (some ((⟨#[0]⟩:ByteArray) ++ a0)) else (none))=some r:=h
  clear h
  by_cases c2:1 + a0.size ≤ 9223372036854775807
  · rw [if_pos c2] at H
    have c2b0:=eq_true c2
    have c2b1:decide (1 + a0.size ≤ 9223372036854775807)=true:=decide_eq_true c2
    try have c2b2:(9223372036854775807 < 1 + a0.size)=False:=eq_false (Nat.not_lt.2 c2)
    obtain rfl:=Option.some.inj H
    go_enter Try.func91,Try.ntmps91
    go_wp2
    go_ret
    exact ⟨by first|rfl|(simp;done)|(simp [*];done),by repeat (first|exact Drawn0.refl _|apply Drawn0.step)⟩
  · rw [if_neg c2] at H
    exact absurd H (by simp)
def impl_nodeText.f (a0:ByteArray) (a1:ByteArray):Option (ByteArray):=if 1 + a0.size ≤ 9223372036854775807 then (if ((⟨#[1]⟩:ByteArray) ++ a0).size + a1.size ≤ 9223372036854775807 then (some (((⟨#[1]⟩:ByteArray) ++ a0) ++ a1)) else (none)) else (none)
set_option maxHeartbeats 8000000 in
set_option maxRecDepth 100000 in
theorem impl_nodeText.calls (a0:ByteArray) (a1:ByteArray) (r:ByteArray) (w:World) (h:impl_nodeText.f a0 a1=some r):
    Calls Try.prog 94 #[.string a0,.string a1] w fun e w'=> e= .returned (.string r) ∧ Drawn0 w w':=by
  have H:(if 1 + a0.size ≤ 9223372036854775807 then (if ((⟨#[1]⟩:ByteArray) ++ a0).size + a1.size ≤ 9223372036854775807 then (some (((⟨#[1]⟩:ByteArray) ++ a0) ++ a1)) else (none)) else (none))=some r:=h
  clear h
  by_cases c3:1 + a0.size ≤ 9223372036854775807
  · rw [if_pos c3] at H
    have c3b0:=eq_true c3
    have c3b1:decide (1 + a0.size ≤ 9223372036854775807)=true:=decide_eq_true c3
    try have c3b2:(9223372036854775807 < 1 + a0.size)=False:=eq_false (Nat.not_lt.2 c3)
    by_cases c4:((⟨#[1]⟩:ByteArray) ++ a0).size + a1.size ≤ 9223372036854775807
    · rw [if_pos c4] at H
      have c4b0:=eq_true c4
      have c4b1:decide (((⟨#[1]⟩:ByteArray) ++ a0).size + a1.size ≤ 9223372036854775807)=true:=decide_eq_true c4
      try have c4b2:(9223372036854775807 < ((⟨#[1]⟩:ByteArray) ++ a0).size + a1.size)=False:=eq_false (Nat.not_lt.2 c4)
      try have c4b3:(9223372036854775807 < 1 + a0.size + a1.size)=False:=by have h_:=c4b2;simp only [ByteArray.size_append] at h_;exact h_
      obtain rfl:=Option.some.inj H
      go_enter Try.func94,Try.ntmps94
      go_wp2
      go_ret
      exact ⟨by first|rfl|(simp;done)|(simp [*];done),by repeat (first|exact Drawn0.refl _|apply Drawn0.step)⟩
    · rw [if_neg c4] at H
      exact absurd H (by simp)
  · rw [if_neg c3] at H
    exact absurd H (by simp)
end Go.Proofs.Ytlogocmojnhpbaa.Print
namespace Go.Proofs.Ytlogocmojnhpbaa.Print
open Go.RowKit Go.Proofs.YtlogocmojnhpbaaW.PrintWords Go.Proofs.YtlogocmojnhpbaaW.PrintLast Go.Proofs.YtlogocmojnhpbaaW.PrintMore
attribute [local go_sem] max2_int min2_int max_two min_two max_three min_three max_four min_four
set_option linter.unusedVariables false
set_option linter.unusedSimpArgs false
def impl_levels.l0:Nat → List ByteArray → List ByteArray → Int → Int → Option (List ByteArray)
  |0,_,_,_,_=> none
  |k + 1,x3,x10,x11,x12=> if x12 < x11 then (if 0 ≤ x12 then (if x12 < (x10.length:Int) then ((impl_leafText.f (rdOf ByteArray.empty x10 x12)).bind fun t105=> ((impl_hashOf.f t105).bind fun t106=> (if x3.length < 8796093022208 then (impl_levels.l0 k (x3 ++ [t106]) x10 x11 (wrap64 (x12 + 1))) else (none)))) else (none)) else (none)) else (some x3)
def impl_levels.n0:Nat → List ByteArray → List ByteArray → Int → Option (List ByteArray)
  |0,_,_,_=> none
  |k + 1,x0,x7,x8=> if x8 < (x0.length:Int) then (if 0 ≤ x8 then (if 0 ≤ (wrap64 (x8 + 1)) then (if (wrap64 (x8 + 1)) < (x0.length:Int) then ((impl_nodeText.f (rdOf ByteArray.empty x0 x8) (rdOf ByteArray.empty x0 (wrap64 (x8 + 1)))).bind fun t106=> ((impl_hashOf.f t106).bind fun t107=> (if x7.length < 8796093022208 then (impl_levels.n0 k x0 (x7 ++ [t107]) (wrap64 (x8 + 2))) else (none)))) else (none)) else (none)) else (none)) else (some x7)
def impl_levels.l1:Nat → List ByteArray → List (List ByteArray) → Option (List (List ByteArray))
  |0,_,_=> none
  |k + 1,x3,x5=> if (x3.length:Int) > 1 then ((impl_levels.n0 k x3 (([]:List ByteArray)) 0).bind fun t=> (if x5.length < 1000000 then (impl_levels.l1 k t (x5 ++ [t])) else (none))) else (some x5)
def impl_levels.g (k:Nat) (l0:List ByteArray):Option (List (List ByteArray)):=(impl_levels.l0 k (([]:List ByteArray)) l0 (l0.length:Int) 0).bind fun t=> (impl_levels.l1 k t [t])
def impl_levels.f (l0:List ByteArray):Option (List (List ByteArray)):=impl_levels.g 1000 l0
def impl_levels.T13:Bool × List (List Nat × List Nat):=(true, [([], []),([], []),([], []),([1,2], [1,2]),([3], [3]),([], []),([], []),([6], [6]),([5,7], [5,7]),([8], [8]),([4,9], [4,9]),([10,10], [10]),([11], [11]),([0,12,11], [0,12]),([13,13,0,1,2,3,4,5,6,7,8,9,10,11,12,13], [0,13])])
def impl_levels.B13:List Nat:= [0,0,0,6,14,0,0,64,224,480,1022,2046,4094,8191,16383]
theorem impl_levels.tab13:rtab .any (opsOf Try.f102 13)=impl_levels.T13:=by kernel_rfl
theorem impl_levels.bits13:waitsOk impl_levels.T13.2 impl_levels.B13=true:=by kernel_rfl
set_option maxHeartbeats 8000000 in
set_option maxRecDepth 100000 in
theorem impl_levels.runs (k:Nat) (A0:Option Addr) (c0:Nat) (l0:List ByteArray) (r:List (List ByteArray)) (w:World) (hr0:Kd.C Kd.string w A0 l0.length l0) (hc0:l0.length ≤ c0) (h:impl_levels.g k l0=some r):
    Calls Try.prog 102 #[.slice A0 l0.length c0] w fun e w'=> ∃ v0_:Value,e= .returned (v0_) ∧ Kd.S (Kd.slice 9 Kd.string) 41 w' w.heap.size (fun _=> True) v0_ r ∧ Below w.heap.size w w':=by
  have HR0:=Aside0.mk hr0
  have HC0:=Aside0.mk hc0
  clear hr0 hc0
  have HB:=Aside0.mk (Below.refl w.heap.size w)
  unfold impl_levels.g at h
  replace h:=Option.bind_eq_some_iff.mp h
  obtain ⟨tl,h,hO⟩:=h
  have HO0:=Aside0.mk hO
  clear hO
  have H:(impl_levels.l0 k (([]:List ByteArray)) l0 (l0.length:Int) 0)=some tl:=h
  clear h
  obtain ⟨y101,hy101⟩:∃ y_:List ByteArray,y_=(([]:List ByteArray)):=⟨_,rfl⟩
  replace H:(impl_levels.l0 k y101 l0 (l0.length:Int) 0)=some tl:=by first|(rw [hy101];with_reducible exact H)|(have H2_:=(Option.bind_some _ _).symm.trans H;rw [hy101];with_reducible exact H2_)|(have H2_:=(Option.bind_some _ _).symm.trans H;with_reducible exact H2_)|with_reducible exact H|(rw [hy101];exact H)|exact H
  have Ny101:=Aside0.mk hy101
  clear hy101
  have H':=Aside0.mk H
  clear H
  go_enter Try.func102,Try.ntmps102
  go_wp2_with (first|((with_reducible refine gate_dst (N:=9) rfl ?_);refine Kd.R_lit Kd.string _ 9 ?hg (N:=9) ?hd (xs:=([]:List ByteArray)) (inner:= []) (ok:=fun _=> True) (okp:=fun _=> True) ?hr ?hp (fun _ hk=> hk) trivial (Below.refl _ _) (Nat.le_refl _) (by simp) ?_;(case hd=> rfl);(case hg=> rfl);(case hr=> first|(go_simp;done)|(go_simp;rfl));(case hp=> exact (Reps.none _ _));intro v102 w2 ho3 hb hg_ hnew_;clear hg_ hnew_;(first|rw [← Ny101.out] at ho3|(simp only [Int.reduceToNat] at ho3;rw [← Ny101.out] at ho3));have n0_:=Aside0.mk (Kd.R_lower ho3 (below_size (by repeat (first|(with_reducible first|exact HB.out|apply bwA|apply bwN|apply bwD)|exact HB.out))));have n1_:=Aside0.mk (below_step (by repeat (first|(with_reducible first|exact HB.out|apply bwA|apply bwN|apply bwD)|exact HB.out)) hb);clear HB;have HO103:=n0_;have HB:=n1_;clear n0_ n1_;clear hb ho3))
  go_loopg [3,12] k (fun kq v3 v12 w'=> ∃ (x3_1:List ByteArray) (x12_1:Int),v12= .int .i64 x12_1 ∧ Aside0 (impl_levels.l0 kq x3_1 l0 (l0.length:Int) x12_1=some tl) ∧ Aside0 (kq ≤ k) ∧ Aside0 (Kd.R Kd.string 9 w' w.heap.size (fun _=> True) v3 x3_1) ∧ Aside0 (Below w.heap.size w w'))
  case atStart=> exact ⟨(y101),(0),(by first|rfl|(simp;done)|(simp [*];done)),H',⟨Nat.le_refl _⟩,⟨by (with_reducible repeat (first|apply Kd.R_alloc|apply Kd.R_drewN|apply Kd.R_drew));exact HO103.out⟩,⟨by repeat (first|(with_reducible first|exact HB.out|apply bwA|apply bwN|apply bwD)|exact HB.out)⟩⟩
  case round=>
    clear H'
    try clear c1
    try clear p2
    obtain ⟨x3_1,x12_1,rfl,HA,HK1,HO_3,HB⟩:=hrel
    cases gk with
    |zero=> exact absurd HA.out (by simp [impl_levels.l0])
    |succ k1=>
      have H:=HA.out
      clear HA
      simp only [impl_levels.l0] at H
      by_cases c4:x12_1 < (l0.length:Int)
      · rw [if_pos c4] at H
        have c4b0:decide (x12_1 < (l0.length:Int))=true:=decide_eq_true c4
        clear c4
        by_cases c5:0 ≤ x12_1
        · rw [if_pos c5] at H
          have c5b0:decide (0 ≤ x12_1)=true:=decide_eq_true c5
          clear c5
          by_cases c6:x12_1 < (l0.length:Int)
          · rw [if_pos c6] at H
            have c6b0:decide (x12_1 < (l0.length:Int))=true:=decide_eq_true c6
            clear c6
            replace H:=Option.bind_eq_some_iff.mp H
            obtain ⟨t105,A70,H⟩:=H
            replace H:((impl_hashOf.f t105).bind fun t106=> (if x3_1.length < 8796093022208 then (impl_levels.l0 k1 (x3_1 ++ [t106]) l0 (l0.length:Int) (wrap64 (x12_1 + 1))) else (none)))=some tl:=H
            have A7:=Aside0.mk A70
            clear A70
            replace H:=Option.bind_eq_some_iff.mp H
            obtain ⟨t106,A80,H⟩:=H
            replace H:(if x3_1.length < 8796093022208 then (impl_levels.l0 k1 (x3_1 ++ [t106]) l0 (l0.length:Int) (wrap64 (x12_1 + 1))) else (none))=some tl:=H
            have A8:=Aside0.mk A80
            clear A80
            by_cases c9:x3_1.length < 8796093022208
            · rw [if_pos c9] at H
              have LMc9:=Aside0.mk c9
              clear c9
              obtain ⟨y107,hy107⟩:∃ y_:List ByteArray,y_=(x3_1 ++ [t106]):=⟨_,rfl⟩
              replace H:(impl_levels.l0 k1 y107 l0 (l0.length:Int) (wrap64 (x12_1 + 1)))=some tl:=by first|(rw [hy107];with_reducible exact H)|(have H2_:=(Option.bind_some _ _).symm.trans H;rw [hy107];with_reducible exact H2_)|(have H2_:=(Option.bind_some _ _).symm.trans H;with_reducible exact H2_)|with_reducible exact H|(rw [hy107];exact H)|exact H
              have Ny107:=Aside0.mk hy107
              clear hy107
              have H':=Aside0.mk H
              clear H
              have p104:0 ≤ (x12_1:Int):=of_decide_eq_true (by first|(with_reducible assumption)|assumption)
              have q104:x12_1 < (l0.length:Int):=of_decide_eq_true (by first|(with_reducible assumption)|assumption)
              obtain ⟨ad104,e104,hx104_0⟩:=Kd.at_string HR0.out x12_1 p104 q104
              cases e104
              replace hx104_0:=(HB.out.cell (World.block_lt_of_cell? w _ hx104_0)).trans hx104_0
              replace p104:=eq_true p104
              replace q104:=eq_true q104
              go_wp2_with (first|((with_reducible refine gate_callee (f:=91) rfl ?_);refine goesL_ (some 18) rfl rfl Try.func91 (by kernel_rfl) rfl #[.string (rdOf ByteArray.empty l0 x12_1)] rfl (by (try simp only [List.map_toArray,List.map_cons,List.map_nil]);first|done|rfl|(simp only [List.length_drop,List.length_take];rfl)) ?_;(with_reducible refine (impl_leafText.calls (rdOf ByteArray.empty l0 x12_1) t105 _ A7.out).mono ?_);rintro e w' ⟨rfl,⟨nd,rfl⟩⟩;refine ⟨_,rfl,?_⟩)|((with_reducible refine gate_callee (f:=90) rfl ?_);refine goesL_ (some 19) rfl rfl Try.func90 (by kernel_rfl) rfl #[.string t105] rfl (by (try simp only [List.map_toArray,List.map_cons,List.map_nil]);first|done|rfl|(simp only [List.length_drop,List.length_take];rfl)) ?_;(with_reducible refine (impl_hashOf.calls t105 t106 _ A8.out).mono ?_);rintro e w10 ⟨rfl,hb⟩;refine ⟨_,rfl,?_⟩;have n0_:=Aside0.mk (Kd.R_below (by (with_reducible repeat (first|apply Kd.R_alloc|apply Kd.R_drewN|apply Kd.R_drew));exact HO_3.out) hb);have n1_:=Aside0.mk (below_step (by repeat (first|(with_reducible first|exact HB.out|apply bwA|apply bwN|apply bwD)|exact HB.out)) hb);clear HO_3;clear HB;have HO_3:=n0_;have HB:=n1_;clear n0_ n1_;(try clear hb);(try clear hb2);(try clear hk);(try clear hi))|((with_reducible refine gate_builtin (b:= .append) (xs:= #[.tmp 16,.tmp 20]) rfl ?_);at_builtin;refine Kd.R_append Kd.string (w0:=w) w.heap.size rfl (.tmp 16) (.tmp 20) 41 9 (.string ⟨#[]⟩) 16 rfl Try.underlying41 info9 rfl (by decide) (by omega) u3 x3_1 t106 [.string t106] (fun _=> True) (fun _=> False) rfl rfl ?aP (fun _ hk=> hk.elim) ?aF ?aO ?aB ?aS ?aL ?_;(case aP=> exact rfl);(case aB=> exact (by repeat (first|(with_reducible first|exact HB.out|apply bwA|apply bwN|apply bwD)|exact HB.out)));(case aF=> exact (fun _ _=> trivial));(case aO=> exact (by (with_reducible repeat (first|apply Kd.R_alloc|apply Kd.R_drewN|apply Kd.R_drew));exact HO_3.out));(case aS=> exact (below_size (by repeat (first|(with_reducible first|exact HB.out|apply bwA|apply bwN|apply bwD)|exact HB.out))));(case aL=> have:=LMc9.out;omega);intro v108 w11 ho hb hg hat;rw [← Ny107.out] at ho;have n0_:=Aside0.mk (hb);have n1_:=Aside0.mk (ho);clear HB;clear HO_3;have HB:=n0_;have HO109:=n1_;clear n0_ n1_;clear ho hb hg hat))
              go_roundg k1
              case measure=> have:=HK1.out;omega
              case rel=> exact ⟨(y107),(wrap64 (x12_1 + 1)),(by first|rfl|(simp;done)|(simp [*];done)),H',⟨by have:=HK1.out;omega⟩,⟨by (with_reducible repeat (first|apply Kd.R_alloc|apply Kd.R_drewN|apply Kd.R_drew));exact HO109.out⟩,⟨by repeat (first|(with_reducible first|exact HB.out|apply bwA|apply bwN|apply bwD)|exact HB.out)⟩⟩
            · rw [if_neg c9] at H
              exact absurd H (by simp)
          · rw [if_neg c6] at H
            exact absurd H (by simp)
        · rw [if_neg c5] at H
          exact absurd H (by simp)
      · rw [if_neg c4] at H
        have c4b0:decide (x12_1 < (l0.length:Int))=false:=decide_eq_false c4
        clear c4
        obtain rfl:=Option.some.inj H
        obtain ⟨Al,cl,el⟩:=Kd.R_slice HO_3.out
        subst el
        go_wp2_with (first|((with_reducible refine gate_dst (N:=24) rfl ?_);refine Kd.S_lits (Kd.slice 9 Kd.string) (w0:=w) w.heap.size 41 ?hg (N:=24) ?hd (xs:= [x3_1]) (inner:= [.slice Al x3_1.length cl]) (ok:=fun _=> True) (fun j _=> j=0) ?hr ?hl ?hp (fun i j _ hi hj=> hi.trans hj.symm) (fun _ _ _=> trivial) trivial ?hB ?hS (by simp) ?_;(case hd=> rfl);(case hg=> rfl);(case hr=> first|(go_simp;done)|(go_simp;rfl));(case hl=> rfl);(case hp=> intro j x hj;have hj0:j=0:=(by have:=(List.getElem?_eq_some_iff.1 hj).1;simp at this;omega);subst hj0;obtain rfl:=Option.some.inj hj;exact ⟨_,rfl,Kd.R_mono (by (with_reducible repeat (first|apply Kd.R_alloc|apply Kd.R_drewN|apply Kd.R_drew));exact HO_3.out) (fun _ _=> rfl)⟩);(case hB=> exact (by repeat (first|(with_reducible first|exact HB.out|apply bwA|apply bwN|apply bwD)|exact HB.out)));(case hS=> exact (below_size (by repeat (first|(with_reducible first|exact HB.out|apply bwA|apply bwN|apply bwD)|exact HB.out))));intro vo wl ho hb hg hnew;have n0_:=Aside0.mk (Kd.R_reads' (Kd.R_grown (by (with_reducible repeat (first|apply Kd.R_alloc|apply Kd.R_drewN|apply Kd.R_drew));exact HO_3.out) hg (fun _ _=> by simp)));have n1_:=Aside0.mk ho;have n2_:=Aside0.mk hb;clear HB;have HRL:=n0_;have HSL:=n1_;have HB:=n2_;clear n0_ n1_ n2_;clear ho hb hg hnew))
        go_loopg [3,6,7,8] k (fun kq v3 v6 v7 v8 w'=> ∃ (x3:List ByteArray) (x5:List (List ByteArray)) (A3:Option Addr) (c3:Nat),v3= .slice A3 x3.length c3 ∧ Aside0 (impl_levels.l1 kq x3 x5=some r) ∧ Aside0 (kq ≤ k) ∧ Aside0 (Kd.C Kd.string w' A3 x3.length x3) ∧ Aside0 (Kd.S (Kd.slice 9 Kd.string) 41 w' w.heap.size (fun _=> True) v6 x5) ∧ Aside0 (Below w.heap.size w w'))
        case atStart=> exact ⟨_,_,Al,cl,rfl,HO0,⟨Nat.le_refl _⟩,⟨by (with_reducible repeat (first|refine Kd.C_alloc ?_ _|refine Kd.C_drewN ?_ _|refine Kd.C_drew ?_));exact HRL.out.2.2⟩,⟨by (with_reducible repeat (first|apply Kd.S_alloc|apply Kd.S_drewN|apply Kd.S_drew));exact HSL.out⟩,⟨by repeat (first|(with_reducible first|exact HB.out|apply bwA|apply bwN|apply bwD)|exact HB.out)⟩⟩
        case round=>
          clear HO0 HRL HSL HB
          obtain ⟨x3,x5,A3,c3,rfl,HA,HK1,HR3,HS5,HB⟩:=hrel
          rename World=> wo
          cases gk with
          |zero=> exact absurd HA.out (by simp [impl_levels.l1])
          |succ ko=>
            have H:=HA.out
            clear HA
            simp only [impl_levels.l1] at H
            by_cases e4:(x3.length:Int) > 1
            · rw [if_pos e4] at H
              have e4b0:decide ((x3.length:Int) > 1)=true:=decide_eq_true e4
              clear e4
              replace H:=Option.bind_eq_some_iff.mp H
              obtain ⟨tn,HN,H⟩:=H
              by_cases e5:x5.length < 1000000
              · rw [if_pos e5] at H
                have LMe5:=Aside0.mk e5
                clear e5
                have HO1:=Aside0.mk H
                clear H
                have H:=HN
                clear HN
                have HBn:=Aside0.mk (Below.refl wo.heap.size wo)
                obtain ⟨y101,hy101⟩:∃ y_:List ByteArray,y_=(([]:List ByteArray)):=⟨_,rfl⟩
                replace H:(impl_levels.n0 ko x3 y101 0)=some tn:=by first|(rw [hy101];with_reducible exact H)|(have H2_:=(Option.bind_some _ _).symm.trans H;rw [hy101];with_reducible exact H2_)|(have H2_:=(Option.bind_some _ _).symm.trans H;with_reducible exact H2_)|with_reducible exact H|(rw [hy101];exact H)|exact H
                have Ny101:=Aside0.mk hy101
                clear hy101
                have H':=Aside0.mk H
                clear H
                go_wp2_with (first|((with_reducible refine gate_dst (N:=28) rfl ?_);refine Kd.R_lit Kd.string _ 9 ?hg (N:=28) ?hd (xs:=([]:List ByteArray)) (inner:= []) (ok:=fun _=> True) (okp:=fun _=> True) ?hr ?hp (fun _ hk=> hk) trivial (Below.refl _ _) (Nat.le_refl _) (by simp) ?_;(case hd=> rfl);(case hg=> rfl);(case hr=> first|(go_simp;done)|(go_simp;rfl));(case hp=> exact (Reps.none _ _));intro v102 w2 ho3 hb hg_ hnew_;clear hg_ hnew_;(first|rw [← Ny101.out] at ho3|(simp only [Int.reduceToNat] at ho3;rw [← Ny101.out] at ho3));have n0_:=Aside0.mk (Kd.R_lower ho3 (below_size (by repeat (first|(with_reducible first|exact HBn.out|apply bwA|apply bwN|apply bwD)|exact HBn.out))));have n1_:=Aside0.mk (below_step (by repeat (first|(with_reducible first|exact HBn.out|apply bwA|apply bwN|apply bwD)|exact HBn.out)) hb);clear HBn;have HO103:=n0_;have HBn:=n1_;clear n0_ n1_;clear hb ho3))
                go_loopg [7,8] ko (fun kq v7 v8 w'=> ∃ (x7_1:List ByteArray) (x8_1:Int),v8= .int .i64 x8_1 ∧ Aside0 (impl_levels.n0 kq x3 x7_1 x8_1=some tn) ∧ Aside0 (kq ≤ ko) ∧ Aside0 (Kd.R Kd.string 9 w' wo.heap.size (fun _=> True) v7 x7_1) ∧ Aside0 (Below wo.heap.size wo w'))
                case atStart=> exact ⟨(y101),(0),(by first|rfl|(simp;done)|(simp [*];done)),H',⟨Nat.le_refl _⟩,⟨by (with_reducible repeat (first|apply Kd.R_alloc|apply Kd.R_drewN|apply Kd.R_drew));exact HO103.out⟩,⟨by repeat (first|(with_reducible first|exact HBn.out|apply bwA|apply bwN|apply bwD)|exact HBn.out)⟩⟩
                case round=>
                  clear H'
                  try clear c1
                  try clear p2
                  obtain ⟨x7_1,x8_1,rfl,HA,HK2,HO_7,HBn⟩:=hrel
                  cases gk with
                  |zero=> exact absurd HA.out (by simp [impl_levels.n0])
                  |succ k2=>
                    have H:=HA.out
                    clear HA
                    simp only [impl_levels.n0] at H
                    by_cases c4:x8_1 < (x3.length:Int)
                    · rw [if_pos c4] at H
                      have c4b0:decide (x8_1 < (x3.length:Int))=true:=decide_eq_true c4
                      clear c4
                      by_cases c5:0 ≤ x8_1
                      · rw [if_pos c5] at H
                        have c5b0:decide (0 ≤ x8_1)=true:=decide_eq_true c5
                        clear c5
                        obtain ⟨ji6,hji6⟩:∃ j_:Int,(wrap64 (x8_1 + 1))=j_:=⟨_,rfl⟩
                        replace H:(if 0 ≤ (ji6) then (if (ji6) < (x3.length:Int) then ((impl_nodeText.f (rdOf ByteArray.empty x3 x8_1) (rdOf ByteArray.empty x3 (ji6))).bind fun t106=> ((impl_hashOf.f t106).bind fun t107=> (if x7_1.length < 8796093022208 then (impl_levels.n0 k2 x3 (x7_1 ++ [t107]) (wrap64 (x8_1 + 2))) else (none)))) else (none)) else (none))=some tn:=by first|(rw [hji6] at H;exact H)|(simp only [hji6] at H ⊢;exact H)
                        have hji6w:(IntKind.i64.wrap (x8_1 + 1))=ji6:=(i64_w _).trans hji6
                        by_cases c7:0 ≤ (ji6)
                        · rw [if_pos c7] at H
                          have c7b0:decide (0 ≤ (ji6))=true:=decide_eq_true c7
                          clear c7
                          by_cases c8:(ji6) < (x3.length:Int)
                          · rw [if_pos c8] at H
                            have c8b0:decide ((ji6) < (x3.length:Int))=true:=decide_eq_true c8
                            clear c8
                            replace H:=Option.bind_eq_some_iff.mp H
                            obtain ⟨t106,A90,H⟩:=H
                            replace H:((impl_hashOf.f t106).bind fun t107=> (if x7_1.length < 8796093022208 then (impl_levels.n0 k2 x3 (x7_1 ++ [t107]) (wrap64 (x8_1 + 2))) else (none)))=some tn:=H
                            have A9:=Aside0.mk A90
                            clear A90
                            replace H:=Option.bind_eq_some_iff.mp H
                            obtain ⟨t107,A100,H⟩:=H
                            replace H:(if x7_1.length < 8796093022208 then (impl_levels.n0 k2 x3 (x7_1 ++ [t107]) (wrap64 (x8_1 + 2))) else (none))=some tn:=H
                            have A10:=Aside0.mk A100
                            clear A100
                            by_cases c11:x7_1.length < 8796093022208
                            · rw [if_pos c11] at H
                              have LMc11:=Aside0.mk c11
                              clear c11
                              obtain ⟨y108,hy108⟩:∃ y_:List ByteArray,y_=(x7_1 ++ [t107]):=⟨_,rfl⟩
                              replace H:(impl_levels.n0 k2 x3 y108 (wrap64 (x8_1 + 2)))=some tn:=by first|(rw [hy108];with_reducible exact H)|(have H2_:=(Option.bind_some _ _).symm.trans H;rw [hy108];with_reducible exact H2_)|(have H2_:=(Option.bind_some _ _).symm.trans H;with_reducible exact H2_)|with_reducible exact H|(rw [hy108];exact H)|exact H
                              have Ny108:=Aside0.mk hy108
                              clear hy108
                              have H':=Aside0.mk H
                              clear H
                              try go_wp2
                              have n0_:=Aside0.mk (Kd.R_drew HO_7.out)
                              have n1_:=Aside0.mk (bwD HBn.out)
                              clear HO_7
                              clear HBn
                              have HO_7:=n0_
                              have HBn:=n1_
                              clear n0_ n1_
                              have p104:0 ≤ (x8_1:Int):=of_decide_eq_true (by first|(with_reducible assumption)|assumption)
                              have q104:x8_1 < (x3.length:Int):=of_decide_eq_true (by first|(with_reducible assumption)|assumption)
                              obtain ⟨ad104,e104,hx104_0⟩:=Kd.at_string HR3.out x8_1 p104 q104
                              have hw104_0:=hx104_0
                              cases e104
                              replace hx104_0:=(HBn.out.cell (World.block_lt_of_cell? wo _ hx104_0)).trans hx104_0
                              replace p104:=eq_true p104
                              replace q104:=eq_true q104
                              have p105:0 ≤ ((ji6):Int):=of_decide_eq_true (by first|(with_reducible assumption)|assumption)
                              have q105:(ji6) < (x3.length:Int):=of_decide_eq_true (by first|(with_reducible assumption)|assumption)
                              obtain ⟨ad105,e105,hx105_0⟩:=Kd.at_string HR3.out (ji6) p105 q105
                              have hw105_0:=hx105_0
                              obtain rfl:ad104=ad105:=(by injection e105)
                              replace hx105_0:=(HBn.out.cell (World.block_lt_of_cell? wo _ hx105_0)).trans hx105_0
                              replace p105:=eq_true p105
                              replace q105:=eq_true q105
                              refine start_ (n:=15) (S:=fun w'=> w'.cell? (ad104.add (x8_1).toNat)=some (.string (rdOf ByteArray.empty x3 x8_1)) ∧ w'.cell? (ad104.add ((ji6)).toNat)=some (.string (rdOf ByteArray.empty x3 (ji6)))) (ds:= []) #[false,false,false,false,false,false,false,false,false,false,false,false,false,false,false] (by kernel_rfl) rfl rfl ⟨((HBn.out.cell (World.block_lt_of_cell? wo _ hw104_0)).trans hw104_0),((HBn.out.cell (World.block_lt_of_cell? wo _ hw105_0)).trans hw105_0)⟩ (fun hHeld=> ?_);refine with_tabW impl_levels.tab13 impl_levels.bits13 (fun HT_ HW_=> ?_)
                              generalize wr.drew=w12 at HO_7 HBn hx104_0 hx105_0 hHeld ⊢
                              refine pure_ (i:=0) (N:=some 35) (v:=?_) (a':=?_) #[true,false,false,false,false,false,false,false,false,false,false,false,false,false,false] rfl rfl (any_of HT_.out (by kernel_rfl)) (fun _ _ _ h=> h) (Or.inl ⟨by rfl,?_⟩) ?_ ?_
                              rotate_left
                              · intro w'
                                go_simp
                                with_reducible rfl
                              rotate_left
                              · simp only [Act.put,List.setIfInBounds_toArray,List.set_cons_zero,List.set_cons_succ,i64_w,i32_w]
                                rfl
                              refine pure_ (i:=1) (N:=some 36) (v:=?_) (a':=?_) #[true,true,false,false,false,false,false,false,false,false,false,false,false,false,false] rfl rfl (any_of HT_.out (by kernel_rfl)) (fun _ _ _ h=> h) (Or.inl ⟨by rfl,?_⟩) ?_ ?_
                              rotate_left
                              · intro w'
                                go_simp
                                with_reducible rfl
                              rotate_left
                              · simp only [Act.put,List.setIfInBounds_toArray,List.set_cons_zero,List.set_cons_succ,i64_w,i32_w]
                                rfl
                              refine pure_ (i:=2) (N:=some 37) (v:=?_) (a':=?_) #[true,true,true,false,false,false,false,false,false,false,false,false,false,false,false] rfl rfl (any_of HT_.out (by kernel_rfl)) (fun _ _ _ h=> h) (Or.inl ⟨by rfl,?_⟩) ?_ ?_
                              rotate_left
                              · intro w'
                                go_simp
                                with_reducible rfl
                              rotate_left
                              · simp only [Act.put,List.setIfInBounds_toArray,List.set_cons_zero,List.set_cons_succ,i64_w,i32_w]
                                rfl
                              refine pure_ (i:=3) (N:=some 38) (v:=?_) (a':=?_) #[true,true,true,true,false,false,false,false,false,false,false,false,false,false,false] rfl rfl (any_of HT_.out (by kernel_rfl)) (fun _ _ _ h=> h) (Or.inl ⟨by rfl,?_⟩) ?_ ?_
                              rotate_left
                              · intro w'
                                go_simp
                                with_reducible rfl
                              rotate_left
                              · simp only [Act.put,List.setIfInBounds_toArray,List.set_cons_zero,List.set_cons_succ,i64_w,i32_w]
                                rfl
                              refine pure_ (i:=5) (N:=some 40) (v:=?_) (a':=?_) #[true,true,true,true,false,true,false,false,false,false,false,false,false,false,false] rfl rfl (any_of HT_.out (by kernel_rfl)) (fun _ _ _ h=> h) (Or.inl ⟨by rfl,?_⟩) ?_ ?_
                              rotate_left
                              · intro w'
                                go_simp
                                with_reducible rfl
                              rotate_left
                              · simp only [Act.put,List.setIfInBounds_toArray,List.set_cons_zero,List.set_cons_succ,i64_w,i32_w]
                                rfl
                              refine pure_ (i:=6) (N:=some 41) (v:=?_) (a':=?_) #[true,true,true,true,false,true,true,false,false,false,false,false,false,false,false] rfl rfl (any_of HT_.out (by kernel_rfl)) (fun _ _ _ h=> h) (Or.inl ⟨by rfl,?_⟩) ?_ ?_
                              rotate_left
                              · intro w'
                                go_simp
                                with_reducible rfl
                              rotate_left
                              · simp only [Act.put,List.setIfInBounds_toArray,List.set_cons_zero,List.set_cons_succ,i64_w,i32_w]
                                rfl
                              refine pure_ (i:=7) (N:=some 42) (v:=?_) (a':=?_) #[true,true,true,true,false,true,true,true,false,false,false,false,false,false,false] rfl rfl (any_of HT_.out (by kernel_rfl)) (fun _ _ _ h=> h) (Or.inl ⟨by rfl,?_⟩) ?_ ?_
                              rotate_left
                              · intro w'
                                go_simp
                                with_reducible rfl
                              rotate_left
                              · simp only [Act.put,List.setIfInBounds_toArray,List.set_cons_zero,List.set_cons_succ,i64_w,i32_w]
                                rfl
                              refine pure_ (i:=8) (N:=some 43) (v:=?_) (a':=?_) #[true,true,true,true,false,true,true,true,true,false,false,false,false,false,false] rfl rfl (any_of HT_.out (by kernel_rfl)) (fun _ _ _ h=> h) (Or.inl ⟨by rfl,?_⟩) ?_ ?_
                              rotate_left
                              · intro w'
                                go_simp
                                with_reducible rfl
                              rotate_left
                              · simp only [Act.put,List.setIfInBounds_toArray,List.set_cons_zero,List.set_cons_succ,i64_w,i32_w]
                                rfl
                              refine take_ (i:=4) (N:=some 39) (v:=?_) (a':=?_) #[true,true,true,true,true,true,true,true,true,false,false,false,false,false,false] rfl rfl (take_ofW HT_.out HW_.out (by kernel_rfl)) (fun _ _ _ h=> h) (Or.inl ⟨by rfl,?_⟩) hHeld ?_ ?_
                              rotate_left
                              · rintro w' ⟨s0,s1⟩
                                go_simp
                                with_reducible rfl
                              rotate_left
                              · simp only [Act.put,List.setIfInBounds_toArray,List.set_cons_zero,List.set_cons_succ,i64_w,i32_w]
                                rfl
                              refine take_ (i:=9) (N:=some 44) (v:=?_) (a':=?_) #[true,true,true,true,true,true,true,true,true,true,false,false,false,false,false] rfl rfl (take_ofW HT_.out HW_.out (by kernel_rfl)) (fun _ _ _ h=> h) (Or.inl ⟨by rfl,?_⟩) hHeld ?_ ?_
                              rotate_left
                              · rintro w' ⟨s0,s1⟩
                                go_simp
                                with_reducible rfl
                              rotate_left
                              · simp only [Act.put,List.setIfInBounds_toArray,List.set_cons_zero,List.set_cons_succ,i64_w,i32_w]
                                rfl
                              refine one_ (i:=10) (N:=some 45) #[true,true,true,true,true,true,true,true,true,true,true,false,false,false,false] rfl rfl (one_of HT_.out (by kernel_rfl)) (by decide) (fun K hK=> ?_)
                              refine goes_ Try.func94 (by kernel_rfl) rfl #[.string (rdOf ByteArray.empty x3 x8_1),.string (rdOf ByteArray.empty x3 (ji6))] (by rfl) rfl rfl (by (try simp only [List.map_toArray,List.map_cons,List.map_nil]);first|done|(simp only [hji6];rfl)|rfl|(simp only [List.length_drop,List.length_take];rfl)) ?_
                              with_reducible refine (impl_nodeText.calls (rdOf ByteArray.empty x3 x8_1) (rdOf ByteArray.empty x3 (ji6)) t106 _ A9.out).mono ?_
                              rintro e w' ⟨rfl,⟨nd,rfl⟩⟩
                              refine ⟨_,rfl,?_⟩
                              refine hK.out _ _ ⟨((HBn.out.cell (World.block_lt_of_cell? wo _ hw104_0)).trans hw104_0),((HBn.out.cell (World.block_lt_of_cell? wo _ hw105_0)).trans hw105_0)⟩ (fun hHeld=> ?_)
                              clear hK K
                              refine norm_ (a':=?_) ?_ ?_
                              rotate_left
                              · show Act.put _ (some 45) _=_
                                simp only [Act.put,List.setIfInBounds_toArray,List.set_cons_zero,List.set_cons_succ,i64_w,i32_w]
                                rfl
                              refine one_ (i:=11) (N:=some 46) #[true,true,true,true,true,true,true,true,true,true,true,true,false,false,false] rfl rfl (one_of HT_.out (by kernel_rfl)) (by decide) (fun K hK=> ?_)
                              refine goes_ Try.func90 (by kernel_rfl) rfl #[.string t106] (by rfl) rfl rfl (by (try simp only [List.map_toArray,List.map_cons,List.map_nil]);first|done|rfl|(simp only [List.length_drop,List.length_take];rfl)) ?_
                              with_reducible refine (impl_hashOf.calls t106 t107 _ A10.out).mono ?_
                              rintro e w13 ⟨rfl,hb⟩
                              refine ⟨_,rfl,?_⟩
                              have n0_:=Aside0.mk (Kd.R_below (by (with_reducible repeat (first|apply Kd.R_alloc|apply Kd.R_drewN|apply Kd.R_drew));exact HO_7.out) hb)
                              have n1_:=Aside0.mk (below_step (by repeat (first|(with_reducible first|exact HBn.out|apply bwA|apply bwN|apply bwD)|exact HBn.out)) hb)
                              clear HO_7
                              clear HBn
                              have HO_7:=n0_
                              have HBn:=n1_
                              clear n0_ n1_
                              (try clear hb)
                              (try clear hb2)
                              (try clear hk)
                              (try clear hi)
                              refine hK.out _ _ ⟨((HBn.out.cell (World.block_lt_of_cell? wo _ hw104_0)).trans hw104_0),((HBn.out.cell (World.block_lt_of_cell? wo _ hw105_0)).trans hw105_0)⟩ (fun hHeld=> ?_)
                              clear hK K
                              refine norm_ (a':=?_) ?_ ?_
                              rotate_left
                              · show Act.put _ (some 46) _=_
                                simp only [Act.put,List.setIfInBounds_toArray,List.set_cons_zero,List.set_cons_succ,i64_w,i32_w]
                                rfl
                              refine one_ (i:=12) (N:=some 47) #[true,true,true,true,true,true,true,true,true,true,true,true,true,false,false] rfl rfl (one_of HT_.out (by kernel_rfl)) (by decide) (fun K hK=> ?_)
                              refine value_ (w1:=?_) (v:=?_) (by rfl) rfl ?_ ?_
                              rotate_left 2
                              · go_simp
                                constructor
                                · rfl
                                · rfl
                              refine hK.out _ _ ⟨(World.cell?_alloc_lt _ _ _ (World.block_lt_of_cell? _ _ (((HBn.out.cell (World.block_lt_of_cell? wo _ hw104_0)).trans hw104_0)))).trans (((HBn.out.cell (World.block_lt_of_cell? wo _ hw104_0)).trans hw104_0)),(World.cell?_alloc_lt _ _ _ (World.block_lt_of_cell? _ _ (((HBn.out.cell (World.block_lt_of_cell? wo _ hw105_0)).trans hw105_0)))).trans (((HBn.out.cell (World.block_lt_of_cell? wo _ hw105_0)).trans hw105_0))⟩ (fun hHeld=> ?_)
                              clear hK K
                              refine norm_ (a':=?_) ?_ ?_
                              rotate_left
                              · show Act.put _ (some 47) _=_
                                simp only [Act.put,List.setIfInBounds_toArray,List.set_cons_zero,List.set_cons_succ,i64_w,i32_w]
                                rfl
                              refine one_ (i:=13) (N:=some 48) #[true,true,true,true,true,true,true,true,true,true,true,true,true,true,false] rfl rfl (one_of HT_.out (by kernel_rfl)) (by decide) (fun K hK=> ?_)
                              refine Kd.R_append_step Kd.string (w0:=wo) wo.heap.size (by rfl) (.tmp 35) (.tmp 47) 41 9 (.string ⟨#[]⟩) 16 rfl Try.underlying41 info9 rfl (by decide) (by omega) u7 x7_1 t107 [.string t107] (fun _=> True) (fun _=> False) rfl rfl ?aP (fun _ hk=> hk.elim) ?aF ?aO ?aB ?aS ?aL ?_
                              (case aP=> exact rfl)
                              (case aB=> exact (by repeat (first|(with_reducible first|exact HBn.out|apply bwA|apply bwN|apply bwD)|exact HBn.out)))
                              (case aF=> exact (fun _ _=> trivial))
                              (case aO=> exact (by (with_reducible repeat (first|apply Kd.R_alloc|apply Kd.R_drewN|apply Kd.R_drew));exact HO_7.out))
                              (case aS=> exact (below_size (by repeat (first|(with_reducible first|exact HBn.out|apply bwA|apply bwN|apply bwD)|exact HBn.out))))
                              (case aL=> have:=LMc11.out;omega)
                              intro v109 w14 ho hb hg hat
                              rw [← Ny108.out] at ho
                              have n0_:=Aside0.mk (hb)
                              have n1_:=Aside0.mk (ho)
                              clear HBn
                              clear HO_7
                              have HBn:=n0_
                              have HO110:=n1_
                              clear n0_ n1_
                              clear ho hb hg hat
                              refine hK.out _ _ ⟨((HBn.out.cell (World.block_lt_of_cell? wo _ hw104_0)).trans hw104_0),((HBn.out.cell (World.block_lt_of_cell? wo _ hw105_0)).trans hw105_0)⟩ (fun hHeld=> ?_)
                              clear hK K
                              refine norm_ (a':=?_) ?_ ?_
                              rotate_left
                              · show Act.put _ (some 48) _=_
                                simp only [Act.put,List.setIfInBounds_toArray,List.set_cons_zero,List.set_cons_succ,i64_w,i32_w]
                                rfl
                              refine pure_ (i:=14) (N:=some 7) (v:=?_) (a':=?_) #[true,true,true,true,true,true,true,true,true,true,true,true,true,true,true] rfl rfl (any_of HT_.out (by kernel_rfl)) (fun _ _ _ h=> h) (Or.inl ⟨by rfl,?_⟩) ?_ ?_
                              rotate_left
                              · intro w'
                                go_simp
                                with_reducible rfl
                              rotate_left
                              · simp only [Act.put,List.setIfInBounds_toArray,List.set_cons_zero,List.set_cons_succ,i64_w,i32_w]
                                rfl
                              refine done_ (done_of HT_.out (by kernel_rfl)) ?_
                              try go_wp2
                              go_roundg k2
                              case measure=> have:=HK2.out;omega
                              case rel=> exact ⟨(y108),(wrap64 (x8_1 + 2)),(by first|rfl|(simp;done)|(simp [*];done)),H',⟨by have:=HK2.out;omega⟩,⟨by (with_reducible repeat (first|apply Kd.R_alloc|apply Kd.R_drewN|apply Kd.R_drew));exact HO110.out⟩,⟨by repeat (first|(with_reducible first|exact HBn.out|apply bwA|apply bwN|apply bwD)|exact HBn.out)⟩⟩
                            · rw [if_neg c11] at H
                              exact absurd H (by simp)
                          · rw [if_neg c8] at H
                            exact absurd H (by simp)
                        · rw [if_neg c7] at H
                          exact absurd H (by simp)
                      · rw [if_neg c5] at H
                        exact absurd H (by simp)
                    · rw [if_neg c4] at H
                      have c4b0:decide (x8_1 < (x3.length:Int))=false:=decide_eq_false c4
                      clear c4
                      obtain rfl:=Option.some.inj H
                      obtain ⟨An,cn,en⟩:=Kd.R_slice HO_7.out
                      subst en
                      have HN:=Aside0.mk (Kd.R_lower (Kd.R_mono (ok':=fun k=> wo.heap.size ≤ k) (Kd.R_bound HO_7.out) (fun k hk=> hk.2.1)) (below_size HB.out))
                      have HSo:=Aside0.mk (Kd.S_mono (ok':=fun k=> True ∧ ¬ wo.heap.size ≤ k) (Kd.S_below (Kd.S_bound HS5.out) HBn.out) (fun k hk=> ⟨trivial,by have:=hk.2.2.1;omega⟩))
                      have HAp:=Aside0.mk (show ∀ k,wo.heap.size ≤ k → some k ≠ (u6:Value).ownBlock from fun k hk e=> by have:=Kd.S_lt HS5.out k e.symm;omega)
                      have HBt:=Aside0.mk (below_step HB.out HBn.out)
                      go_wp2_with (first|((with_reducible refine gate_builtin (b:= .append) (xs:= #[.tmp 49,.tmp 51]) rfl ?_);at_builtin;refine Kd.S_append (Kd.slice 9 Kd.string) (w0:=w) w.heap.size rfl (.tmp 49) (.tmp 51) 108 41 (.slice none 0 0) 24 rfl Try.underlying108 info41 rfl (by decide) (by omega) u6 x5 x7_1 [.slice An x7_1.length cn] (fun _=> True) (fun k=> wo.heap.size ≤ k) rfl rfl ?aP (fun k hk=> ⟨trivial,HAp.out k hk⟩) (fun _ _=> trivial) ?aO ?aB ?aS ?aL ?_;(case aP=> exact ⟨_,rfl,by (with_reducible repeat (first|apply Kd.R_alloc|apply Kd.R_drewN|apply Kd.R_drew));exact HN.out⟩);(case aO=> exact (by (with_reducible repeat (first|apply Kd.S_alloc|apply Kd.S_drewN|apply Kd.S_drew));exact HSo.out));(case aB=> exact (by repeat (first|(with_reducible first|exact HBt.out|apply bwA|apply bwN|apply bwD)|exact HBt.out)));(case aS=> exact (below_size (by repeat (first|(with_reducible first|exact HBt.out|apply bwA|apply bwN|apply bwD)|exact HBt.out))));(case aL=> have:=LMe5.out;omega);intro va wa ho hb hg hat;have n0_:=Aside0.mk (Kd.R_reads' (Kd.R_grown (by (with_reducible repeat (first|apply Kd.R_alloc|apply Kd.R_drewN|apply Kd.R_drew));exact HN.out) hg (fun k hk=> HAp.out k hk)));have n1_:=Aside0.mk ho;have n2_:=Aside0.mk hb;have HRA:=n0_;have HSA:=n1_;have HBA:=n2_;clear n0_ n1_ n2_;clear ho hb hg hat))
                      go_roundg ko
                      case measure=> have:=HK1.out;omega
                      case rel=> exact ⟨_,_,An,cn,rfl,HO1,⟨by have:=HK1.out;omega⟩,⟨by (with_reducible repeat (first|refine Kd.C_alloc ?_ _|refine Kd.C_drewN ?_ _|refine Kd.C_drew ?_));exact HRA.out.2.2⟩,⟨by (with_reducible repeat (first|apply Kd.S_alloc|apply Kd.S_drewN|apply Kd.S_drew));exact HSA.out⟩,⟨by repeat (first|(with_reducible first|exact HBA.out|apply bwA|apply bwN|apply bwD)|exact HBA.out)⟩⟩
              · rw [if_neg e5] at H
                exact absurd H (by simp)
            · rw [if_neg e4] at H
              have e4b0:decide ((x3.length:Int) > 1)=false:=decide_eq_false e4
              clear e4
              obtain rfl:=Option.some.inj H
              go_wp2
              go_ret
              exact ⟨_,by first|rfl|(simp [errW_none,errW_some] <;> rfl)|(simp [*,errW_none,errW_some] <;> rfl),by (with_reducible repeat (first|apply Kd.S_alloc|apply Kd.S_drewN|apply Kd.S_drew));exact HS5.out,by repeat (first|(with_reducible first|exact HB.out|apply bwA|apply bwN|apply bwD)|exact HB.out)⟩
theorem impl_levels.calls (A0:Option Addr) (c0:Nat) (l0:List ByteArray) (r:List (List ByteArray)) (w:World) (hr0:Kd.C Kd.string w A0 l0.length l0) (hc0:l0.length ≤ c0) (h:impl_levels.f l0=some r):
    Calls Try.prog 102 #[.slice A0 l0.length c0] w fun e w'=> ∃ v0_:Value,e= .returned (v0_) ∧ Kd.S (Kd.slice 9 Kd.string) 41 w' w.heap.size (fun _=> True) v0_ r ∧ Below w.heap.size w w':=impl_levels.runs 1000 A0 c0 l0 r w hr0 hc0 h
end Go.Proofs.Ytlogocmojnhpbaa.Print
namespace Go.Proofs.Ytlogocmojnhpbaa.Print
open Go.RowKit Go.Proofs.YtlogocmojnhpbaaW.PrintWords Go.Proofs.YtlogocmojnhpbaaW.PrintLast Go.Proofs.YtlogocmojnhpbaaW.PrintMore
attribute [local go_sem] max2_int min2_int max_two min_two max_three min_three max_four min_four
set_option linter.unusedVariables false
set_option linter.unusedSimpArgs false
def spec_l04Leaf.f (a0:ByteArray):Option (ByteArray):=if 1 + a0.size ≤ 9223372036854775807 then ((spec_l03Hash.f ((⟨#[0]⟩:ByteArray) ++ a0)).bind fun t125=> (some t125)) else (none)
set_option maxHeartbeats 8000000 in
set_option maxRecDepth 100000 in
theorem spec_l04Leaf.calls (a0:ByteArray) (r:ByteArray) (w:World) (h:spec_l04Leaf.f a0=some r):
    Calls Try.prog 89 #[.string a0] w fun e w'=> e= .returned (.string r) ∧ Below w.heap.size w w':=by
  have HB:=Aside0.mk (Below.refl w.heap.size w)
  have H:(if 1 + a0.size ≤ 9223372036854775807 then ((spec_l03Hash.f ((⟨#[0]⟩:ByteArray) ++ a0)).bind fun t125=> (some t125)) else (none))=some r:=h
  clear h
  by_cases c2:1 + a0.size ≤ 9223372036854775807
  · rw [if_pos c2] at H
    have c2b0:=eq_true c2
    have c2b1:decide (1 + a0.size ≤ 9223372036854775807)=true:=decide_eq_true c2
    try have c2b2:(9223372036854775807 < 1 + a0.size)=False:=eq_false (Nat.not_lt.2 c2)
    replace H:=Option.bind_eq_some_iff.mp H
    obtain ⟨t125,A30,H⟩:=H
    replace H:(some t125)=some r:=H
    have A3:=Aside0.mk A30
    clear A30
    obtain rfl:=Option.some.inj H
    go_enter Try.func89,Try.ntmps89
    go_wp2_with (first|((with_reducible refine gate_callee (f:=87) rfl ?_);refine goesL_ (some 5) rfl rfl Try.func87 (by kernel_rfl) rfl #[.string ((⟨#[0]⟩:ByteArray) ++ a0)] rfl (by (try simp only [List.map_toArray,List.map_cons,List.map_nil]);first|done|rfl|(simp only [List.length_drop,List.length_take];rfl)) ?_;(with_reducible refine (spec_l03Hash.calls ((⟨#[0]⟩:ByteArray) ++ a0) t125 _ A3.out).mono ?_);rintro e w4 ⟨rfl,hb⟩;refine ⟨_,rfl,?_⟩;have n0_:=Aside0.mk (below_step (by repeat (first|(with_reducible first|exact HB.out|apply bwA|apply bwN|apply bwD)|exact HB.out)) hb);clear HB;have HB:=n0_;clear n0_;(try clear hb);(try clear hb2);(try clear hk);(try clear hi)))
    go_ret
    exact ⟨by first|rfl|(simp [errW_none,errW_some] <;> rfl)|(simp [*,errW_none,errW_some] <;> rfl),by repeat (first|(with_reducible first|exact HB.out|apply bwA|apply bwN|apply bwD)|exact HB.out)⟩
  · rw [if_neg c2] at H
    exact absurd H (by simp)
def spec_l04Node.f (a0:ByteArray) (a1:ByteArray):Option (ByteArray):=if 1 + a0.size ≤ 9223372036854775807 then (if ((⟨#[1]⟩:ByteArray) ++ a0).size + a1.size ≤ 9223372036854775807 then ((spec_l03Hash.f (((⟨#[1]⟩:ByteArray) ++ a0) ++ a1)).bind fun t134=> (some t134)) else (none)) else (none)
set_option maxHeartbeats 8000000 in
set_option maxRecDepth 100000 in
theorem spec_l04Node.calls (a0:ByteArray) (a1:ByteArray) (r:ByteArray) (w:World) (h:spec_l04Node.f a0 a1=some r):
    Calls Try.prog 92 #[.string a0,.string a1] w fun e w'=> e= .returned (.string r) ∧ Below w.heap.size w w':=by
  have HB:=Aside0.mk (Below.refl w.heap.size w)
  have H:(if 1 + a0.size ≤ 9223372036854775807 then (if ((⟨#[1]⟩:ByteArray) ++ a0).size + a1.size ≤ 9223372036854775807 then ((spec_l03Hash.f (((⟨#[1]⟩:ByteArray) ++ a0) ++ a1)).bind fun t134=> (some t134)) else (none)) else (none))=some r:=h
  clear h
  by_cases c3:1 + a0.size ≤ 9223372036854775807
  · rw [if_pos c3] at H
    have c3b0:=eq_true c3
    have c3b1:decide (1 + a0.size ≤ 9223372036854775807)=true:=decide_eq_true c3
    try have c3b2:(9223372036854775807 < 1 + a0.size)=False:=eq_false (Nat.not_lt.2 c3)
    by_cases c4:((⟨#[1]⟩:ByteArray) ++ a0).size + a1.size ≤ 9223372036854775807
    · rw [if_pos c4] at H
      have c4b0:=eq_true c4
      have c4b1:decide (((⟨#[1]⟩:ByteArray) ++ a0).size + a1.size ≤ 9223372036854775807)=true:=decide_eq_true c4
      try have c4b2:(9223372036854775807 < ((⟨#[1]⟩:ByteArray) ++ a0).size + a1.size)=False:=eq_false (Nat.not_lt.2 c4)
      try have c4b3:(9223372036854775807 < 1 + a0.size + a1.size)=False:=by have h_:=c4b2;simp only [ByteArray.size_append] at h_;exact h_
      replace H:=Option.bind_eq_some_iff.mp H
      obtain ⟨t134,A50,H⟩:=H
      replace H:(some t134)=some r:=H
      have A5:=Aside0.mk A50
      clear A50
      obtain rfl:=Option.some.inj H
      go_enter Try.func92,Try.ntmps92
      go_wp2_with (first|((with_reducible refine gate_callee (f:=87) rfl ?_);refine goesL_ (some 9) rfl rfl Try.func87 (by kernel_rfl) rfl #[.string (((⟨#[1]⟩:ByteArray) ++ a0) ++ a1)] rfl (by (try simp only [List.map_toArray,List.map_cons,List.map_nil]);first|done|rfl|(simp only [List.length_drop,List.length_take];rfl)) ?_;(with_reducible refine (spec_l03Hash.calls (((⟨#[1]⟩:ByteArray) ++ a0) ++ a1) t134 _ A5.out).mono ?_);rintro e w6 ⟨rfl,hb⟩;refine ⟨_,rfl,?_⟩;have n0_:=Aside0.mk (below_step (by repeat (first|(with_reducible first|exact HB.out|apply bwA|apply bwN|apply bwD)|exact HB.out)) hb);clear HB;have HB:=n0_;clear n0_;(try clear hb);(try clear hb2);(try clear hk);(try clear hi)))
      go_ret
      exact ⟨by first|rfl|(simp [errW_none,errW_some] <;> rfl)|(simp [*,errW_none,errW_some] <;> rfl),by repeat (first|(with_reducible first|exact HB.out|apply bwA|apply bwN|apply bwD)|exact HB.out)⟩
    · rw [if_neg c4] at H
      exact absurd H (by simp)
  · rw [if_neg c3] at H
    exact absurd H (by simp)
end Go.Proofs.Ytlogocmojnhpbaa.Print
namespace Go.Proofs.Ytlogocmojnhpbaa.Print
open Go.RowKit Go.Proofs.YtlogocmojnhpbaaW.PrintWords Go.Proofs.YtlogocmojnhpbaaW.PrintLast Go.Proofs.YtlogocmojnhpbaaW.PrintMore
attribute [local go_sem] max2_int min2_int max_two min_two max_three min_three max_four min_four
set_option linter.unusedVariables false
set_option linter.unusedSimpArgs false
def spec_l04Levels.l0:Nat → List ByteArray → List ByteArray → Int → Option (List ByteArray)
  |0,_,_,_=> none
  |k + 1,x0,x3,x4=> if x4 < (x0.length:Int) then (if 0 ≤ x4 then ((spec_l04Leaf.f (rdOf ByteArray.empty x0 x4)).bind fun t107=> (if x3.length < 8796093022208 then (spec_l04Levels.l0 k x0 (x3 ++ [t107]) (wrap64 (x4 + 1))) else (none))) else (none)) else (some x3)
def spec_l04Levels.n0:Nat → List ByteArray → List ByteArray → Int → Option (List ByteArray)
  |0,_,_,_=> none
  |k + 1,x0,x6,x7=> if x7 < (x0.length:Int) then (if 0 ≤ x7 then (if 0 ≤ (wrap64 (x7 + 1)) then (if (wrap64 (x7 + 1)) < (x0.length:Int) then ((spec_l04Node.f (rdOf ByteArray.empty x0 x7) (rdOf ByteArray.empty x0 (wrap64 (x7 + 1)))).bind fun t108=> (if x6.length < 8796093022208 then (spec_l04Levels.n0 k x0 (x6 ++ [t108]) (wrap64 (x7 + 2))) else (none))) else (none)) else (none)) else (none)) else (some x6)
def spec_l04Levels.l1:Nat → List ByteArray → List (List ByteArray) → Option (List (List ByteArray))
  |0,_,_=> none
  |k + 1,x3,x5=> if (x3.length:Int) > 1 then ((spec_l04Levels.n0 k x3 (([]:List ByteArray)) 0).bind fun t=> (if x5.length < 1000000 then (spec_l04Levels.l1 k t (x5 ++ [t])) else (none))) else (some x5)
def spec_l04Levels.g (k:Nat) (l0:List ByteArray):Option (List (List ByteArray)):=(spec_l04Levels.l0 k l0 (([]:List ByteArray)) 0).bind fun t=> (spec_l04Levels.l1 k t [t])
def spec_l04Levels.f (l0:List ByteArray):Option (List (List ByteArray)):=spec_l04Levels.g 1000 l0
def spec_l04Levels.T12:Bool × List (List Nat × List Nat):=(true, [([], []),([], []),([], []),([1,2], [1,2]),([3], [3]),([], []),([], []),([6], [6]),([5,7], [5,7]),([8], [8]),([4,9], [4,9]),([10], [10]),([0,11,10], [0,11]),([12,12,0,1,2,3,4,5,6,7,8,9,10,11,12], [0,12])])
def spec_l04Levels.B12:List Nat:= [0,0,0,6,14,0,0,64,224,480,1022,2046,4095,8191]
theorem spec_l04Levels.tab12:rtab .any (opsOf Try.f105 12)=spec_l04Levels.T12:=by kernel_rfl
theorem spec_l04Levels.bits12:waitsOk spec_l04Levels.T12.2 spec_l04Levels.B12=true:=by kernel_rfl
set_option maxHeartbeats 8000000 in
set_option maxRecDepth 100000 in
theorem spec_l04Levels.runs (k:Nat) (A0:Option Addr) (c0:Nat) (l0:List ByteArray) (r:List (List ByteArray)) (w:World) (hr0:Kd.C Kd.string w A0 l0.length l0) (hc0:l0.length ≤ c0) (h:spec_l04Levels.g k l0=some r):
    Calls Try.prog 105 #[.slice A0 l0.length c0] w fun e w'=> ∃ v0_:Value,e= .returned (v0_) ∧ Kd.S (Kd.slice 9 Kd.string) 41 w' w.heap.size (fun _=> True) v0_ r ∧ Below w.heap.size w w':=by
  have HR0:=Aside0.mk hr0
  have HC0:=Aside0.mk hc0
  clear hr0 hc0
  have HB:=Aside0.mk (Below.refl w.heap.size w)
  unfold spec_l04Levels.g at h
  replace h:=Option.bind_eq_some_iff.mp h
  obtain ⟨tl,h,hO⟩:=h
  have HO0:=Aside0.mk hO
  clear hO
  have H:(spec_l04Levels.l0 k l0 (([]:List ByteArray)) 0)=some tl:=h
  clear h
  obtain ⟨y103,hy103⟩:∃ y_:List ByteArray,y_=(([]:List ByteArray)):=⟨_,rfl⟩
  replace H:(spec_l04Levels.l0 k l0 y103 0)=some tl:=by first|(rw [hy103];with_reducible exact H)|(have H2_:=(Option.bind_some _ _).symm.trans H;rw [hy103];with_reducible exact H2_)|(have H2_:=(Option.bind_some _ _).symm.trans H;with_reducible exact H2_)|with_reducible exact H|(rw [hy103];exact H)|exact H
  have Ny103:=Aside0.mk hy103
  clear hy103
  have H':=Aside0.mk H
  clear H
  go_enter Try.func105,Try.ntmps105
  go_wp2_with (first|((with_reducible refine gate_dst (N:=8) rfl ?_);refine Kd.R_lit Kd.string _ 9 ?hg (N:=8) ?hd (xs:=([]:List ByteArray)) (inner:= []) (ok:=fun _=> True) (okp:=fun _=> True) ?hr ?hp (fun _ hk=> hk) trivial (Below.refl _ _) (Nat.le_refl _) (by simp) ?_;(case hd=> rfl);(case hg=> rfl);(case hr=> first|(go_simp;done)|(go_simp;rfl));(case hp=> exact (Reps.none _ _));intro v104 w2 ho3 hb hg_ hnew_;clear hg_ hnew_;(first|rw [← Ny103.out] at ho3|(simp only [Int.reduceToNat] at ho3;rw [← Ny103.out] at ho3));have n0_:=Aside0.mk (Kd.R_lower ho3 (below_size (by repeat (first|(with_reducible first|exact HB.out|apply bwA|apply bwN|apply bwD)|exact HB.out))));have n1_:=Aside0.mk (below_step (by repeat (first|(with_reducible first|exact HB.out|apply bwA|apply bwN|apply bwD)|exact HB.out)) hb);clear HB;have HO105:=n0_;have HB:=n1_;clear n0_ n1_;clear hb ho3))
  go_loopg [3,4] k (fun kq v3 v4 w'=> ∃ (x3_1:List ByteArray) (x4_1:Int),v4= .int .i64 x4_1 ∧ Aside0 (spec_l04Levels.l0 kq l0 x3_1 x4_1=some tl) ∧ Aside0 (kq ≤ k) ∧ Aside0 (Kd.R Kd.string 9 w' w.heap.size (fun _=> True) v3 x3_1) ∧ Aside0 (Below w.heap.size w w'))
  case atStart=> exact ⟨(y103),(0),(by first|rfl|(simp;done)|(simp [*];done)),H',⟨Nat.le_refl _⟩,⟨by (with_reducible repeat (first|apply Kd.R_alloc|apply Kd.R_drewN|apply Kd.R_drew));exact HO105.out⟩,⟨by repeat (first|(with_reducible first|exact HB.out|apply bwA|apply bwN|apply bwD)|exact HB.out)⟩⟩
  case round=>
    clear H'
    try clear c1
    try clear p2
    obtain ⟨x3_1,x4_1,rfl,HA,HK1,HO_3,HB⟩:=hrel
    cases gk with
    |zero=> exact absurd HA.out (by simp [spec_l04Levels.l0])
    |succ k1=>
      have H:=HA.out
      clear HA
      simp only [spec_l04Levels.l0] at H
      by_cases c4:x4_1 < (l0.length:Int)
      · rw [if_pos c4] at H
        have c4b0:decide (x4_1 < (l0.length:Int))=true:=decide_eq_true c4
        clear c4
        by_cases c5:0 ≤ x4_1
        · rw [if_pos c5] at H
          have c5b0:decide (0 ≤ x4_1)=true:=decide_eq_true c5
          clear c5
          replace H:=Option.bind_eq_some_iff.mp H
          obtain ⟨t107,A60,H⟩:=H
          replace H:(if x3_1.length < 8796093022208 then (spec_l04Levels.l0 k1 l0 (x3_1 ++ [t107]) (wrap64 (x4_1 + 1))) else (none))=some tl:=H
          have A6:=Aside0.mk A60
          clear A60
          by_cases c7:x3_1.length < 8796093022208
          · rw [if_pos c7] at H
            have LMc7:=Aside0.mk c7
            clear c7
            obtain ⟨y108,hy108⟩:∃ y_:List ByteArray,y_=(x3_1 ++ [t107]):=⟨_,rfl⟩
            replace H:(spec_l04Levels.l0 k1 l0 y108 (wrap64 (x4_1 + 1)))=some tl:=by first|(rw [hy108];with_reducible exact H)|(have H2_:=(Option.bind_some _ _).symm.trans H;rw [hy108];with_reducible exact H2_)|(have H2_:=(Option.bind_some _ _).symm.trans H;with_reducible exact H2_)|with_reducible exact H|(rw [hy108];exact H)|exact H
            have Ny108:=Aside0.mk hy108
            clear hy108
            have H':=Aside0.mk H
            clear H
            have p106:0 ≤ (x4_1:Int):=of_decide_eq_true (by first|(with_reducible assumption)|assumption)
            have q106:x4_1 < (l0.length:Int):=of_decide_eq_true (by first|(with_reducible assumption)|assumption)
            obtain ⟨ad106,e106,hx106_0⟩:=Kd.at_string HR0.out x4_1 p106 q106
            cases e106
            replace hx106_0:=(HB.out.cell (World.block_lt_of_cell? w _ hx106_0)).trans hx106_0
            replace p106:=eq_true p106
            replace q106:=eq_true q106
            go_wp2_with (first|((with_reducible refine gate_callee (f:=89) rfl ?_);refine goesL_ (some 20) rfl rfl Try.func89 (by kernel_rfl) rfl #[.string (rdOf ByteArray.empty l0 x4_1)] rfl (by (try simp only [List.map_toArray,List.map_cons,List.map_nil]);first|done|rfl|(simp only [List.length_drop,List.length_take];rfl)) ?_;(with_reducible refine (spec_l04Leaf.calls (rdOf ByteArray.empty l0 x4_1) t107 _ A6.out).mono ?_);rintro e w8 ⟨rfl,hb⟩;refine ⟨_,rfl,?_⟩;have n0_:=Aside0.mk (Kd.R_below (by (with_reducible repeat (first|apply Kd.R_alloc|apply Kd.R_drewN|apply Kd.R_drew));exact HO_3.out) hb);have n1_:=Aside0.mk (below_step (by repeat (first|(with_reducible first|exact HB.out|apply bwA|apply bwN|apply bwD)|exact HB.out)) hb);clear HO_3;clear HB;have HO_3:=n0_;have HB:=n1_;clear n0_ n1_;(try clear hb);(try clear hb2);(try clear hk);(try clear hi))|((with_reducible refine gate_builtin (b:= .append) (xs:= #[.tmp 15,.tmp 21]) rfl ?_);at_builtin;refine Kd.R_append Kd.string (w0:=w) w.heap.size rfl (.tmp 15) (.tmp 21) 41 9 (.string ⟨#[]⟩) 16 rfl Try.underlying41 info9 rfl (by decide) (by omega) u3 x3_1 t107 [.string t107] (fun _=> True) (fun _=> False) rfl rfl ?aP (fun _ hk=> hk.elim) ?aF ?aO ?aB ?aS ?aL ?_;(case aP=> exact rfl);(case aB=> exact (by repeat (first|(with_reducible first|exact HB.out|apply bwA|apply bwN|apply bwD)|exact HB.out)));(case aF=> exact (fun _ _=> trivial));(case aO=> exact (by (with_reducible repeat (first|apply Kd.R_alloc|apply Kd.R_drewN|apply Kd.R_drew));exact HO_3.out));(case aS=> exact (below_size (by repeat (first|(with_reducible first|exact HB.out|apply bwA|apply bwN|apply bwD)|exact HB.out))));(case aL=> have:=LMc7.out;omega);intro v109 w9 ho hb hg hat;rw [← Ny108.out] at ho;have n0_:=Aside0.mk (hb);have n1_:=Aside0.mk (ho);clear HB;clear HO_3;have HB:=n0_;have HO110:=n1_;clear n0_ n1_;clear ho hb hg hat))
            go_roundg k1
            case measure=> have:=HK1.out;omega
            case rel=> exact ⟨(y108),(wrap64 (x4_1 + 1)),(by first|rfl|(simp;done)|(simp [*];done)),H',⟨by have:=HK1.out;omega⟩,⟨by (with_reducible repeat (first|apply Kd.R_alloc|apply Kd.R_drewN|apply Kd.R_drew));exact HO110.out⟩,⟨by repeat (first|(with_reducible first|exact HB.out|apply bwA|apply bwN|apply bwD)|exact HB.out)⟩⟩
          · rw [if_neg c7] at H
            exact absurd H (by simp)
        · rw [if_neg c5] at H
          exact absurd H (by simp)
      · rw [if_neg c4] at H
        have c4b0:decide (x4_1 < (l0.length:Int))=false:=decide_eq_false c4
        clear c4
        obtain rfl:=Option.some.inj H
        obtain ⟨Al,cl,el⟩:=Kd.R_slice HO_3.out
        subst el
        go_wp2_with (first|((with_reducible refine gate_dst (N:=24) rfl ?_);refine Kd.S_lits (Kd.slice 9 Kd.string) (w0:=w) w.heap.size 41 ?hg (N:=24) ?hd (xs:= [x3_1]) (inner:= [.slice Al x3_1.length cl]) (ok:=fun _=> True) (fun j _=> j=0) ?hr ?hl ?hp (fun i j _ hi hj=> hi.trans hj.symm) (fun _ _ _=> trivial) trivial ?hB ?hS (by simp) ?_;(case hd=> rfl);(case hg=> rfl);(case hr=> first|(go_simp;done)|(go_simp;rfl));(case hl=> rfl);(case hp=> intro j x hj;have hj0:j=0:=(by have:=(List.getElem?_eq_some_iff.1 hj).1;simp at this;omega);subst hj0;obtain rfl:=Option.some.inj hj;exact ⟨_,rfl,Kd.R_mono (by (with_reducible repeat (first|apply Kd.R_alloc|apply Kd.R_drewN|apply Kd.R_drew));exact HO_3.out) (fun _ _=> rfl)⟩);(case hB=> exact (by repeat (first|(with_reducible first|exact HB.out|apply bwA|apply bwN|apply bwD)|exact HB.out)));(case hS=> exact (below_size (by repeat (first|(with_reducible first|exact HB.out|apply bwA|apply bwN|apply bwD)|exact HB.out))));intro vo wl ho hb hg hnew;have n0_:=Aside0.mk (Kd.R_reads' (Kd.R_grown (by (with_reducible repeat (first|apply Kd.R_alloc|apply Kd.R_drewN|apply Kd.R_drew));exact HO_3.out) hg (fun _ _=> by simp)));have n1_:=Aside0.mk ho;have n2_:=Aside0.mk hb;clear HB;have HRL:=n0_;have HSL:=n1_;have HB:=n2_;clear n0_ n1_ n2_;clear ho hb hg hnew))
        go_loopg [3,5,6,7] k (fun kq v3 v5 v6 v7 w'=> ∃ (x3:List ByteArray) (x5:List (List ByteArray)) (A3:Option Addr) (c3:Nat),v3= .slice A3 x3.length c3 ∧ Aside0 (spec_l04Levels.l1 kq x3 x5=some r) ∧ Aside0 (kq ≤ k) ∧ Aside0 (Kd.C Kd.string w' A3 x3.length x3) ∧ Aside0 (Kd.S (Kd.slice 9 Kd.string) 41 w' w.heap.size (fun _=> True) v5 x5) ∧ Aside0 (Below w.heap.size w w'))
        case atStart=> exact ⟨_,_,Al,cl,rfl,HO0,⟨Nat.le_refl _⟩,⟨by (with_reducible repeat (first|refine Kd.C_alloc ?_ _|refine Kd.C_drewN ?_ _|refine Kd.C_drew ?_));exact HRL.out.2.2⟩,⟨by (with_reducible repeat (first|apply Kd.S_alloc|apply Kd.S_drewN|apply Kd.S_drew));exact HSL.out⟩,⟨by repeat (first|(with_reducible first|exact HB.out|apply bwA|apply bwN|apply bwD)|exact HB.out)⟩⟩
        case round=>
          clear HO0 HRL HSL HB
          obtain ⟨x3,x5,A3,c3,rfl,HA,HK1,HR3,HS5,HB⟩:=hrel
          rename World=> wo
          cases gk with
          |zero=> exact absurd HA.out (by simp [spec_l04Levels.l1])
          |succ ko=>
            have H:=HA.out
            clear HA
            simp only [spec_l04Levels.l1] at H
            by_cases e4:(x3.length:Int) > 1
            · rw [if_pos e4] at H
              have e4b0:decide ((x3.length:Int) > 1)=true:=decide_eq_true e4
              clear e4
              replace H:=Option.bind_eq_some_iff.mp H
              obtain ⟨tn,HN,H⟩:=H
              by_cases e5:x5.length < 1000000
              · rw [if_pos e5] at H
                have LMe5:=Aside0.mk e5
                clear e5
                have HO1:=Aside0.mk H
                clear H
                have H:=HN
                clear HN
                have HBn:=Aside0.mk (Below.refl wo.heap.size wo)
                obtain ⟨y103,hy103⟩:∃ y_:List ByteArray,y_=(([]:List ByteArray)):=⟨_,rfl⟩
                replace H:(spec_l04Levels.n0 ko x3 y103 0)=some tn:=by first|(rw [hy103];with_reducible exact H)|(have H2_:=(Option.bind_some _ _).symm.trans H;rw [hy103];with_reducible exact H2_)|(have H2_:=(Option.bind_some _ _).symm.trans H;with_reducible exact H2_)|with_reducible exact H|(rw [hy103];exact H)|exact H
                have Ny103:=Aside0.mk hy103
                clear hy103
                have H':=Aside0.mk H
                clear H
                go_wp2_with (first|((with_reducible refine gate_dst (N:=28) rfl ?_);refine Kd.R_lit Kd.string _ 9 ?hg (N:=28) ?hd (xs:=([]:List ByteArray)) (inner:= []) (ok:=fun _=> True) (okp:=fun _=> True) ?hr ?hp (fun _ hk=> hk) trivial (Below.refl _ _) (Nat.le_refl _) (by simp) ?_;(case hd=> rfl);(case hg=> rfl);(case hr=> first|(go_simp;done)|(go_simp;rfl));(case hp=> exact (Reps.none _ _));intro v104 w2 ho3 hb hg_ hnew_;clear hg_ hnew_;(first|rw [← Ny103.out] at ho3|(simp only [Int.reduceToNat] at ho3;rw [← Ny103.out] at ho3));have n0_:=Aside0.mk (Kd.R_lower ho3 (below_size (by repeat (first|(with_reducible first|exact HBn.out|apply bwA|apply bwN|apply bwD)|exact HBn.out))));have n1_:=Aside0.mk (below_step (by repeat (first|(with_reducible first|exact HBn.out|apply bwA|apply bwN|apply bwD)|exact HBn.out)) hb);clear HBn;have HO105:=n0_;have HBn:=n1_;clear n0_ n1_;clear hb ho3))
                go_loopg [6,7] ko (fun kq v6 v7 w'=> ∃ (x6_1:List ByteArray) (x7_1:Int),v7= .int .i64 x7_1 ∧ Aside0 (spec_l04Levels.n0 kq x3 x6_1 x7_1=some tn) ∧ Aside0 (kq ≤ ko) ∧ Aside0 (Kd.R Kd.string 9 w' wo.heap.size (fun _=> True) v6 x6_1) ∧ Aside0 (Below wo.heap.size wo w'))
                case atStart=> exact ⟨(y103),(0),(by first|rfl|(simp;done)|(simp [*];done)),H',⟨Nat.le_refl _⟩,⟨by (with_reducible repeat (first|apply Kd.R_alloc|apply Kd.R_drewN|apply Kd.R_drew));exact HO105.out⟩,⟨by repeat (first|(with_reducible first|exact HBn.out|apply bwA|apply bwN|apply bwD)|exact HBn.out)⟩⟩
                case round=>
                  clear H'
                  try clear c1
                  try clear p2
                  obtain ⟨x6_1,x7_1,rfl,HA,HK2,HO_6,HBn⟩:=hrel
                  cases gk with
                  |zero=> exact absurd HA.out (by simp [spec_l04Levels.n0])
                  |succ k2=>
                    have H:=HA.out
                    clear HA
                    simp only [spec_l04Levels.n0] at H
                    by_cases c4:x7_1 < (x3.length:Int)
                    · rw [if_pos c4] at H
                      have c4b0:decide (x7_1 < (x3.length:Int))=true:=decide_eq_true c4
                      clear c4
                      by_cases c5:0 ≤ x7_1
                      · rw [if_pos c5] at H
                        have c5b0:decide (0 ≤ x7_1)=true:=decide_eq_true c5
                        clear c5
                        obtain ⟨ji6,hji6⟩:∃ j_:Int,(wrap64 (x7_1 + 1))=j_:=⟨_,rfl⟩
                        replace H:(if 0 ≤ (ji6) then (if (ji6) < (x3.length:Int) then ((spec_l04Node.f (rdOf ByteArray.empty x3 x7_1) (rdOf ByteArray.empty x3 (ji6))).bind fun t108=> (if x6_1.length < 8796093022208 then (spec_l04Levels.n0 k2 x3 (x6_1 ++ [t108]) (wrap64 (x7_1 + 2))) else (none))) else (none)) else (none))=some tn:=by first|(rw [hji6] at H;exact H)|(simp only [hji6] at H ⊢;exact H)
                        have hji6w:(IntKind.i64.wrap (x7_1 + 1))=ji6:=(i64_w _).trans hji6
                        by_cases c7:0 ≤ (ji6)
                        · rw [if_pos c7] at H
                          have c7b0:decide (0 ≤ (ji6))=true:=decide_eq_true c7
                          clear c7
                          by_cases c8:(ji6) < (x3.length:Int)
                          · rw [if_pos c8] at H
                            have c8b0:decide ((ji6) < (x3.length:Int))=true:=decide_eq_true c8
                            clear c8
                            replace H:=Option.bind_eq_some_iff.mp H
                            obtain ⟨t108,A90,H⟩:=H
                            replace H:(if x6_1.length < 8796093022208 then (spec_l04Levels.n0 k2 x3 (x6_1 ++ [t108]) (wrap64 (x7_1 + 2))) else (none))=some tn:=H
                            have A9:=Aside0.mk A90
                            clear A90
                            by_cases c10:x6_1.length < 8796093022208
                            · rw [if_pos c10] at H
                              have LMc10:=Aside0.mk c10
                              clear c10
                              obtain ⟨y109,hy109⟩:∃ y_:List ByteArray,y_=(x6_1 ++ [t108]):=⟨_,rfl⟩
                              replace H:(spec_l04Levels.n0 k2 x3 y109 (wrap64 (x7_1 + 2)))=some tn:=by first|(rw [hy109];with_reducible exact H)|(have H2_:=(Option.bind_some _ _).symm.trans H;rw [hy109];with_reducible exact H2_)|(have H2_:=(Option.bind_some _ _).symm.trans H;with_reducible exact H2_)|with_reducible exact H|(rw [hy109];exact H)|exact H
                              have Ny109:=Aside0.mk hy109
                              clear hy109
                              have H':=Aside0.mk H
                              clear H
                              try go_wp2
                              have n0_:=Aside0.mk (Kd.R_drew HO_6.out)
                              have n1_:=Aside0.mk (bwD HBn.out)
                              clear HO_6
                              clear HBn
                              have HO_6:=n0_
                              have HBn:=n1_
                              clear n0_ n1_
                              have p106:0 ≤ (x7_1:Int):=of_decide_eq_true (by first|(with_reducible assumption)|assumption)
                              have q106:x7_1 < (x3.length:Int):=of_decide_eq_true (by first|(with_reducible assumption)|assumption)
                              obtain ⟨ad106,e106,hx106_0⟩:=Kd.at_string HR3.out x7_1 p106 q106
                              have hw106_0:=hx106_0
                              cases e106
                              replace hx106_0:=(HBn.out.cell (World.block_lt_of_cell? wo _ hx106_0)).trans hx106_0
                              replace p106:=eq_true p106
                              replace q106:=eq_true q106
                              have p107:0 ≤ ((ji6):Int):=of_decide_eq_true (by first|(with_reducible assumption)|assumption)
                              have q107:(ji6) < (x3.length:Int):=of_decide_eq_true (by first|(with_reducible assumption)|assumption)
                              obtain ⟨ad107,e107,hx107_0⟩:=Kd.at_string HR3.out (ji6) p107 q107
                              have hw107_0:=hx107_0
                              obtain rfl:ad106=ad107:=(by injection e107)
                              replace hx107_0:=(HBn.out.cell (World.block_lt_of_cell? wo _ hx107_0)).trans hx107_0
                              replace p107:=eq_true p107
                              replace q107:=eq_true q107
                              refine start_ (n:=14) (S:=fun w'=> w'.cell? (ad106.add (x7_1).toNat)=some (.string (rdOf ByteArray.empty x3 x7_1)) ∧ w'.cell? (ad106.add ((ji6)).toNat)=some (.string (rdOf ByteArray.empty x3 (ji6)))) (ds:= []) #[false,false,false,false,false,false,false,false,false,false,false,false,false,false] (by kernel_rfl) rfl rfl ⟨((HBn.out.cell (World.block_lt_of_cell? wo _ hw106_0)).trans hw106_0),((HBn.out.cell (World.block_lt_of_cell? wo _ hw107_0)).trans hw107_0)⟩ (fun hHeld=> ?_);refine with_tabW spec_l04Levels.tab12 spec_l04Levels.bits12 (fun HT_ HW_=> ?_)
                              generalize wr.drew=w11 at HO_6 HBn hx106_0 hx107_0 hHeld ⊢
                              refine pure_ (i:=0) (N:=some 35) (v:=?_) (a':=?_) #[true,false,false,false,false,false,false,false,false,false,false,false,false,false] rfl rfl (any_of HT_.out (by kernel_rfl)) (fun _ _ _ h=> h) (Or.inl ⟨by rfl,?_⟩) ?_ ?_
                              rotate_left
                              · intro w'
                                go_simp
                                with_reducible rfl
                              rotate_left
                              · simp only [Act.put,List.setIfInBounds_toArray,List.set_cons_zero,List.set_cons_succ,i64_w,i32_w]
                                rfl
                              refine pure_ (i:=1) (N:=some 36) (v:=?_) (a':=?_) #[true,true,false,false,false,false,false,false,false,false,false,false,false,false] rfl rfl (any_of HT_.out (by kernel_rfl)) (fun _ _ _ h=> h) (Or.inl ⟨by rfl,?_⟩) ?_ ?_
                              rotate_left
                              · intro w'
                                go_simp
                                with_reducible rfl
                              rotate_left
                              · simp only [Act.put,List.setIfInBounds_toArray,List.set_cons_zero,List.set_cons_succ,i64_w,i32_w]
                                rfl
                              refine pure_ (i:=2) (N:=some 37) (v:=?_) (a':=?_) #[true,true,true,false,false,false,false,false,false,false,false,false,false,false] rfl rfl (any_of HT_.out (by kernel_rfl)) (fun _ _ _ h=> h) (Or.inl ⟨by rfl,?_⟩) ?_ ?_
                              rotate_left
                              · intro w'
                                go_simp
                                with_reducible rfl
                              rotate_left
                              · simp only [Act.put,List.setIfInBounds_toArray,List.set_cons_zero,List.set_cons_succ,i64_w,i32_w]
                                rfl
                              refine pure_ (i:=3) (N:=some 38) (v:=?_) (a':=?_) #[true,true,true,true,false,false,false,false,false,false,false,false,false,false] rfl rfl (any_of HT_.out (by kernel_rfl)) (fun _ _ _ h=> h) (Or.inl ⟨by rfl,?_⟩) ?_ ?_
                              rotate_left
                              · intro w'
                                go_simp
                                with_reducible rfl
                              rotate_left
                              · simp only [Act.put,List.setIfInBounds_toArray,List.set_cons_zero,List.set_cons_succ,i64_w,i32_w]
                                rfl
                              refine pure_ (i:=5) (N:=some 40) (v:=?_) (a':=?_) #[true,true,true,true,false,true,false,false,false,false,false,false,false,false] rfl rfl (any_of HT_.out (by kernel_rfl)) (fun _ _ _ h=> h) (Or.inl ⟨by rfl,?_⟩) ?_ ?_
                              rotate_left
                              · intro w'
                                go_simp
                                with_reducible rfl
                              rotate_left
                              · simp only [Act.put,List.setIfInBounds_toArray,List.set_cons_zero,List.set_cons_succ,i64_w,i32_w]
                                rfl
                              refine pure_ (i:=6) (N:=some 41) (v:=?_) (a':=?_) #[true,true,true,true,false,true,true,false,false,false,false,false,false,false] rfl rfl (any_of HT_.out (by kernel_rfl)) (fun _ _ _ h=> h) (Or.inl ⟨by rfl,?_⟩) ?_ ?_
                              rotate_left
                              · intro w'
                                go_simp
                                with_reducible rfl
                              rotate_left
                              · simp only [Act.put,List.setIfInBounds_toArray,List.set_cons_zero,List.set_cons_succ,i64_w,i32_w]
                                rfl
                              refine pure_ (i:=7) (N:=some 42) (v:=?_) (a':=?_) #[true,true,true,true,false,true,true,true,false,false,false,false,false,false] rfl rfl (any_of HT_.out (by kernel_rfl)) (fun _ _ _ h=> h) (Or.inl ⟨by rfl,?_⟩) ?_ ?_
                              rotate_left
                              · intro w'
                                go_simp
                                with_reducible rfl
                              rotate_left
                              · simp only [Act.put,List.setIfInBounds_toArray,List.set_cons_zero,List.set_cons_succ,i64_w,i32_w]
                                rfl
                              refine pure_ (i:=8) (N:=some 43) (v:=?_) (a':=?_) #[true,true,true,true,false,true,true,true,true,false,false,false,false,false] rfl rfl (any_of HT_.out (by kernel_rfl)) (fun _ _ _ h=> h) (Or.inl ⟨by rfl,?_⟩) ?_ ?_
                              rotate_left
                              · intro w'
                                go_simp
                                with_reducible rfl
                              rotate_left
                              · simp only [Act.put,List.setIfInBounds_toArray,List.set_cons_zero,List.set_cons_succ,i64_w,i32_w]
                                rfl
                              refine take_ (i:=4) (N:=some 39) (v:=?_) (a':=?_) #[true,true,true,true,true,true,true,true,true,false,false,false,false,false] rfl rfl (take_ofW HT_.out HW_.out (by kernel_rfl)) (fun _ _ _ h=> h) (Or.inl ⟨by rfl,?_⟩) hHeld ?_ ?_
                              rotate_left
                              · rintro w' ⟨s0,s1⟩
                                go_simp
                                with_reducible rfl
                              rotate_left
                              · simp only [Act.put,List.setIfInBounds_toArray,List.set_cons_zero,List.set_cons_succ,i64_w,i32_w]
                                rfl
                              refine take_ (i:=9) (N:=some 44) (v:=?_) (a':=?_) #[true,true,true,true,true,true,true,true,true,true,false,false,false,false] rfl rfl (take_ofW HT_.out HW_.out (by kernel_rfl)) (fun _ _ _ h=> h) (Or.inl ⟨by rfl,?_⟩) hHeld ?_ ?_
                              rotate_left
                              · rintro w' ⟨s0,s1⟩
                                go_simp
                                with_reducible rfl
                              rotate_left
                              · simp only [Act.put,List.setIfInBounds_toArray,List.set_cons_zero,List.set_cons_succ,i64_w,i32_w]
                                rfl
                              refine one_ (i:=10) (N:=some 45) #[true,true,true,true,true,true,true,true,true,true,true,false,false,false] rfl rfl (one_of HT_.out (by kernel_rfl)) (by decide) (fun K hK=> ?_)
                              refine goes_ Try.func92 (by kernel_rfl) rfl #[.string (rdOf ByteArray.empty x3 x7_1),.string (rdOf ByteArray.empty x3 (ji6))] (by rfl) rfl rfl (by (try simp only [List.map_toArray,List.map_cons,List.map_nil]);first|done|(simp only [hji6];rfl)|rfl|(simp only [List.length_drop,List.length_take];rfl)) ?_
                              with_reducible refine (spec_l04Node.calls (rdOf ByteArray.empty x3 x7_1) (rdOf ByteArray.empty x3 (ji6)) t108 _ A9.out).mono ?_
                              rintro e w12 ⟨rfl,hb⟩
                              refine ⟨_,rfl,?_⟩
                              have n0_:=Aside0.mk (Kd.R_below (by (with_reducible repeat (first|apply Kd.R_alloc|apply Kd.R_drewN|apply Kd.R_drew));exact HO_6.out) hb)
                              have n1_:=Aside0.mk (below_step (by repeat (first|(with_reducible first|exact HBn.out|apply bwA|apply bwN|apply bwD)|exact HBn.out)) hb)
                              clear HO_6
                              clear HBn
                              have HO_6:=n0_
                              have HBn:=n1_
                              clear n0_ n1_
                              (try clear hb)
                              (try clear hb2)
                              (try clear hk)
                              (try clear hi)
                              refine hK.out _ _ ⟨((HBn.out.cell (World.block_lt_of_cell? wo _ hw106_0)).trans hw106_0),((HBn.out.cell (World.block_lt_of_cell? wo _ hw107_0)).trans hw107_0)⟩ (fun hHeld=> ?_)
                              clear hK K
                              refine norm_ (a':=?_) ?_ ?_
                              rotate_left
                              · show Act.put _ (some 45) _=_
                                simp only [Act.put,List.setIfInBounds_toArray,List.set_cons_zero,List.set_cons_succ,i64_w,i32_w]
                                rfl
                              refine one_ (i:=11) (N:=some 46) #[true,true,true,true,true,true,true,true,true,true,true,true,false,false] rfl rfl (one_of HT_.out (by kernel_rfl)) (by decide) (fun K hK=> ?_)
                              refine value_ (w1:=?_) (v:=?_) (by rfl) rfl ?_ ?_
                              rotate_left 2
                              · go_simp
                                constructor
                                · rfl
                                · rfl
                              refine hK.out _ _ ⟨(World.cell?_alloc_lt _ _ _ (World.block_lt_of_cell? _ _ (((HBn.out.cell (World.block_lt_of_cell? wo _ hw106_0)).trans hw106_0)))).trans (((HBn.out.cell (World.block_lt_of_cell? wo _ hw106_0)).trans hw106_0)),(World.cell?_alloc_lt _ _ _ (World.block_lt_of_cell? _ _ (((HBn.out.cell (World.block_lt_of_cell? wo _ hw107_0)).trans hw107_0)))).trans (((HBn.out.cell (World.block_lt_of_cell? wo _ hw107_0)).trans hw107_0))⟩ (fun hHeld=> ?_)
                              clear hK K
                              refine norm_ (a':=?_) ?_ ?_
                              rotate_left
                              · show Act.put _ (some 46) _=_
                                simp only [Act.put,List.setIfInBounds_toArray,List.set_cons_zero,List.set_cons_succ,i64_w,i32_w]
                                rfl
                              refine one_ (i:=12) (N:=some 47) #[true,true,true,true,true,true,true,true,true,true,true,true,true,false] rfl rfl (one_of HT_.out (by kernel_rfl)) (by decide) (fun K hK=> ?_)
                              refine Kd.R_append_step Kd.string (w0:=wo) wo.heap.size (by rfl) (.tmp 35) (.tmp 46) 41 9 (.string ⟨#[]⟩) 16 rfl Try.underlying41 info9 rfl (by decide) (by omega) u6 x6_1 t108 [.string t108] (fun _=> True) (fun _=> False) rfl rfl ?aP (fun _ hk=> hk.elim) ?aF ?aO ?aB ?aS ?aL ?_
                              (case aP=> exact rfl)
                              (case aB=> exact (by repeat (first|(with_reducible first|exact HBn.out|apply bwA|apply bwN|apply bwD)|exact HBn.out)))
                              (case aF=> exact (fun _ _=> trivial))
                              (case aO=> exact (by (with_reducible repeat (first|apply Kd.R_alloc|apply Kd.R_drewN|apply Kd.R_drew));exact HO_6.out))
                              (case aS=> exact (below_size (by repeat (first|(with_reducible first|exact HBn.out|apply bwA|apply bwN|apply bwD)|exact HBn.out))))
                              (case aL=> have:=LMc10.out;omega)
                              intro v110 w13 ho hb hg hat
                              rw [← Ny109.out] at ho
                              have n0_:=Aside0.mk (hb)
                              have n1_:=Aside0.mk (ho)
                              clear HBn
                              clear HO_6
                              have HBn:=n0_
                              have HO111:=n1_
                              clear n0_ n1_
                              clear ho hb hg hat
                              refine hK.out _ _ ⟨((HBn.out.cell (World.block_lt_of_cell? wo _ hw106_0)).trans hw106_0),((HBn.out.cell (World.block_lt_of_cell? wo _ hw107_0)).trans hw107_0)⟩ (fun hHeld=> ?_)
                              clear hK K
                              refine norm_ (a':=?_) ?_ ?_
                              rotate_left
                              · show Act.put _ (some 47) _=_
                                simp only [Act.put,List.setIfInBounds_toArray,List.set_cons_zero,List.set_cons_succ,i64_w,i32_w]
                                rfl
                              refine pure_ (i:=13) (N:=some 6) (v:=?_) (a':=?_) #[true,true,true,true,true,true,true,true,true,true,true,true,true,true] rfl rfl (any_of HT_.out (by kernel_rfl)) (fun _ _ _ h=> h) (Or.inl ⟨by rfl,?_⟩) ?_ ?_
                              rotate_left
                              · intro w'
                                go_simp
                                with_reducible rfl
                              rotate_left
                              · simp only [Act.put,List.setIfInBounds_toArray,List.set_cons_zero,List.set_cons_succ,i64_w,i32_w]
                                rfl
                              refine done_ (done_of HT_.out (by kernel_rfl)) ?_
                              try go_wp2
                              go_roundg k2
                              case measure=> have:=HK2.out;omega
                              case rel=> exact ⟨(y109),(wrap64 (x7_1 + 2)),(by first|rfl|(simp;done)|(simp [*];done)),H',⟨by have:=HK2.out;omega⟩,⟨by (with_reducible repeat (first|apply Kd.R_alloc|apply Kd.R_drewN|apply Kd.R_drew));exact HO111.out⟩,⟨by repeat (first|(with_reducible first|exact HBn.out|apply bwA|apply bwN|apply bwD)|exact HBn.out)⟩⟩
                            · rw [if_neg c10] at H
                              exact absurd H (by simp)
                          · rw [if_neg c8] at H
                            exact absurd H (by simp)
                        · rw [if_neg c7] at H
                          exact absurd H (by simp)
                      · rw [if_neg c5] at H
                        exact absurd H (by simp)
                    · rw [if_neg c4] at H
                      have c4b0:decide (x7_1 < (x3.length:Int))=false:=decide_eq_false c4
                      clear c4
                      obtain rfl:=Option.some.inj H
                      obtain ⟨An,cn,en⟩:=Kd.R_slice HO_6.out
                      subst en
                      have HN:=Aside0.mk (Kd.R_lower (Kd.R_mono (ok':=fun k=> wo.heap.size ≤ k) (Kd.R_bound HO_6.out) (fun k hk=> hk.2.1)) (below_size HB.out))
                      have HSo:=Aside0.mk (Kd.S_mono (ok':=fun k=> True ∧ ¬ wo.heap.size ≤ k) (Kd.S_below (Kd.S_bound HS5.out) HBn.out) (fun k hk=> ⟨trivial,by have:=hk.2.2.1;omega⟩))
                      have HAp:=Aside0.mk (show ∀ k,wo.heap.size ≤ k → some k ≠ (u5:Value).ownBlock from fun k hk e=> by have:=Kd.S_lt HS5.out k e.symm;omega)
                      have HBt:=Aside0.mk (below_step HB.out HBn.out)
                      go_wp2_with (first|((with_reducible refine gate_builtin (b:= .append) (xs:= #[.tmp 49,.tmp 51]) rfl ?_);at_builtin;refine Kd.S_append (Kd.slice 9 Kd.string) (w0:=w) w.heap.size rfl (.tmp 49) (.tmp 51) 108 41 (.slice none 0 0) 24 rfl Try.underlying108 info41 rfl (by decide) (by omega) u5 x5 x6_1 [.slice An x6_1.length cn] (fun _=> True) (fun k=> wo.heap.size ≤ k) rfl rfl ?aP (fun k hk=> ⟨trivial,HAp.out k hk⟩) (fun _ _=> trivial) ?aO ?aB ?aS ?aL ?_;(case aP=> exact ⟨_,rfl,by (with_reducible repeat (first|apply Kd.R_alloc|apply Kd.R_drewN|apply Kd.R_drew));exact HN.out⟩);(case aO=> exact (by (with_reducible repeat (first|apply Kd.S_alloc|apply Kd.S_drewN|apply Kd.S_drew));exact HSo.out));(case aB=> exact (by repeat (first|(with_reducible first|exact HBt.out|apply bwA|apply bwN|apply bwD)|exact HBt.out)));(case aS=> exact (below_size (by repeat (first|(with_reducible first|exact HBt.out|apply bwA|apply bwN|apply bwD)|exact HBt.out))));(case aL=> have:=LMe5.out;omega);intro va wa ho hb hg hat;have n0_:=Aside0.mk (Kd.R_reads' (Kd.R_grown (by (with_reducible repeat (first|apply Kd.R_alloc|apply Kd.R_drewN|apply Kd.R_drew));exact HN.out) hg (fun k hk=> HAp.out k hk)));have n1_:=Aside0.mk ho;have n2_:=Aside0.mk hb;have HRA:=n0_;have HSA:=n1_;have HBA:=n2_;clear n0_ n1_ n2_;clear ho hb hg hat))
                      go_roundg ko
                      case measure=> have:=HK1.out;omega
                      case rel=> exact ⟨_,_,An,cn,rfl,HO1,⟨by have:=HK1.out;omega⟩,⟨by (with_reducible repeat (first|refine Kd.C_alloc ?_ _|refine Kd.C_drewN ?_ _|refine Kd.C_drew ?_));exact HRA.out.2.2⟩,⟨by (with_reducible repeat (first|apply Kd.S_alloc|apply Kd.S_drewN|apply Kd.S_drew));exact HSA.out⟩,⟨by repeat (first|(with_reducible first|exact HBA.out|apply bwA|apply bwN|apply bwD)|exact HBA.out)⟩⟩
              · rw [if_neg e5] at H
                exact absurd H (by simp)
            · rw [if_neg e4] at H
              have e4b0:decide ((x3.length:Int) > 1)=false:=decide_eq_false e4
              clear e4
              obtain rfl:=Option.some.inj H
              go_wp2
              go_ret
              exact ⟨_,by first|rfl|(simp [errW_none,errW_some] <;> rfl)|(simp [*,errW_none,errW_some] <;> rfl),by (with_reducible repeat (first|apply Kd.S_alloc|apply Kd.S_drewN|apply Kd.S_drew));exact HS5.out,by repeat (first|(with_reducible first|exact HB.out|apply bwA|apply bwN|apply bwD)|exact HB.out)⟩
theorem spec_l04Levels.calls (A0:Option Addr) (c0:Nat) (l0:List ByteArray) (r:List (List ByteArray)) (w:World) (hr0:Kd.C Kd.string w A0 l0.length l0) (hc0:l0.length ≤ c0) (h:spec_l04Levels.f l0=some r):
    Calls Try.prog 105 #[.slice A0 l0.length c0] w fun e w'=> ∃ v0_:Value,e= .returned (v0_) ∧ Kd.S (Kd.slice 9 Kd.string) 41 w' w.heap.size (fun _=> True) v0_ r ∧ Below w.heap.size w w':=spec_l04Levels.runs 1000 A0 c0 l0 r w hr0 hc0 h
end Go.Proofs.Ytlogocmojnhpbaa.Print
namespace Go.Proofs.Ytlogocmojnhpbaa.Print
open Go.RowKit Go.Proofs.YtlogocmojnhpbaaW.PrintWords Go.Proofs.YtlogocmojnhpbaaW.PrintLast
set_option linter.unusedVariables false
set_option linter.unusedSimpArgs false
set_option maxHeartbeats 4000000 in
theorem log.calls (x:Int) (w:World) (h0:0 ≤ x) (h1:x ≤ 65535):
    Calls Try.prog 160 #[.int .u64 x] w fun e w'=> e= .returned (.int .i64 (Lib.bitLen x.toNat)) ∧ w'=w:=by
  go_enter Try.func160,Try.ntmps160
  go_wp2_with (go_at_call 165;refine (log64.calls x _ h0 (by omega)).mono ?_;rintro e w' ⟨rfl,rfl⟩)
  go_ret
  exact ⟨rfl,rfl⟩
def impl_logOf.f (a0:Int):Option Int:=if 0 ≤ a0 ∧ a0 ≤ 65535 then some ((Lib.bitLen a0.toNat:Int) - 1) else none
set_option maxHeartbeats 4000000 in
theorem impl_logOf.calls (a0:Int) (r:Int) (w:World) (h:impl_logOf.f a0=some r):
    Calls Try.prog 146 #[.int .i64 a0] w fun e w'=> e= .returned (.int .i64 r) ∧ Below w.heap.size w w':=by
  unfold impl_logOf.f at h
  split at h
  · next hs=>
    obtain ⟨h0,h1⟩:=hs
    obtain rfl:=Option.some.inj h
    have L:=fun w=> log.calls a0 w h0 h1
    have hb:Lib.bitLen a0.toNat ≤ 64:=Lib.bitLen_le _ 64 (by omega) (by omega)
    generalize Lib.bitLen a0.toNat=b at L hb ⊢
    have L:=Aside0.mk L
    clear h
    go_enter Try.func146,Try.ntmps146
    go_wp2_with (go_at_call 160;refine (L.out _).mono ?_;rintro e w' ⟨rfl,rfl⟩)
    go_ret
    exact ⟨rfl,Below.refl _ _⟩
  · cases h
end Go.Proofs.Ytlogocmojnhpbaa.Print
