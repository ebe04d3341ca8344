-- Packed by a program of this session (slim.py) out of printed texts; not trusted, Lean checks it.
import Derived.Test.YtlogocmojnhpbaaP0
import Derived.Test.YtlogocmojnhpbaaQFnExactTakePlaces0
import Derived.StillTailTactics
import Derived.Laws.BitsLemmas
namespace Go.Proofs.Ytlogocmojnhpbaa.Print
open Go Go.RowKit Go.Proofs.YtlogocmojnhpbaaW.PrintWords Go.Proofs.YtlogocmojnhpbaaW.PrintLast
set_option linter.unusedVariables false
set_option linter.unusedSimpArgs false
set_option maxHeartbeats 1000000 in
set_option maxRecDepth 100000 in
theorem drawS.calls (B:Nat) (ad:Addr) (c ln:Nat) (l:List S79) (at_ n:Int) (st:ByteArray) (w:World) (hln:ln=l.length) (hB:SrcBlk w B (.slice (some ad) ln c) at_ st n) (hC:Kd.C k79 w (some ad) l.length l) (hd:ad.block ≠ B) (h0:0 ≤ at_) (h1:at_ ≤ 2000000) (hl:0 < l.length) (hl2:l.length ≤ 1000000):
    Calls Try.prog 158 #[.pointer (some ⟨B,0,none⟩)] w fun e w'=> e= .returned (.agg #[.int .i64 (rd_T79 l (at_ % (ln:Int))).f0,.int .i64 (rd_T79 l (at_ % (ln:Int))).f1]) ∧ SrcBlk w' B (.slice (some ad) ln c) (at_ + 1) st n ∧ Moved w w' (fun i=> i=B):=by
  obtain ⟨j,hj⟩:∃ j,j=at_ % (ln:Int):=⟨_,rfl⟩
  have hj0:0 ≤ j:=by rw [hj];exact Int.emod_nonneg _ (by omega)
  have hj1:j < (l.length:Int):=by rw [hj,hln];exact Int.emod_lt_of_pos _ (by omega)
  obtain ⟨ad',e',hx0,hx1⟩:=at_T79 hC j hj0 hj1
  cases e'
  have hb1:(ad.add (j.toNat * 2)).block ≠ B:=by rw [add_block];exact hd
  rw [← hln] at hl hl2 hj1
  have HJ:=Aside0.mk hj
  rw [← hj]
  generalize (rd_T79 l j).f0=x0 at hx0 ⊢
  generalize (rd_T79 l j).f1=x1 at hx1 ⊢
  have HB0:=Aside0.mk hB
  have HX0:=Aside0.mk hx0
  have HX1:=Aside0.mk hx1
  have HBL:=Aside0.mk hb1
  have hlz:(0:Int) < (ln:Int):=by omega
  clear hB hC hd hx0 hx1 hb1 hj hln
  go_enter Try.func158,Try.ntmps158
  go_wp2_with ((with_reducible refine gate_dst (N:=2) rfl ?_);refine box_event ?hg (N:=2) ?hd (cs:= #[.int .i64 0,.int .i64 0]) (t:=79) ?hr ?_;(case hd=> rfl);(case hg=> rfl);(case hr=> first|(go_simp;done)|(go_simp;rfl));intro g hg w1 hbox hb;have SB:=Aside0.mk (HB0.out.below hb);have BG:=Aside0.mk hbox;have MV:=Aside0.mk (Moved.of_below (p:=fun i=> i=B) hb);have HG:=Aside0.mk (show w.heap.size ≤ g by omega);have HNE:=Aside0.mk (show B ≠ g from fun e=> by have:=HB0.out.lt;omega);have q0:=SB.out.cell0;have q1:=SB.out.cell1;have z1:=SB.out.frozen 1;clear hbox hb hg)
  have SB2:=SB.out.set1 (at_ + 1)
  have BG2:=blk_far (p:=⟨B,1,none⟩) BG.out HNE.out.symm (.int .i64 (at_ + 1))
  have MV2:=MV.out.set B 1 (.int .i64 (at_ + 1)) (.inl rfl)
  have hx0:=MV2.growB _ _ HBL.out HX0.out
  have hx1:=MV2.growB ⟨(ad.add (j.toNat * 2)).block,(ad.add (j.toNat * 2)).off + 1,none⟩ _ HBL.out HX1.out
  clear q0 q1 z1 SB BG MV HX0 HX1
  generalize w1.setCell ⟨B,1,none⟩ (.int .i64 (at_ + 1))=W2 at SB2 BG2 MV2 hx0 hx1 ⊢
  have q0:=SB2.cell0
  have q1:=SB2.cell1
  have p0:W2.cell? ⟨g,0,none⟩=some (.int .i64 0):=(blk_cell BG2 0).trans rfl
  have p1:W2.cell? ⟨g,1,none⟩=some (.int .i64 0):=(blk_cell BG2 1).trans rfl
  have z0:=blk_frozen BG2 0
  have z1:=blk_frozen BG2 1
  have SB2:=Aside0.mk SB2
  have BG2:=Aside0.mk BG2
  have MV2:=Aside0.mk MV2
  have a1:IntKind.i64.wrap (at_ + 1 - 1)=at_:=by rw [IntKind.wrap_i64];omega
  have a1b:IntKind.i64.wrap at_=at_:=by rw [IntKind.wrap_i64];omega
  have a2:at_.tmod (ln:Int)=j:=by rw [Int.tmod_eq_emod_of_nonneg h0];exact HJ.out.symm
  have a3:IntKind.i64.wrap j=j:=by rw [IntKind.wrap_i64];omega
  have a4:((ln:Int)==0)=false:=beq_eq_false_iff_ne.mpr (by omega)
  have a5:¬ (ln:Int)=0:=by omega
  have a6:¬ ln=0:=by omega
  refine wp_region_still_tail 17 (by kernel_rfl) (by kernel_rfl) ?_
  show wpStill _ _ (World.drew _) (fun a'=> wpList _ _ _ _ a' (World.drew _)) _ _
  simp only [List.take_succ_cons,List.take_zero,List.drop_succ_cons,List.drop_zero]
  repeat still_step
  refine wpStill_nil ?_
  go_wp2
  refine bodyPost_ret (results_cell_row rfl _ _ g 79 #[.int .i64 x0,.int .i64 x1] (0,0) _ rfl (bd (blk_put (blk_put BG2.out 0 _ rfl) 1 _ rfl)) Try.underlying79 rfl (by kernel_rfl)) rfl ?_
  exact ⟨rfl,((SB2.out.far HNE.out 0 _).far HNE.out 1 _).step rfl,((MV2.out.set g 0 _ (.inr HG.out)).set g 1 _ (.inr HG.out)).drew⟩
theorem C_part {w:World} {g n:Nat} {xs:List Int} {k:IntKind} (h:(Kd.int k).C w (some ⟨g,0,none⟩) n xs) (o m:Nat) (hm:o + m ≤ n):(Kd.int k).C w (some ⟨g,o,none⟩) m ((xs.drop o).take m):=by
  have h2:=Kd.reads_of_C (enc:=Value.int k) (d:=(0:Int)) (h1:=fun _=> rfl) h
  have hl:xs.length=n:=h2.1
  refine Kd.C_of_reads (d:=(0:Int)) ⟨by simp;omega,by have:=h2.2.1;omega,fun hn=> ⟨_,rfl,fun j hj=> ?_⟩⟩
  obtain ⟨ad,e,hc⟩:=h2.2.2 (by omega)
  cases e
  have h3:=hc (o + j) (by omega)
  rw [addr_at,Nat.zero_add] at h3
  rw [addr_at,h3]
  simp only [List.getD_eq_getElem?_getD]
  rw [List.getElem?_take,if_pos hj,List.getElem?_drop]
theorem slice_mid (g L cap lo hi:Nat) (h0:lo < hi) (h1:hi ≤ L) (hc:L ≤ cap) (w:World):(Instr.slice 25 (.slice (some ⟨g,0,none⟩) L cap) (some (.int .i64 (lo:Int))) (some (.int .i64 (hi:Int))) none).run Try.prog w= .ok (.slice (some ⟨g,lo,none⟩) (hi - lo) (cap - lo)) w:=by
  obtain ⟨i,hi',hzz⟩:∃ i,Try.prog.info? 5=some i ∧ i.size=1:=by
    have:=info5
    obtain ⟨i,hi,hz⟩:=Option.map_eq_some_iff.1 this
    simp only [Prod.mk.injEq] at hz
    exact ⟨i,hi,hz.2.1⟩
  rw [cut_mid (P:=Try.prog) 25 5 .i64 .i64 Try.underlying25 hi' 1 hzz (some ⟨g,0,none⟩) L cap (lo:Int) (hi:Int) (by omega) (by omega) (by omega) hc w]
  rw [Int.toNat_natCast,Int.toNat_natCast,if_neg (by omega),Option.map_some,addr_at]
  simp
def drawB:List Int:= [100,114,97,119]
def drawH (st:ByteArray) (n:Int):List Int:=kHash (bytesOf st ++ drawB ++ fourB n)
theorem drawH_length (st:ByteArray) (n:Int):(drawH st n).length=32:=kHash_length _
theorem drawH_in (st:ByteArray) (n:Int):AllB (drawH st n):=text_in _ _
def numI (bs:List Int):Nat → Int
  |0=> 0
  |i + 1=> numI bs i * 256 + rd bs (i:Int)
def modB (bs:List Int):Int:=numI bs 8 % 2130706433
theorem rdB (bs:List Int) (hb:AllB bs) (i:Nat):0 ≤ rd bs (i:Int) ∧ rd bs (i:Int) ≤ 255:=by
  have b0:=hb.getD i
  unfold InB at b0
  rw [show bs.getD i 0=rd bs (i:Int) by simp [rd]] at b0
  omega
theorem numI_bd (bs:List Int) (hb:AllB bs) (i:Nat):0 ≤ numI bs i ∧ numI bs i < 256 ^ i:=by
  induction i with
  |zero=> exact ⟨Int.le_refl _,by simp [numI]⟩
  |succ i ih=>
    have b:=rdB bs hb i
    unfold numI
    rw [Int.pow_succ]
    omega
theorem or_byteU (x b:Int) (h0:0 ≤ x) (h1:x < 72057594037927936) (h2:0 ≤ b) (h3:b ≤ 255):Go.bits .or .u64 (IntKind.u64.wrap (x * 256)) (IntKind.u64.wrap b)=x * 256 + b:=by
  have wu:∀ y:Int,0 ≤ y → y < 18446744073709551616 → IntKind.u64.wrap y=y:=fun y h0 h1=> by
    have e:IntKind.u64.wrap y=y % 18446744073709551616:=by simp [IntKind.wrap,IntKind.signed,IntKind.bits]
    omega
  rw [wu (x * 256) (by omega) (by omega),wu b (by omega) (by omega)]
  have e8:(2:Int) ^ 8=256:=by decide
  have e64:(2:Int) ^ 64=18446744073709551616:=by decide
  exact bits_join .u64 64 (by decide) (fun n h0 h1=> by rw [e64] at h1;exact wu n h0 h1) 8 (x * 256) b (by omega) (by rw [e8];omega) (by rw [e64];omega) h2 (by rw [e8];omega) (by rw [e64];omega)
theorem pow_seven (i:Nat) (h:i ≤ 7):(256:Int) ^ i ≤ 72057594037927936:=by
  match i,h with
  |0,_=> decide
  |1,_=> decide
  |2,_=> decide
  |3,_=> decide
  |4,_=> decide
  |5,_=> decide
  |6,_=> decide
  |7,_=> decide
theorem modulo_l (bs:List Int) (hb:AllB bs) (hl:bs.length=8) (d:Nat):∀ i:Nat,i + d=8 → impl_modulo.l0 (d + 1) (numI bs i) bs 8 (i:Int)=some (modB bs):=by
  induction d with
  |zero=>
    intro i hi
    obtain rfl:i=8:=by omega
    have h:=(numI_bd bs hb 8).1
    rw [impl_modulo.l0,if_neg (by omega),Int.tmod_eq_emod_of_nonneg h]
    have:wrap64 (numI bs 8 % 2130706433)=numI bs 8 % 2130706433:=by unfold wrap64;omega
    rw [this]
    rfl
  |succ d ih=>
    intro i hi
    have h:=ih (i + 1) (by omega)
    have b:=rdB bs hb i
    have hn:=numI_bd bs hb i
    have hp:=pow_seven i (by omega)
    rw [impl_modulo.l0,if_pos (by omega),if_pos (by omega),if_pos (by omega),or_byteU _ _ hn.1 (by omega) b.1 b.2]
    rw [show wrap64 ((i:Int) + 1)=((i + 1:Nat):Int) by unfold wrap64;omega]
    exact h
theorem modulo_f (bs:List Int) (hb:AllB bs) (hl:bs.length=8):impl_modulo.f 9 bs=some (modB bs):=by
  unfold impl_modulo.f
  rw [hl]
  exact modulo_l bs hb hl 8 0 (by omega)
theorem moduloN.calls (A:Option Addr) (c m:Nat) (l:List Int) (w:World) (hm:m=8) (hC:Kd.C (Kd.int .u8) w A 8 l) (hc:8 ≤ c) (hb:AllB l) (hl:l.length=8):
    Calls Try.prog 163 #[.slice A m c] w fun e w'=> e= .returned (.int .i64 (modB l)) ∧ Drawn0 w w':=by
  subst hm
  have h:=impl_modulo.calls 9 A c l (modB l) w (by rw [hl];exact hC) (by omega) (modulo_f l hb hl)
  rw [hl] at h
  exact h
def drawI (w0:World) (B g:Nat) (sv:Value) (at_ n:Int) (st:ByteArray) (x0 x1:Int) (w:World):Prop:=
  SrcBlk w B sv at_ st n ∧ Moved w0 w (fun i=> i=B) ∧ w.heap[g]?=some (.cells #[.int .i64 x0,.int .i64 x1] 79 (0,0)) ∧ w0.heap.size ≤ g ∧ B ≠ g
theorem drawI.below {w0 w w1:World} {B g:Nat} {sv:Value} {at_ n x0 x1:Int} {st:ByteArray} (h:drawI w0 B g sv at_ n st x0 x1 w) (hb:Below w.heap.size w w1):drawI w0 B g sv at_ n st x0 x1 w1:=
  ⟨h.1.below hb,h.2.1.step hb,blk_below h.2.2.1 hb,h.2.2.2⟩
set_option maxHeartbeats 1000000 in
set_option maxRecDepth 100000 in
theorem drawT.calls (B c:Nat) (A:Option Addr) (at_ n:Int) (st:ByteArray) (w:World) (hB:SrcBlk w B (.slice A 0 c) at_ st n) (h0:0 ≤ n) (h1:n ≤ 2000000) (hst:st.size ≤ 1000000):
    Calls Try.prog 158 #[.pointer (some ⟨B,0,none⟩)] w fun e w'=> e= .returned (.agg #[.int .i64 (modB ((drawH st n).take 8)),.int .i64 (modB (((drawH st n).drop 8).take 8))]) ∧ SrcBlk w' B (.slice A 0 c) at_ st (n + 1) ∧ Moved w w' (fun i=> i=B):=by
  have hsz:st.size ≤ 9223372036854775807:=by omega
  have hcv:=fun W=> print_bytes (P:=Try.prog) 9 25 5 Try.underlying9 Try.underlying25 Try.underlying5 st W
  have hu36:=Try.underlying36
  have hlt:=hB.lt
  have HB0:=Aside0.mk hB
  clear hB
  obtain ⟨R,hR⟩:∃ R,R=strOfNums (drawH st n):=⟨_,rfl⟩
  have hcat:strOfNums (kHash (kCat [bytesOf st,drawB,fourB n] 3))=R:=by rw [hR,kCat3];rfl
  have hRs:R.size=32:=by rw [hR,strOfNums_size];exact drawH_length _ _
  have HCAT:=Aside0.mk hcat
  have HR:=Aside0.mk hR
  have HL:Aside0 (AllB (kCat [bytesOf st,drawB,fourB n] 3) ∧ (kCat [bytesOf st,drawB,fourB n] 3).length ≤ 140737488350000):=⟨by
    rw [kCat3]
    refine ⟨((bytesOf_in _).append (okBytes_in (by decide))).append (fourB_in _),?_⟩
    simp only [List.length_append,bytesOf_length]
    have:drawB.length=4:=rfl
    have:(fourB n).length=4:=rfl
    omega⟩
  clear hcat hR
  obtain ⟨X0,hX0⟩:∃ X0,X0=modB ((drawH st n).take 8):=⟨_,rfl⟩
  obtain ⟨X1,hX1⟩:∃ X1,X1=modB (((drawH st n).drop 8).take 8):=⟨_,rfl⟩
  rw [← hX0,← hX1]
  have HX0:=Aside0.mk hX0
  have HX1:=Aside0.mk hX1
  clear hX0 hX1
  go_enter Try.func158,Try.ntmps158
  go_wp2_with ((with_reducible refine gate_dst (N:=2) rfl ?_);refine box_event ?hg (N:=2) ?hd (cs:= #[.int .i64 0,.int .i64 0]) (t:=79) ?hr ?_;(case hd=> rfl);(case hg=> rfl);(case hr=> first|(go_simp;done)|(go_simp;rfl));intro g hg w1 hbox hb;have DI:=Aside0.mk (show drawI w B g (.slice A 0 c) at_ n st 0 0 w1 from ⟨HB0.out.below hb,Moved.of_below hb,hbox,by omega,fun e=> by have:=HB0.out.lt;omega⟩);have q0:=DI.out.1.cell0;clear hbox hb hg)
  clear q0
  have hg1:g < w1.heap.size:=blk_lt DI.out.2.2.1
  refine region_facts (by kernel_rfl) (by kernel_rfl) (fun v=> ⟨List.toArray (Value.pointer (some ⟨B,0,none⟩)::undef::Value.pointer (some ⟨g,0,none⟩)::v 15::Value.pointer (some ⟨B,0,none⟩)::Value.pointer (some ⟨B,0,none⟩)::Value.pointer (some ⟨B,0,none⟩)::Value.slice A 0 c::Value.int .i64 0::Value.bool false::undef::undef::undef::undef::undef::undef::undef::undef::undef::undef::undef::undef::undef::undef::undef::undef::undef::undef::undef::undef::undef::undef::undef::undef::v 0::v 1::v 2::v 3::v 4::v 5::v 6::v 7::v 8::v 9::v 10::v 11::v 12::v 13::v 14::undef::undef::undef::undef::undef::undef::undef::undef::undef::undef::undef::undef::undef::undef:: []), []⟩)
    (fun k x w'=> match k with
      |0=> x= .pointer (some ⟨B,0,none⟩)
      |1=> x= .pointer (some ⟨B,0,none⟩)
      |2=> x= .pointer (some ⟨B,2,none⟩)
      |3=> x= .string st
      |4=> PRow w' x (bytesOf st)
      |5=> (∃ g,x= .slice (some ⟨g,0,none⟩) 4 4 ∧ w1.heap.size ≤ g) ∧ PRow w' x drawB
      |6=> PRow w' x drawB
      |7=> x= .pointer (some ⟨B,0,none⟩)
      |8=> x= .pointer (some ⟨B,0,none⟩)
      |9=> x= .pointer (some ⟨B,3,none⟩)
      |10=> x= .int .i64 n
      |11=> PRow w' x (fourB n)
      |12=> ∃ g,x= .slice (some ⟨g,0,none⟩) 3 3 ∧ (Kd.slice 5 (Kd.int .u8)).C w' (some ⟨g,0,none⟩) 3 [bytesOf st,drawB,fourB n]
      |13=> x= .string R
      |_=> ∃ g c,x= .slice (some ⟨g,0,none⟩) 32 c ∧ 32 ≤ c ∧ w1.heap.size ≤ g ∧ (Kd.int .u8).C w' (some ⟨g,0,none⟩) 32 (bytesOf R))
    (fun _ w'=> drawI w B g (.slice A 0 c) at_ n st 0 0 w' ∧ w1.heap.size ≤ w'.heap.size) Grow (fun _=> undef) w1 ?mono ?start ?step ?last
  case mono=>
    intro k x w1 w2 h hg
    match k with
    |0=> exact h
    |1=> exact h
    |2=> exact h
    |3=> exact h
    |4=> exact PRow.grow h hg
    |5=> exact ⟨h.1,PRow.grow h.2 hg⟩
    |6=> exact PRow.grow h hg
    |7=> exact h
    |8=> exact h
    |9=> exact h
    |10=> exact h
    |11=> exact PRow.grow h hg
    |12=>
      obtain ⟨g,e,hC⟩:=h
      exact ⟨g,e,CC_grow hC hg⟩
    |13=> exact h
    |k + 14=>
      obtain ⟨g,c,e,h1,h2,hC⟩:=h
      exact ⟨g,c,e,h1,h2,C_grow hC hg⟩
  case start=> exact ⟨DI.out.below (bwD (Below.refl _ _)),Nat.le_refl _⟩
  case step=>
    intro listed k o v W ho hs hl hC hd hI
    have hsz1:w1.heap.size ≤ W.heap.size:=hI.2
    have hsz0:w.heap.size ≤ w1.heap.size:=DI.out.2.1.1
    have q2:=hI.1.1.cell2
    have q3:=hI.1.1.cell3
    have bel:∀ {W2:World},Below W.heap.size W W2 → drawI w B g (.slice A 0 c) at_ n st 0 0 W2 ∧ w1.heap.size ≤ W2.heap.size:=fun h=> ⟨hI.1.below h,Nat.le_trans hI.2 h.size⟩
    clear hl hC
    match k,ho with
    |0,ho=>
      obtain rfl:=Option.some.inj ho
      exact wpOp_value rfl rfl (v:= .pointer (some ⟨B,0,none⟩)) (w':=W) (by kernel_rfl) ⟨_,rfl,rfl,Grow.refl _,hI⟩
    |1,ho=>
      obtain rfl:=Option.some.inj ho
      have h0:v 0=_:=(hd ⟨0,.data⟩ (by simp) rfl).2
      refine wpOp_value rfl rfl (v:= .pointer (some ⟨B,0,none⟩)) (w':=W) ?_ ⟨_,rfl,rfl,Grow.refl _,hI⟩
      simp only [h0]
      kernel_rfl
    |2,ho=>
      obtain rfl:=Option.some.inj ho
      have h1:v 1=_:=(hd ⟨1,.data⟩ (by simp) rfl).2
      refine wpOp_value rfl rfl (v:= .pointer (some ⟨B,2,none⟩)) (w':=W) ?_ ⟨_,rfl,rfl,Grow.refl _,hI⟩
      simp only [h1]
      clear hd bel hI
      go_simp
    |3,ho=>
      obtain rfl:=Option.some.inj ho
      have h2:v 2=_:=(hd ⟨2,.data⟩ (by simp) rfl).2
      refine wpOp_value rfl rfl (v:= .string st) (w':=W) ?_ ⟨_,rfl,rfl,Grow.refl _,hI⟩
      simp only [h2]
      clear hd bel hI
      go_simp
    |4,ho=>
      obtain rfl:=Option.some.inj ho
      have h3:v 3=_:=(hd ⟨3,.data⟩ (by simp) rfl).2
      refine wpOp_value rfl rfl (v:= .slice (some ⟨W.heap.size,0,none⟩) st.size (grownCap W st.size 0 5)) (w':=Lib.bytesWorld W 5 st) ?_ ⟨_,rfl,PRow.of_bytes _ _ hsz,Grow.bytes _ _ _,bel (bytes_below (Below.refl _ _) (Nat.le_refl _) 5 st)⟩
      simp only [h3]
      clear hd bel hI
      go_simp
    |5,ho=>
      obtain rfl:=Option.some.inj ho
      refine wpOp_value rfl rfl (v:= .slice (some ⟨W.heap.size,0,none⟩) 4 4) (w':=W.alloc (.cells (nums .u8 drawB).toArray 5)) ?_ ⟨_,rfl,⟨⟨_,rfl,hsz1⟩,PRow.of_lit _ drawB _ _ rfl rfl (by decide)⟩,Grow.alloc _ _,bel (bwA (Below.refl _ _) _)⟩
      clear hd bel hI
      go_simp
      rfl
    |6,ho=>
      obtain rfl:=Option.some.inj ho
      have h5:=(hd ⟨5,.data⟩ (by simp) rfl).2
      obtain ⟨⟨g5,e5,hg5⟩,h5⟩:=h5
      obtain ⟨w',hrun,hgr,hbl⟩:=run_mark W g5 0 4 4
      have hbb:=hbl g5 W (Below.refl _ _) (Nat.le_refl _)
      have hgW:g5 < W.heap.size:=by
        obtain ⟨A',c',e',_,hC'⟩:=h5
        rw [e5] at e'
        cases e'
        have h2:=Kd.reads_of_C (enc:=Value.int .u8) (d:=(0:Int)) (h1:=fun _=> rfl) hC'
        obtain ⟨ad,e,hc⟩:=h2.2.2 (by decide)
        cases e
        exact World.block_lt_of_cell? W _ (hc 0 (by decide))
      refine wpOp_value rfl rfl (v:= .slice (some ⟨g5,0,none⟩) 4 4) (w':=w') ?_ ⟨_,rfl,?_,hgr,⟨⟨hI.1.1.step (hbb.block B (by omega)),hI.1.2.1.mark (by omega) hbl,(hbb.block g (by omega)).trans hI.1.2.2.1,hI.1.2.2.2⟩,Nat.le_trans hI.2 hbb.size⟩⟩
      · simp only [e5]
        clear hd bel hI
        go_simp
      · rw [e5] at h5
        exact PRow.grow h5 hgr
    |7,ho=>
      obtain rfl:=Option.some.inj ho
      exact wpOp_value rfl rfl (v:= .pointer (some ⟨B,0,none⟩)) (w':=W) (by kernel_rfl) ⟨_,rfl,rfl,Grow.refl _,hI⟩
    |8,ho=>
      obtain rfl:=Option.some.inj ho
      have h7:v 7=_:=(hd ⟨7,.data⟩ (by simp) rfl).2
      refine wpOp_value rfl rfl (v:= .pointer (some ⟨B,0,none⟩)) (w':=W) ?_ ⟨_,rfl,rfl,Grow.refl _,hI⟩
      simp only [h7]
      kernel_rfl
    |9,ho=>
      obtain rfl:=Option.some.inj ho
      have h8:v 8=_:=(hd ⟨8,.data⟩ (by simp) rfl).2
      refine wpOp_value rfl rfl (v:= .pointer (some ⟨B,3,none⟩)) (w':=W) ?_ ⟨_,rfl,rfl,Grow.refl _,hI⟩
      simp only [h8]
      clear hd bel hI
      go_simp
    |10,ho=>
      obtain rfl:=Option.some.inj ho
      have h9:v 9=_:=(hd ⟨9,.data⟩ (by simp) rfl).2
      refine wpOp_value rfl rfl (v:= .int .i64 n) (w':=W) ?_ ⟨_,rfl,rfl,Grow.refl _,hI⟩
      simp only [h9]
      clear hd bel hI
      go_simp
    |11,ho=>
      obtain rfl:=Option.some.inj ho
      have h10:v 10=_:=(hd ⟨10,.data⟩ (by simp) rfl).2
      refine wpOp_call rfl rfl (f:=149) (args:= #[.slice none 0 0,.int .i64 n]) ?_ (fourN.calls n W) ?_
      · simp only [h10]
        kernel_rfl
      · rintro e w1 ⟨x,rfl,hP,hb1⟩
        exact ⟨x,rfl,_,rfl,hP,Grow.of_below hb1,bel hb1⟩
    |12,ho=>
      obtain rfl:=Option.some.inj ho
      have h4:=(hd ⟨4,.data⟩ (by simp) rfl).2
      have h6:=(hd ⟨6,.data⟩ (by simp) rfl).2
      have h11:=(hd ⟨11,.data⟩ (by simp) rfl).2
      have hCC:=pieces3 h4 h6 h11
      obtain ⟨A4,c4,e4,_,_⟩:=h4
      obtain ⟨A6,c6,e6,_,_⟩:=h6
      obtain ⟨A11,c11,e11,_,_⟩:=h11
      rw [e4,e6,e11] at hCC
      refine wpOp_value rfl rfl (v:= .slice (some ⟨W.heap.size,0,none⟩) 3 3) (w':=W.alloc (.cells #[.slice A4 (bytesOf st).length c4,.slice A6 drawB.length c6,.slice A11 (fourB n).length c11] 25)) ?_ ⟨_,rfl,⟨_,rfl,hCC⟩,Grow.alloc _ _,bel (bwA (Below.refl _ _) _)⟩
      simp only [e4,e6,e11]
      clear hd bel hI
      go_simp
    |13,ho=>
      obtain rfl:=Option.some.inj ho
      obtain ⟨g12,e12,h12⟩:=(hd ⟨12,.data⟩ (by simp) rfl).2
      refine wpOp_call rfl rfl (f:=88) (args:= #[.slice (some ⟨g12,0,none⟩) 3 3]) ?_ (hashI.calls (some ⟨g12,0,none⟩) 3 3 [bytesOf st,drawB,fourB n] W h12 HL.out.1 HL.out.2) ?_
      · simp only [e12]
        kernel_rfl
      · rintro e w1 ⟨he,hb1⟩
        rw [HCAT.out] at he
        exact ⟨_,he,_,rfl,rfl,Grow.of_below hb1,bel hb1⟩
    |14,ho=>
      obtain rfl:=Option.some.inj ho
      have h13:v 13=_:=(hd ⟨13,.data⟩ (by simp) rfl).2
      have hcv2:=fun W=> print_bytes (P:=Try.prog) 9 25 5 Try.underlying9 Try.underlying25 Try.underlying5 R W
      have hp:=MRow.of_bytes W R (by omega)
      have hge:32 ≤ grownCap W R.size 0 5:=by have:=grownCap_ge W R.size 0 5;omega
      have hp:=hp.reads
      rw [bytesOf_length,hRs] at hp
      refine wpOp_value rfl rfl (v:= .slice (some ⟨W.heap.size,0,none⟩) R.size (grownCap W R.size 0 5)) (w':=Lib.bytesWorld W 5 R) ?_ ⟨_,rfl,⟨_,_,congrArg (fun n=> Value.slice (some ⟨W.heap.size,0,none⟩) n (grownCap W R.size 0 5)) hRs,hge,hsz1,hp⟩,Grow.bytes _ _ _,bel (bytes_below (Below.refl _ _) (Nat.le_refl _) 5 R)⟩
      simp only [h13]
      clear hRs hd hI
      go_simp
    |15,ho=>
      obtain rfl:=Option.some.inj ho
      obtain ⟨g,c,e14,h1,h2,h3⟩:=(hd ⟨14,.data⟩ (by simp) rfl).2
      refine wpOp_value rfl rfl (v:= .slice (some ⟨g,0,none⟩) 32 c) (w':=W) ?_ ⟨_,rfl,⟨g,c,rfl,h1,h2,h3⟩,Grow.refl _,hI⟩
      simp only [e14]
      kernel_rfl
    |k + 16,ho=> cases ho
  case last=>
    intro listed v W hall hI hF
    obtain ⟨gh,ch,e15,hc,hgh,hC⟩:=hF 15 (by simp)
    have hsz0:w.heap.size ≤ w1.heap.size:=DI.out.2.1.1
    have hneg:gh ≠ g:=by omega
    have hI:=hI.1
    have hDB:bytesOf R=drawH st n:=by
      rw [HR.out]
      exact bytesOf_strOfNums (drawH_in _ _)
    rw [hDB] at hC
    simp only [e15]
    clear e15 hF hall hDB hcv hRs
    generalize v 0=s0
    generalize v 1=s1
    generalize v 2=s2
    generalize v 3=s3
    generalize v 4=s4
    generalize v 5=s5
    generalize v 6=s6
    generalize v 7=s7
    generalize v 8=s8
    generalize v 9=s9
    generalize v 10=s10
    generalize v 11=s11
    generalize v 12=s12
    generalize v 13=s13
    generalize v 14=s14
    have q3:=hI.1.cell3
    have z3:=hI.1.frozen 3
    have DI2:=Aside0.mk (show drawI w B g (.slice A 0 c) at_ (n + 1) st 0 0 (W.setCell ⟨B,3,none⟩ (.int .i64 (n + 1))) from ⟨hI.1.set3 _,hI.2.1.set B 3 _ (.inl rfl),blk_far hI.2.2.1 (fun e=> hI.2.2.2.2 e.symm) _,hI.2.2.2⟩)
    have CH:=Aside0.mk (C_growB hC (fun ad e=> by cases e;show gh ≠ B;omega) (GrowB.set W 3 (.int .i64 (n + 1))))
    clear hI hC DI
    go_wp2
    clear q3 z3
    generalize W.setCell ⟨B,3,none⟩ (.int .i64 (n + 1))=W2 at DI2 CH ⊢
    have hDl:=drawH_length st n
    have hDi:=drawH_in st n
    generalize drawH st n=D at HX0 HX1 CH hDl hDi
    refine region_facts (by kernel_rfl) (by kernel_rfl) (fun v=> ⟨List.toArray (Value.pointer (some ⟨B,0,none⟩)::undef::Value.pointer (some ⟨g,0,none⟩)::Value.slice (some ⟨gh,0,none⟩) 32 ch::Value.pointer (some ⟨B,0,none⟩)::Value.pointer (some ⟨B,0,none⟩)::Value.pointer (some ⟨B,0,none⟩)::Value.slice A 0 c::Value.int .i64 0::Value.bool false::undef::undef::undef::undef::undef::undef::undef::undef::undef::undef::undef::undef::undef::undef::undef::undef::undef::undef::undef::undef::undef::undef::undef::undef::s0::s1::s2::s3::s4::s5::s6::s7::s8::s9::s10::s11::s12::s13::s14::Value.pointer (some ⟨B,0,none⟩)::Value.pointer (some ⟨B,0,none⟩)::Value.pointer (some ⟨B,3,none⟩)::Value.int .i64 n::Value.int .i64 (n + 1)::Value.pointer (some ⟨B,0,none⟩)::Value.pointer (some ⟨B,3,none⟩)::v 0::v 1::v 2::v 3::v 4::v 5::v 6:: []), []⟩)
      (fun k x w'=> match k with
        |0=> x= .slice (some ⟨gh,0,none⟩) 32 ch
        |1=> x= .slice (some ⟨gh,0,none⟩) 8 ch
        |2=> x= .int .i64 X0
        |3=> x= .slice (some ⟨gh,0,none⟩) 32 ch
        |4=> x= .slice (some ⟨gh,8,none⟩) 8 (ch - 8)
        |5=> x= .int .i64 X1
        |6=> x= .agg #[.int .i64 X0,.int .i64 X1]
        |_=> True)
      (fun listed w'=> drawI w B g (.slice A 0 c) at_ (n + 1) st (if listed.getD 7 false then X0 else 0) (if listed.getD 7 false then X1 else 0) w' ∧ (Kd.int .u8).C w' (some ⟨gh,0,none⟩) 32 D) (fun _ _=> True) (fun _=> undef) W2 ?mono ?start ?step ?last
    case mono=>
      intro k x w1 w2 h hg
      match k with
      |0=> exact h
      |1=> exact h
      |2=> exact h
      |3=> exact h
      |4=> exact h
      |5=> exact h
      |6=> exact h
      |k + 7=> exact trivial
    case start=> exact ⟨DI2.out.below (bwD (Below.refl _ _)),C_grow CH.out (Grow.of_below (bwD (Below.refl _ _)))⟩
    case step=>
      intro listed k o v W ho hs hl hC hd hI
      have hszs:listed.size=8:=hs
      have keep:k ≠ 7 → ∀ {W2:World},Below W.heap.size W W2 → drawI w B g (.slice A 0 c) at_ (n + 1) st (if (listed.setIfInBounds k true).getD 7 false then X0 else 0) (if (listed.setIfInBounds k true).getD 7 false then X1 else 0) W2 ∧ (Kd.int .u8).C W2 (some ⟨gh,0,none⟩) 32 D:=by
        intro h1 W2 h
        rw [getD_set_ne false h1]
        exact ⟨hI.1.below h,C_grow hI.2 (Grow.of_below h)⟩
      match k,ho with
      |0,ho=>
        obtain rfl:=Option.some.inj ho
        exact wpOp_value rfl rfl (v:= .slice (some ⟨gh,0,none⟩) 32 ch) (w':=W) (by kernel_rfl) ⟨_,rfl,rfl,trivial,keep (by decide) (Below.refl _ _)⟩
      |1,ho=>
        obtain rfl:=Option.some.inj ho
        have h0:v 0=_:=(hd ⟨0,.data⟩ (by simp) rfl).2
        have hsl:∀ w,(Instr.slice 25 (.slice (some ⟨gh,0,none⟩) 32 ch) none (some (.int .i64 8)) none).run Try.prog w= .ok (.slice (some ⟨gh,0,none⟩) 8 ch) w:=fun w=> slice_to _ 32 ch 8 (by omega) hc w
        refine wpOp_value rfl rfl (v:= .slice (some ⟨gh,0,none⟩) 8 ch) (w':=W) ?_ ⟨_,rfl,rfl,trivial,keep (by decide) (Below.refl _ _)⟩
        simp only [h0]
        clear keep hI hl hC hd
        go_simp
      |2,ho=>
        obtain rfl:=Option.some.inj ho
        have h1:v 1=_:=(hd ⟨1,.data⟩ (by simp) rfl).2
        refine wpOp_call rfl rfl (f:=163) (args:= #[.slice (some ⟨gh,0,none⟩) 8 ch]) ?_ (moduloN.calls (some ⟨gh,0,none⟩) ch 8 (D.take 8) W rfl (C_take hI.2 (by omega)) (by omega) (AllB.take hDi 8) (by rw [List.length_take];omega)) ?_
        · simp only [h1]
          kernel_rfl
        · rintro e w1 ⟨rfl,hb1⟩
          exact ⟨_,rfl,_,rfl,congrArg (Value.int .i64) HX0.out.symm,trivial,keep (by decide) hb1.below⟩
      |3,ho=>
        obtain rfl:=Option.some.inj ho
        exact wpOp_value rfl rfl (v:= .slice (some ⟨gh,0,none⟩) 32 ch) (w':=W) (by kernel_rfl) ⟨_,rfl,rfl,trivial,keep (by decide) (Below.refl _ _)⟩
      |4,ho=>
        obtain rfl:=Option.some.inj ho
        have h3:v 3=_:=(hd ⟨3,.data⟩ (by simp) rfl).2
        have hsl:∀ w,(Instr.slice 25 (.slice (some ⟨gh,0,none⟩) 32 ch) (some (.int .i64 8)) (some (.int .i64 16)) none).run Try.prog w= .ok (.slice (some ⟨gh,8,none⟩) 8 (ch - 8)) w:=fun w=> slice_mid gh 32 ch 8 16 (by omega) (by omega) hc w
        refine wpOp_value rfl rfl (v:= .slice (some ⟨gh,8,none⟩) 8 (ch - 8)) (w':=W) ?_ ⟨_,rfl,rfl,trivial,keep (by decide) (Below.refl _ _)⟩
        simp only [h3]
        clear keep hI hl hC hd
        go_simp
      |5,ho=>
        obtain rfl:=Option.some.inj ho
        have h4:v 4=_:=(hd ⟨4,.data⟩ (by simp) rfl).2
        refine wpOp_call rfl rfl (f:=163) (args:= #[.slice (some ⟨gh,8,none⟩) 8 (ch - 8)]) ?_ (moduloN.calls (some ⟨gh,8,none⟩) (ch - 8) 8 ((D.drop 8).take 8) W rfl (C_part hI.2 8 8 (by omega)) (by omega) (AllB.take (AllB.drop hDi 8) 8) (by rw [List.length_take,List.length_drop];omega)) ?_
        · simp only [h4]
          kernel_rfl
        · rintro e w1 ⟨rfl,hb1⟩
          exact ⟨_,rfl,_,rfl,congrArg (Value.int .i64) HX1.out.symm,trivial,keep (by decide) hb1.below⟩
      |6,ho=>
        obtain rfl:=Option.some.inj ho
        have h2:v 2=_:=(hd ⟨2,.data⟩ (by simp) rfl).2
        have h5:v 5=_:=(hd ⟨5,.data⟩ (by simp) rfl).2
        refine wpOp_value rfl rfl (v:= .agg #[.int .i64 X0,.int .i64 X1]) (w':=W) ?_ ⟨_,rfl,rfl,trivial,keep (by decide) (Below.refl _ _)⟩
        simp only [h2,h5]
        clear keep hI hl hC hd
        first|kernel_rfl|(go_simp;rfl)|go_simp
      |7,ho=>
        obtain rfl:=Option.some.inj ho
        have h6:v 6=_:=(hd ⟨6,.data⟩ (by simp) rfl).2
        have hbg:=hI.1.2.2.1
        rw [hl] at hbg
        have p0:W.cell? ⟨g,0,none⟩=some (.int .i64 0):=(blk_cell hbg 0).trans rfl
        have p1:W.cell? ⟨g,1,none⟩=some (.int .i64 0):=(blk_cell hbg 1).trans rfl
        have z0:=blk_frozen hbg 0
        have z1:=blk_frozen hbg 1
        have hnn:=hI.1.2.2.2
        refine wpOp_skip rfl rfl rfl (w':=(W.setCell ⟨g,0,none⟩ (.int .i64 X0)).setCell ⟨g,1,none⟩ (.int .i64 X1)) ?_ ⟨undef,rfl,trivial,trivial,?_⟩
        · simp only [h6]
          clear keep hI hl hC hd hbg hnn
          go_simp
        · have e1:(listed.setIfInBounds 7 true).getD 7 false=true:=by
            simp [Array.getD_eq_getD_getElem?,Array.getElem?_setIfInBounds_self_of_lt (show 7 < listed.size by omega)]
          rw [e1]
          have hCg:=C_growB (B:=g) hI.2 (fun ad e=> by cases e;exact hneg) ((GrowB.set W 0 (.int .i64 X0)).trans (GrowB.set _ 1 (.int .i64 X1)))
          refine ⟨⟨(hI.1.1.far hnn.2 0 _).far hnn.2 1 _,(hI.1.2.1.set g 0 _ (.inr hnn.1)).set g 1 _ (.inr hnn.1),blk_put (blk_put hbg 0 _ rfl) 1 _ rfl,hnn⟩,hCg⟩
      |k + 8,ho=> cases ho
    case last=>
      intro listed v W hall hI hF
      have h7:=hall 7 (by decide)
      rw [h7] at hI
      have HI:=Aside0.mk hI
      clear hI hF hall h7
      go_wp2
      have hI:=HI.out
      refine bodyPost_ret (results_cell_row rfl _ _ g 79 #[.int .i64 X0,.int .i64 X1] (0,0) _ rfl hI.1.2.2.1 Try.underlying79 rfl (by kernel_rfl)) rfl ?_
      exact ⟨rfl,hI.1.1,hI.1.2.1⟩
end Go.Proofs.Ytlogocmojnhpbaa.Print
namespace Go.Proofs.Ytlogocmojnhpbaa.Print
open Go.RowKit Go.Proofs.YtlogocmojnhpbaaW.PrintWords Go.Proofs.YtlogocmojnhpbaaW.PrintLast Go.Proofs.YtlogocmojnhpbaaW.PrintMore
attribute [local go_sem] max2_int min2_int max_two min_two max_three min_three max_four min_four
set_option linter.unusedVariables false
set_option linter.unusedSimpArgs false
def impl_isHash.f (a0:ByteArray):Option (Bool):=some ((a0.size:Int)==32)
set_option maxHeartbeats 8000000 in
set_option maxRecDepth 100000 in
theorem impl_isHash.calls (a0:ByteArray) (r:Bool) (w:World) (h:impl_isHash.f a0=some r):
    Calls Try.prog 93 #[.string a0] w fun e w'=> e= .returned (.bool r) ∧ Drawn0 w w':=by
  have H:(some ((a0.size:Int)==32))=some r:=h
  clear h
  obtain rfl:=Option.some.inj H
  go_enter Try.func93,Try.ntmps93
  go_wp2
  go_ret
  exact ⟨by first|rfl|(simp;done)|(simp [*];done),by repeat (first|exact Drawn0.refl _|apply Drawn0.step)⟩
def impl_SourceOK.f (l0_0:List (S79)) (a0_1:Int) (a0_2:ByteArray) (a0_3:Int):Option (Bool):=if (l0_0.length:Int) ≤ 64 then ((are_Ext.f l0_0).bind fun t328=> (if t328=true then ((impl_isHash.f a0_2).bind fun t329=> (if t329=true then ((impl_in.f a0_1 0 1000000).bind fun t330=> (if t330=true then ((impl_in.f a0_3 0 1000000).bind fun t331=> (some t331)) else (some false))) else (some false))) else (some false))) else (some false)
set_option maxHeartbeats 8000000 in
set_option maxRecDepth 100000 in
theorem impl_SourceOK.calls (A0_0:Option Addr) (c0_0:Nat) (l0_0:List (S79)) (a0_1:Int) (a0_2:ByteArray) (a0_3:Int) (r:Bool) (w:World) (hr0_0:Kd.C k79 w A0_0 l0_0.length l0_0) (hc0_0:l0_0.length ≤ c0_0) (h:impl_SourceOK.f l0_0 a0_1 a0_2 a0_3=some r):
    Calls Try.prog 116 #[.agg #[.slice A0_0 l0_0.length c0_0,.int .i64 a0_1,.string a0_2,.int .i64 a0_3]] w fun e w'=> e= .returned (.bool r) ∧ Below w.heap.size w w':=by
  have hu36:=Try.underlying36
  have HR0_0:=Aside0.mk hr0_0
  have HC0_0:=Aside0.mk hc0_0
  clear hr0_0 hc0_0
  have HB:=Aside0.mk (Below.refl w.heap.size w)
  have H:(if (l0_0.length:Int) ≤ 64 then ((are_Ext.f l0_0).bind fun t328=> (if t328=true then ((impl_isHash.f a0_2).bind fun t329=> (if t329=true then ((impl_in.f a0_1 0 1000000).bind fun t330=> (if t330=true then ((impl_in.f a0_3 0 1000000).bind fun t331=> (some t331)) else (some false))) else (some false))) else (some false))) else (some false))=some r:=h
  clear h
  by_cases c2:(l0_0.length:Int) ≤ 64
  · rw [if_pos c2] at H
    have c2b0:decide ((l0_0.length:Int) ≤ 64)=true:=decide_eq_true c2
    have c2b1:decide (l0_0.length ≤ 64)=true:=decide_eq_true (by omega)
    clear c2
    replace H:=Option.bind_eq_some_iff.mp H
    obtain ⟨t328,A30,H⟩:=H
    replace H:(if t328=true then ((impl_isHash.f a0_2).bind fun t329=> (if t329=true then ((impl_in.f a0_1 0 1000000).bind fun t330=> (if t330=true then ((impl_in.f a0_3 0 1000000).bind fun t331=> (some t331)) else (some false))) else (some false))) else (some false))=some r:=H
    have A3:=Aside0.mk A30
    clear A30
    by_cases c4:t328=true
    · subst c4
      have H1:((impl_isHash.f a0_2).bind fun t329=> (if t329=true then ((impl_in.f a0_1 0 1000000).bind fun t330=> (if t330=true then ((impl_in.f a0_3 0 1000000).bind fun t331=> (some t331)) else (some false))) else (some false)))=some r:=by rw [if_pos rfl] at H;exact H
      clear H
      have H:=H1
      clear H1
      replace H:=Option.bind_eq_some_iff.mp H
      obtain ⟨t329,A50,H⟩:=H
      replace H:(if t329=true then ((impl_in.f a0_1 0 1000000).bind fun t330=> (if t330=true then ((impl_in.f a0_3 0 1000000).bind fun t331=> (some t331)) else (some false))) else (some false))=some r:=H
      have A5:=Aside0.mk A50
      clear A50
      by_cases c6:t329=true
      · subst c6
        have H1:((impl_in.f a0_1 0 1000000).bind fun t330=> (if t330=true then ((impl_in.f a0_3 0 1000000).bind fun t331=> (some t331)) else (some false)))=some r:=by rw [if_pos rfl] at H;exact H
        clear H
        have H:=H1
        clear H1
        replace H:=Option.bind_eq_some_iff.mp H
        obtain ⟨t330,A70,H⟩:=H
        replace H:(if t330=true then ((impl_in.f a0_3 0 1000000).bind fun t331=> (some t331)) else (some false))=some r:=H
        have A7:=Aside0.mk A70
        clear A70
        by_cases c8:t330=true
        · subst c8
          have H1:((impl_in.f a0_3 0 1000000).bind fun t331=> (some t331))=some r:=by rw [if_pos rfl] at H;exact H
          clear H
          have H:=H1
          clear H1
          replace H:=Option.bind_eq_some_iff.mp H
          obtain ⟨t331,A90,H⟩:=H
          replace H:(some t331)=some r:=H
          have A9:=Aside0.mk A90
          clear A90
          obtain rfl:=Option.some.inj H
          go_enter Try.func116,Try.ntmps116
          go_wp2_with (first|((with_reducible refine gate_dst (N:=1) rfl ?_);refine box_event ?hg (N:=1) ?hd (cs:= #[.slice A0_0 l0_0.length c0_0,.int .i64 a0_1,.string a0_2,.int .i64 a0_3]) (t:=36) ?hr ?_;(case hd=> rfl);(case hg=> rfl);(case hr=> first|(go_simp;done)|(go_simp;rfl));intro gb327 hg w10 hbox hb;have n0_:=Aside0.mk (below_step (by repeat (first|(with_reducible first|exact HB.out|apply bwA|apply bwN|apply bwD)|exact HB.out)) hb);have n1_:=Aside0.mk (hbox);have n2_:=Aside0.mk ((by rw [hg];exact (below_size (by repeat (first|(with_reducible first|exact HB.out|apply bwA|apply bwN|apply bwD)|exact HB.out))):w.heap.size ≤ gb327));have n3_:=Aside0.mk ((by rw [hg];exact (below_size (by repeat (first|(with_reducible first|exact HB.out|apply bwA|apply bwN|apply bwD)|exact HB.out))):w.heap.size ≤ gb327));clear HB;have HB:=n0_;have BK327:=n1_;have GW327:=n2_;have GE327:=n3_;clear n0_ n1_ n2_ n3_;clear hb hbox hg;have hcz11_0:w10.cell? ⟨gb327,0,none⟩=some (.slice A0_0 l0_0.length c0_0):=(blk_cell BK327.out 0).trans rfl;have hcz11_1:w10.cell? ⟨gb327,1,none⟩=some (.int .i64 a0_1):=(blk_cell BK327.out 1).trans rfl;have hcz11_2:w10.cell? ⟨gb327,2,none⟩=some (.string a0_2):=(blk_cell BK327.out 2).trans rfl;have hcz11_3:w10.cell? ⟨gb327,3,none⟩=some (.int .i64 a0_3):=(blk_cell BK327.out 3).trans rfl;have hfz11_0:=blk_frozen BK327.out 0;have hfz11_1:=blk_frozen BK327.out 1;have hfz11_2:=blk_frozen BK327.out 2;have hfz11_3:=blk_frozen BK327.out 3)|(go_at_call 122;(with_reducible refine (are_Ext.calls _ _ l0_0 true _ ?side1 ?side2 A3.out).mono ?_);(case side1=> repeat (first|exact (Kd.C_below HR0_0.out HB.out)|(with_reducible refine Kd.C_alloc ?_ _)|(with_reducible refine Kd.C_drewN ?_ _)|(with_reducible refine Kd.C_drew ?_)));(case side2=> exact HC0_0.out);rintro e w12 ⟨rfl,hb⟩;have n0_:=Aside0.mk (blk_below (g:=gb327) (o:= .cells #[.slice A0_0 l0_0.length c0_0,.int .i64 a0_1,.string a0_2,.int .i64 a0_3] 36 (0,0)) (by (with_reducible repeat (first|apply bN|apply bd|apply bA));exact BK327.out) hb);have n1_:=Aside0.mk (below_step (by repeat (first|(with_reducible first|exact HB.out|apply bwA|apply bwN|apply bwD|refine bwS ?_ GE327.out)|exact HB.out)) hb);clear BK327;clear HB;have BK327:=n0_;have HB:=n1_;clear n0_ n1_;(try clear hb);(try clear hb2);(try clear hk);(try clear hi);have hcz13_0:w12.cell? ⟨gb327,0,none⟩=some (.slice A0_0 l0_0.length c0_0):=(blk_cell BK327.out 0).trans rfl;have hcz13_1:w12.cell? ⟨gb327,1,none⟩=some (.int .i64 a0_1):=(blk_cell BK327.out 1).trans rfl;have hcz13_2:w12.cell? ⟨gb327,2,none⟩=some (.string a0_2):=(blk_cell BK327.out 2).trans rfl;have hcz13_3:w12.cell? ⟨gb327,3,none⟩=some (.int .i64 a0_3):=(blk_cell BK327.out 3).trans rfl;have hfz13_0:=blk_frozen BK327.out 0;have hfz13_1:=blk_frozen BK327.out 1;have hfz13_2:=blk_frozen BK327.out 2;have hfz13_3:=blk_frozen BK327.out 3)|(go_at_call 93;(with_reducible refine (impl_isHash.calls a0_2 true _ A5.out).mono ?_);rintro e w' ⟨rfl,⟨nd,rfl⟩⟩)|(go_at_call 95;(with_reducible refine (impl_in.calls a0_1 0 1000000 true _ A7.out).mono ?_);rintro e w' ⟨rfl,⟨nd,rfl⟩⟩)|(go_at_call 95;(with_reducible refine (impl_in.calls a0_3 0 1000000 t331 _ A9.out).mono ?_);rintro e w' ⟨rfl,⟨nd,rfl⟩⟩))
          go_ret
          exact ⟨by first|rfl|(simp [errW_none,errW_some] <;> rfl)|(simp [*,errW_none,errW_some] <;> rfl),by repeat (first|(with_reducible first|exact HB.out|apply bwA|apply bwN|apply bwD|refine bwS ?_ GE327.out)|exact HB.out)⟩
        · replace c8:=Bool.eq_false_iff.mpr c8
          subst c8
          have H1:(some false)=some r:=by rw [if_neg (show ¬ (false=true) by decide)] at H;exact H
          clear H
          have H:=H1
          clear H1
          obtain rfl:=Option.some.inj H
          go_enter Try.func116,Try.ntmps116
          go_wp2_with (first|((with_reducible refine gate_dst (N:=1) rfl ?_);refine box_event ?hg (N:=1) ?hd (cs:= #[.slice A0_0 l0_0.length c0_0,.int .i64 a0_1,.string a0_2,.int .i64 a0_3]) (t:=36) ?hr ?_;(case hd=> rfl);(case hg=> rfl);(case hr=> first|(go_simp;done)|(go_simp;rfl));intro gb327 hg w14 hbox hb;have n0_:=Aside0.mk (below_step (by repeat (first|(with_reducible first|exact HB.out|apply bwA|apply bwN|apply bwD)|exact HB.out)) hb);have n1_:=Aside0.mk (hbox);have n2_:=Aside0.mk ((by rw [hg];exact (below_size (by repeat (first|(with_reducible first|exact HB.out|apply bwA|apply bwN|apply bwD)|exact HB.out))):w.heap.size ≤ gb327));have n3_:=Aside0.mk ((by rw [hg];exact (below_size (by repeat (first|(with_reducible first|exact HB.out|apply bwA|apply bwN|apply bwD)|exact HB.out))):w.heap.size ≤ gb327));clear HB;have HB:=n0_;have BK327:=n1_;have GW327:=n2_;have GE327:=n3_;clear n0_ n1_ n2_ n3_;clear hb hbox hg;have hcz15_0:w14.cell? ⟨gb327,0,none⟩=some (.slice A0_0 l0_0.length c0_0):=(blk_cell BK327.out 0).trans rfl;have hcz15_1:w14.cell? ⟨gb327,1,none⟩=some (.int .i64 a0_1):=(blk_cell BK327.out 1).trans rfl;have hcz15_2:w14.cell? ⟨gb327,2,none⟩=some (.string a0_2):=(blk_cell BK327.out 2).trans rfl;have hcz15_3:w14.cell? ⟨gb327,3,none⟩=some (.int .i64 a0_3):=(blk_cell BK327.out 3).trans rfl;have hfz15_0:=blk_frozen BK327.out 0;have hfz15_1:=blk_frozen BK327.out 1;have hfz15_2:=blk_frozen BK327.out 2;have hfz15_3:=blk_frozen BK327.out 3)|(go_at_call 122;(with_reducible refine (are_Ext.calls _ _ l0_0 true _ ?side1 ?side2 A3.out).mono ?_);(case side1=> repeat (first|exact (Kd.C_below HR0_0.out HB.out)|(with_reducible refine Kd.C_alloc ?_ _)|(with_reducible refine Kd.C_drewN ?_ _)|(with_reducible refine Kd.C_drew ?_)));(case side2=> exact HC0_0.out);rintro e w16 ⟨rfl,hb⟩;have n0_:=Aside0.mk (blk_below (g:=gb327) (o:= .cells #[.slice A0_0 l0_0.length c0_0,.int .i64 a0_1,.string a0_2,.int .i64 a0_3] 36 (0,0)) (by (with_reducible repeat (first|apply bN|apply bd|apply bA));exact BK327.out) hb);have n1_:=Aside0.mk (below_step (by repeat (first|(with_reducible first|exact HB.out|apply bwA|apply bwN|apply bwD|refine bwS ?_ GE327.out)|exact HB.out)) hb);clear BK327;clear HB;have BK327:=n0_;have HB:=n1_;clear n0_ n1_;(try clear hb);(try clear hb2);(try clear hk);(try clear hi);have hcz17_0:w16.cell? ⟨gb327,0,none⟩=some (.slice A0_0 l0_0.length c0_0):=(blk_cell BK327.out 0).trans rfl;have hcz17_1:w16.cell? ⟨gb327,1,none⟩=some (.int .i64 a0_1):=(blk_cell BK327.out 1).trans rfl;have hcz17_2:w16.cell? ⟨gb327,2,none⟩=some (.string a0_2):=(blk_cell BK327.out 2).trans rfl;have hcz17_3:w16.cell? ⟨gb327,3,none⟩=some (.int .i64 a0_3):=(blk_cell BK327.out 3).trans rfl;have hfz17_0:=blk_frozen BK327.out 0;have hfz17_1:=blk_frozen BK327.out 1;have hfz17_2:=blk_frozen BK327.out 2;have hfz17_3:=blk_frozen BK327.out 3)|(go_at_call 93;(with_reducible refine (impl_isHash.calls a0_2 true _ A5.out).mono ?_);rintro e w' ⟨rfl,⟨nd,rfl⟩⟩)|(go_at_call 95;(with_reducible refine (impl_in.calls a0_1 0 1000000 false _ A7.out).mono ?_);rintro e w' ⟨rfl,⟨nd,rfl⟩⟩))
          go_ret
          exact ⟨by first|rfl|(simp [errW_none,errW_some] <;> rfl)|(simp [*,errW_none,errW_some] <;> rfl),by repeat (first|(with_reducible first|exact HB.out|apply bwA|apply bwN|apply bwD|refine bwS ?_ GE327.out)|exact HB.out)⟩
      · replace c6:=Bool.eq_false_iff.mpr c6
        subst c6
        have H1:(some false)=some r:=by rw [if_neg (show ¬ (false=true) by decide)] at H;exact H
        clear H
        have H:=H1
        clear H1
        obtain rfl:=Option.some.inj H
        go_enter Try.func116,Try.ntmps116
        go_wp2_with (first|((with_reducible refine gate_dst (N:=1) rfl ?_);refine box_event ?hg (N:=1) ?hd (cs:= #[.slice A0_0 l0_0.length c0_0,.int .i64 a0_1,.string a0_2,.int .i64 a0_3]) (t:=36) ?hr ?_;(case hd=> rfl);(case hg=> rfl);(case hr=> first|(go_simp;done)|(go_simp;rfl));intro gb327 hg w18 hbox hb;have n0_:=Aside0.mk (below_step (by repeat (first|(with_reducible first|exact HB.out|apply bwA|apply bwN|apply bwD)|exact HB.out)) hb);have n1_:=Aside0.mk (hbox);have n2_:=Aside0.mk ((by rw [hg];exact (below_size (by repeat (first|(with_reducible first|exact HB.out|apply bwA|apply bwN|apply bwD)|exact HB.out))):w.heap.size ≤ gb327));have n3_:=Aside0.mk ((by rw [hg];exact (below_size (by repeat (first|(with_reducible first|exact HB.out|apply bwA|apply bwN|apply bwD)|exact HB.out))):w.heap.size ≤ gb327));clear HB;have HB:=n0_;have BK327:=n1_;have GW327:=n2_;have GE327:=n3_;clear n0_ n1_ n2_ n3_;clear hb hbox hg;have hcz19_0:w18.cell? ⟨gb327,0,none⟩=some (.slice A0_0 l0_0.length c0_0):=(blk_cell BK327.out 0).trans rfl;have hcz19_1:w18.cell? ⟨gb327,1,none⟩=some (.int .i64 a0_1):=(blk_cell BK327.out 1).trans rfl;have hcz19_2:w18.cell? ⟨gb327,2,none⟩=some (.string a0_2):=(blk_cell BK327.out 2).trans rfl;have hcz19_3:w18.cell? ⟨gb327,3,none⟩=some (.int .i64 a0_3):=(blk_cell BK327.out 3).trans rfl;have hfz19_0:=blk_frozen BK327.out 0;have hfz19_1:=blk_frozen BK327.out 1;have hfz19_2:=blk_frozen BK327.out 2;have hfz19_3:=blk_frozen BK327.out 3)|(go_at_call 122;(with_reducible refine (are_Ext.calls _ _ l0_0 true _ ?side1 ?side2 A3.out).mono ?_);(case side1=> repeat (first|exact (Kd.C_below HR0_0.out HB.out)|(with_reducible refine Kd.C_alloc ?_ _)|(with_reducible refine Kd.C_drewN ?_ _)|(with_reducible refine Kd.C_drew ?_)));(case side2=> exact HC0_0.out);rintro e w20 ⟨rfl,hb⟩;have n0_:=Aside0.mk (blk_below (g:=gb327) (o:= .cells #[.slice A0_0 l0_0.length c0_0,.int .i64 a0_1,.string a0_2,.int .i64 a0_3] 36 (0,0)) (by (with_reducible repeat (first|apply bN|apply bd|apply bA));exact BK327.out) hb);have n1_:=Aside0.mk (below_step (by repeat (first|(with_reducible first|exact HB.out|apply bwA|apply bwN|apply bwD|refine bwS ?_ GE327.out)|exact HB.out)) hb);clear BK327;clear HB;have BK327:=n0_;have HB:=n1_;clear n0_ n1_;(try clear hb);(try clear hb2);(try clear hk);(try clear hi);have hcz21_0:w20.cell? ⟨gb327,0,none⟩=some (.slice A0_0 l0_0.length c0_0):=(blk_cell BK327.out 0).trans rfl;have hcz21_1:w20.cell? ⟨gb327,1,none⟩=some (.int .i64 a0_1):=(blk_cell BK327.out 1).trans rfl;have hcz21_2:w20.cell? ⟨gb327,2,none⟩=some (.string a0_2):=(blk_cell BK327.out 2).trans rfl;have hcz21_3:w20.cell? ⟨gb327,3,none⟩=some (.int .i64 a0_3):=(blk_cell BK327.out 3).trans rfl;have hfz21_0:=blk_frozen BK327.out 0;have hfz21_1:=blk_frozen BK327.out 1;have hfz21_2:=blk_frozen BK327.out 2;have hfz21_3:=blk_frozen BK327.out 3)|(go_at_call 93;(with_reducible refine (impl_isHash.calls a0_2 false _ A5.out).mono ?_);rintro e w' ⟨rfl,⟨nd,rfl⟩⟩))
        go_ret
        exact ⟨by first|rfl|(simp [errW_none,errW_some] <;> rfl)|(simp [*,errW_none,errW_some] <;> rfl),by repeat (first|(with_reducible first|exact HB.out|apply bwA|apply bwN|apply bwD|refine bwS ?_ GE327.out)|exact HB.out)⟩
    · replace c4:=Bool.eq_false_iff.mpr c4
      subst c4
      have H1:(some false)=some r:=by rw [if_neg (show ¬ (false=true) by decide)] at H;exact H
      clear H
      have H:=H1
      clear H1
      obtain rfl:=Option.some.inj H
      go_enter Try.func116,Try.ntmps116
      go_wp2_with (first|((with_reducible refine gate_dst (N:=1) rfl ?_);refine box_event ?hg (N:=1) ?hd (cs:= #[.slice A0_0 l0_0.length c0_0,.int .i64 a0_1,.string a0_2,.int .i64 a0_3]) (t:=36) ?hr ?_;(case hd=> rfl);(case hg=> rfl);(case hr=> first|(go_simp;done)|(go_simp;rfl));intro gb327 hg w22 hbox hb;have n0_:=Aside0.mk (below_step (by repeat (first|(with_reducible first|exact HB.out|apply bwA|apply bwN|apply bwD)|exact HB.out)) hb);have n1_:=Aside0.mk (hbox);have n2_:=Aside0.mk ((by rw [hg];exact (below_size (by repeat (first|(with_reducible first|exact HB.out|apply bwA|apply bwN|apply bwD)|exact HB.out))):w.heap.size ≤ gb327));have n3_:=Aside0.mk ((by rw [hg];exact (below_size (by repeat (first|(with_reducible first|exact HB.out|apply bwA|apply bwN|apply bwD)|exact HB.out))):w.heap.size ≤ gb327));clear HB;have HB:=n0_;have BK327:=n1_;have GW327:=n2_;have GE327:=n3_;clear n0_ n1_ n2_ n3_;clear hb hbox hg;have hcz23_0:w22.cell? ⟨gb327,0,none⟩=some (.slice A0_0 l0_0.length c0_0):=(blk_cell BK327.out 0).trans rfl;have hcz23_1:w22.cell? ⟨gb327,1,none⟩=some (.int .i64 a0_1):=(blk_cell BK327.out 1).trans rfl;have hcz23_2:w22.cell? ⟨gb327,2,none⟩=some (.string a0_2):=(blk_cell BK327.out 2).trans rfl;have hcz23_3:w22.cell? ⟨gb327,3,none⟩=some (.int .i64 a0_3):=(blk_cell BK327.out 3).trans rfl;have hfz23_0:=blk_frozen BK327.out 0;have hfz23_1:=blk_frozen BK327.out 1;have hfz23_2:=blk_frozen BK327.out 2;have hfz23_3:=blk_frozen BK327.out 3)|(go_at_call 122;(with_reducible refine (are_Ext.calls _ _ l0_0 false _ ?side1 ?side2 A3.out).mono ?_);(case side1=> repeat (first|exact (Kd.C_below HR0_0.out HB.out)|(with_reducible refine Kd.C_alloc ?_ _)|(with_reducible refine Kd.C_drewN ?_ _)|(with_reducible refine Kd.C_drew ?_)));(case side2=> exact HC0_0.out);rintro e w24 ⟨rfl,hb⟩;have n0_:=Aside0.mk (blk_below (g:=gb327) (o:= .cells #[.slice A0_0 l0_0.length c0_0,.int .i64 a0_1,.string a0_2,.int .i64 a0_3] 36 (0,0)) (by (with_reducible repeat (first|apply bN|apply bd|apply bA));exact BK327.out) hb);have n1_:=Aside0.mk (below_step (by repeat (first|(with_reducible first|exact HB.out|apply bwA|apply bwN|apply bwD|refine bwS ?_ GE327.out)|exact HB.out)) hb);clear BK327;clear HB;have BK327:=n0_;have HB:=n1_;clear n0_ n1_;(try clear hb);(try clear hb2);(try clear hk);(try clear hi)))
      go_ret
      exact ⟨by first|rfl|(simp [errW_none,errW_some] <;> rfl)|(simp [*,errW_none,errW_some] <;> rfl),by repeat (first|(with_reducible first|exact HB.out|apply bwA|apply bwN|apply bwD|refine bwS ?_ GE327.out)|exact HB.out)⟩
  · rw [if_neg c2] at H
    have c2b0:decide ((l0_0.length:Int) ≤ 64)=false:=decide_eq_false c2
    have c2b1:decide (l0_0.length ≤ 64)=false:=decide_eq_false (by omega)
    clear c2
    obtain rfl:=Option.some.inj H
    go_enter Try.func116,Try.ntmps116
    go_wp2_with (first|((with_reducible refine gate_dst (N:=1) rfl ?_);refine box_event ?hg (N:=1) ?hd (cs:= #[.slice A0_0 l0_0.length c0_0,.int .i64 a0_1,.string a0_2,.int .i64 a0_3]) (t:=36) ?hr ?_;(case hd=> rfl);(case hg=> rfl);(case hr=> first|(go_simp;done)|(go_simp;rfl));intro gb327 hg w25 hbox hb;have n0_:=Aside0.mk (below_step (by repeat (first|(with_reducible first|exact HB.out|apply bwA|apply bwN|apply bwD)|exact HB.out)) hb);have n1_:=Aside0.mk (hbox);have n2_:=Aside0.mk ((by rw [hg];exact (below_size (by repeat (first|(with_reducible first|exact HB.out|apply bwA|apply bwN|apply bwD)|exact HB.out))):w.heap.size ≤ gb327));have n3_:=Aside0.mk ((by rw [hg];exact (below_size (by repeat (first|(with_reducible first|exact HB.out|apply bwA|apply bwN|apply bwD)|exact HB.out))):w.heap.size ≤ gb327));clear HB;have HB:=n0_;have BK327:=n1_;have GW327:=n2_;have GE327:=n3_;clear n0_ n1_ n2_ n3_;clear hb hbox hg;have hcz26_0:w25.cell? ⟨gb327,0,none⟩=some (.slice A0_0 l0_0.length c0_0):=(blk_cell BK327.out 0).trans rfl;have hcz26_1:w25.cell? ⟨gb327,1,none⟩=some (.int .i64 a0_1):=(blk_cell BK327.out 1).trans rfl;have hcz26_2:w25.cell? ⟨gb327,2,none⟩=some (.string a0_2):=(blk_cell BK327.out 2).trans rfl;have hcz26_3:w25.cell? ⟨gb327,3,none⟩=some (.int .i64 a0_3):=(blk_cell BK327.out 3).trans rfl;have hfz26_0:=blk_frozen BK327.out 0;have hfz26_1:=blk_frozen BK327.out 1;have hfz26_2:=blk_frozen BK327.out 2;have hfz26_3:=blk_frozen BK327.out 3))
    go_ret
    exact ⟨by first|rfl|(simp [errW_none,errW_some] <;> rfl)|(simp [*,errW_none,errW_some] <;> rfl),by repeat (first|(with_reducible first|exact HB.out|apply bwA|apply bwN|apply bwD|refine bwS ?_ GE327.out)|exact HB.out)⟩
def impl_Source_left.f (l0_0:List (S79)) (a0_1:Int) (a0_2:ByteArray) (a0_3:Int):Option (Int):=some (wrap64 (1000000 - (mx a0_1 a0_3)))
set_option maxHeartbeats 8000000 in
set_option maxRecDepth 100000 in
theorem impl_Source_left.calls (A0_0:Option Addr) (c0_0:Nat) (l0_0:List (S79)) (a0_1:Int) (a0_2:ByteArray) (a0_3:Int) (r:Int) (w:World) (hr0_0:Kd.C k79 w A0_0 l0_0.length l0_0) (hc0_0:l0_0.length ≤ c0_0) (h:impl_Source_left.f l0_0 a0_1 a0_2 a0_3=some r):
    Calls Try.prog 134 #[.agg #[.slice A0_0 l0_0.length c0_0,.int .i64 a0_1,.string a0_2,.int .i64 a0_3]] w fun e w'=> e= .returned (.int .i64 r) ∧ Below w.heap.size w w':=by
  have hu36:=Try.underlying36
  have HR0_0:=Aside0.mk hr0_0
  have HC0_0:=Aside0.mk hc0_0
  clear hr0_0 hc0_0
  have HB:=Aside0.mk (Below.refl w.heap.size w)
  have H:(some (wrap64 (1000000 - (mx a0_1 a0_3))))=some r:=h
  clear h
  obtain ⟨ji2,hji2⟩:∃ j_:Int,(mx a0_1 a0_3)=j_:=⟨_,rfl⟩
  replace H:(some (wrap64 (1000000 - (ji2))))=some r:=by first|(rw [hji2] at H;exact H)|(simp only [hji2] at H ⊢;exact H)
  have hji2_:(if a0_1 < a0_3 then a0_3 else a0_1)=ji2:=hji2
  obtain rfl:=Option.some.inj H
  go_enter Try.func134,Try.ntmps134
  go_wp2_with (first|((with_reducible refine gate_dst (N:=1) rfl ?_);refine box_event ?hg (N:=1) ?hd (cs:= #[.slice A0_0 l0_0.length c0_0,.int .i64 a0_1,.string a0_2,.int .i64 a0_3]) (t:=36) ?hr ?_;(case hd=> rfl);(case hg=> rfl);(case hr=> first|(go_simp;done)|(go_simp;rfl));intro gb670 hg w3 hbox hb;have n0_:=Aside0.mk (below_step (by repeat (first|(with_reducible first|exact HB.out|apply bwA|apply bwN|apply bwD)|exact HB.out)) hb);have n1_:=Aside0.mk (hbox);have n2_:=Aside0.mk ((by rw [hg];exact (below_size (by repeat (first|(with_reducible first|exact HB.out|apply bwA|apply bwN|apply bwD)|exact HB.out))):w.heap.size ≤ gb670));have n3_:=Aside0.mk ((by rw [hg];exact (below_size (by repeat (first|(with_reducible first|exact HB.out|apply bwA|apply bwN|apply bwD)|exact HB.out))):w.heap.size ≤ gb670));clear HB;have HB:=n0_;have BK670:=n1_;have GW670:=n2_;have GE670:=n3_;clear n0_ n1_ n2_ n3_;clear hb hbox hg;have hcz4_0:w3.cell? ⟨gb670,0,none⟩=some (.slice A0_0 l0_0.length c0_0):=(blk_cell BK670.out 0).trans rfl;have hcz4_1:w3.cell? ⟨gb670,1,none⟩=some (.int .i64 a0_1):=(blk_cell BK670.out 1).trans rfl;have hcz4_2:w3.cell? ⟨gb670,2,none⟩=some (.string a0_2):=(blk_cell BK670.out 2).trans rfl;have hcz4_3:w3.cell? ⟨gb670,3,none⟩=some (.int .i64 a0_3):=(blk_cell BK670.out 3).trans rfl;have hfz4_0:=blk_frozen BK670.out 0;have hfz4_1:=blk_frozen BK670.out 1;have hfz4_2:=blk_frozen BK670.out 2;have hfz4_3:=blk_frozen BK670.out 3))
  go_ret
  exact ⟨by first|rfl|(simp [errW_none,errW_some] <;> rfl)|(simp only [← hji2];first|rfl|(simp [errW_none,errW_some] <;> rfl))|(simp [*,errW_none,errW_some] <;> rfl),by repeat (first|(with_reducible first|exact HB.out|apply bwA|apply bwN|apply bwD|refine bwS ?_ GE670.out)|exact HB.out)⟩
end Go.Proofs.Ytlogocmojnhpbaa.Print
namespace Go.Proofs.Ytlogocmojnhpbaa.Print
open Go Go.RowKit Go.Proofs.YtlogocmojnhpbaaW.PrintWords Go.Proofs.YtlogocmojnhpbaaW.PrintLast
set_option linter.unusedVariables false
set_option linter.unusedSimpArgs false
def drawX (l:List S79) (at_:Int) (st:ByteArray) (n:Int):S79:=if l.length=0 then ⟨modB ((drawH st n).take 8),modB (((drawH st n).drop 8).take 8)⟩ else rd_T79 l (at_ % (l.length:Int))
def atM (l:List S79) (at_:Int) (k:Nat):Int:=if l.length=0 then at_ else at_ + k
def nM (l:List S79) (n:Int) (k:Nat):Int:=if l.length=0 then n + k else n
def drawsX (l:List S79) (at_:Int) (st:ByteArray) (n:Int) (m:Nat):List S79:=(List.range m).map fun i=> drawX l (atM l at_ i) st (nM l n i)
theorem drawsX_succ (l:List S79) (at_:Int) (st:ByteArray) (n:Int) (m:Nat):drawsX l at_ st n (m + 1)=drawsX l at_ st n m ++ [drawX l (atM l at_ m) st (nM l n m)]:=by simp [drawsX,List.range_succ]
theorem drawsX_length (l:List S79) (at_:Int) (st:ByteArray) (n:Int) (m:Nat):(drawsX l at_ st n m).length=m:=by simp [drawsX]
theorem atM_succ (l:List S79) (a:Int) (k:Nat):atM l (atM l a k) 1=atM l a (k + 1):=by unfold atM;split <;> omega
theorem nM_succ (l:List S79) (a:Int) (k:Nat):nM l (nM l a k) 1=nM l a (k + 1):=by unfold nM;split <;> omega
theorem atM_bd (l:List S79) (a:Int) (k:Nat):a ≤ atM l a k ∧ atM l a k ≤ a + k:=by unfold atM;split <;> omega
theorem nM_bd (l:List S79) (a:Int) (k:Nat):a ≤ nM l a k ∧ nM l a k ≤ a + k:=by unfold nM;split <;> omega
theorem C79_growB {B:Nat} {w w1:World} {A:Option Addr} {m:Nat} {l:List S79} (h:Kd.C k79 w A m l) (hA:∀ ad,A=some ad → ad.block ≠ B) (hg:GrowB B w w1):Kd.C k79 w1 A m l:=by
  refine ⟨h.1,h.2.1,fun hn=> ?_⟩
  obtain ⟨ad,e,hc⟩:=h.2.2 hn
  refine ⟨ad,e,fun j p hj=> ?_⟩
  obtain ⟨cs,hl,hK,hcell⟩:=hc j p hj
  refine ⟨cs,hl,by rw [k79_open hK];exact k79_mk _ _,fun i u hu=> hg _ _ ?_ (hcell i u hu)⟩
  rw [add_block]
  exact hA ad e
theorem draw.calls (B:Nat) (A:Option Addr) (c ln:Nat) (l:List S79) (at_ n:Int) (st:ByteArray) (w:World) (hln:ln=l.length) (hB:SrcBlk w B (.slice A ln c) at_ st n) (hC:Kd.C k79 w A l.length l) (hd:∀ ad,A=some ad → ad.block ≠ B) (h0:0 ≤ at_) (h1:at_ ≤ 2000000) (h2:0 ≤ n) (h3:n ≤ 2000000) (hl2:l.length ≤ 1000000) (hst:st.size ≤ 1000000):
    Calls Try.prog 158 #[.pointer (some ⟨B,0,none⟩)] w fun e w'=> e= .returned (.agg #[.int .i64 (drawX l at_ st n).f0,.int .i64 (drawX l at_ st n).f1]) ∧ SrcBlk w' B (.slice A ln c) (atM l at_ 1) st (nM l n 1) ∧ Moved w w' (fun i=> i=B):=by
  by_cases h:l.length=0
  · have e0:ln=0:=by omega
    subst e0
    unfold drawX atM nM
    rw [if_pos h,if_pos h,if_pos h]
    exact drawT.calls B c A at_ n st w hB h2 h3 hst
  · obtain ⟨ad,e,_⟩:=hC.2.2 (by omega)
    subst e
    unfold drawX atM nM
    rw [if_neg h,if_neg h,if_neg h]
    have:=drawS.calls B ad c ln l at_ n st w hln hB hC (hd ad rfl) h0 h1 (by omega) hl2
    rw [← hln]
    exact this
theorem Moved.base {w w1 w2:World} {p:Nat → Prop} (h:Moved w w1 p) (hb:Below w.heap.size w1 w2):Moved w w2 p:=
  ⟨Nat.le_trans h.1 hb.size,fun i hi hp=> (hb.block i hi).trans (h.2.1 i hi hp),fun w0 h0 hp=> (h.2.2 w0 h0 hp).trans (hb.mono h0.size)⟩
set_option maxHeartbeats 1000000 in
set_option maxRecDepth 100000 in
theorem draws.calls (B:Nat) (A:Option Addr) (c ln m:Nat) (l:List S79) (at_ n:Int) (st:ByteArray) (w:World) (hln:ln=l.length) (hB:SrcBlk w B (.slice A ln c) at_ st n) (hC:Kd.C k79 w A l.length l) (hd:∀ ad,A=some ad → ad.block ≠ B) (h0:0 ≤ at_) (h1:at_ ≤ 1000000) (h2:0 ≤ n) (h3:n ≤ 1000000) (hl2:l.length ≤ 1000000) (hst:st.size ≤ 1000000) (hm:m ≤ 1000):
    Calls Try.prog 135 #[.pointer (some ⟨B,0,none⟩),.int .i64 (m:Int)] w fun e w'=> ∃ v:Value,e= .returned v ∧ Kd.R k79 79 w' w.heap.size (fun _=> True) v (drawsX l at_ st n m) ∧ SrcBlk w' B (.slice A ln c) (atM l at_ m) st (nM l n m) ∧ Moved w w' (fun i=> i=B):=by
  have hlt:=hB.lt
  have HB:=Aside0.mk hB
  have HC:=Aside0.mk hC
  have HD:=Aside0.mk hd
  have HLN:=Aside0.mk hln
  have HL2:=Aside0.mk hl2
  clear hB hC hd hln hl2
  go_enter Try.func135,Try.ntmps135
  go_wp2_with ((with_reducible refine gate_dst (N:=6) rfl ?_);refine Kd.R_lit k79 _ 79 ?hg (N:=6) ?hd (xs:=([]:List S79)) (inner:= []) (ok:=fun _=> True) (okp:=fun _=> True) ?hr ?hp (fun _ hk=> hk) trivial (Below.refl _ _) (Nat.le_refl _) (by simp) ?_;(case hd=> rfl);(case hg=> rfl);(case hr=> first|(go_simp;done)|(go_simp;rfl));(case hp=> exact (Reps.none _ _));intro v1 w1 ho hb hg_ hnew_;clear hg_ hnew_;have HO:=Aside0.mk ho;have HB1:=Aside0.mk (HB.out.below hb);have HM:=Aside0.mk (Moved.of_below (p:=fun i=> i=B) hb);clear ho hb)
  go_loopg [5,8] m (fun gg s5 s8 wr=> ∃ k:Nat,k ≤ m ∧ m - k ≤ gg ∧ s8= .int .i64 (k:Int) ∧ Aside0 (Kd.R k79 79 wr w.heap.size (fun _=> True) s5 (drawsX l at_ st n k)) ∧ Aside0 (SrcBlk wr B (.slice A ln c) (atM l at_ k) st (nM l n k)) ∧ Aside0 (Moved w wr (fun i=> i=B)))
  case atStart=>
    refine ⟨0,by omega,by omega,rfl,HO,⟨?_⟩,HM⟩
    have e1:atM l at_ 0=at_:=by unfold atM;split <;> omega
    have e2:nM l n 0=n:=by unfold nM;split <;> omega
    rw [e1,e2]
    exact HB1.out
  case round=>
    obtain ⟨k,hk,hg,rfl,HOk,HBk,HMk⟩:=hrel
    by_cases hlt2:k < m
    · have hltz:(k:Int) < (m:Int):=by omega
      have ba:=atM_bd l at_ k
      have bn:=nM_bd l n k
      have L1:=Aside0.mk (draw.calls B A c ln l (atM l at_ k) (nM l n k) st wr HLN.out HBk.out (C79_growB HC.out HD.out HMk.out.growB) HD.out (by omega) (by omega) (by omega) (by omega) HL2.out hst)
      have HS:=Aside0.mk (drawsX_succ l at_ st n k)
      have HA:=Aside0.mk (atM_succ l at_ k)
      have HN:=Aside0.mk (nM_succ l n k)
      have HLK:=Aside0.mk (drawsX_length l at_ st n k)
      generalize drawX l (atM l at_ k) st (nM l n k)=x at L1 HS
      generalize atM l at_ k=ak at HA HBk L1 ba
      generalize nM l n k=nk at HN HBk L1 bn
      obtain ⟨x0,x1⟩:=x
      go_wp2_with (first
        |(go_at_call 158;refine L1.out.mono ?_;rintro e w2 ⟨rfl,hS2,hM2⟩;have HB2:=Aside0.mk hS2;have HO2:=Aside0.mk (R79.moved HOk.out HBk.out hM2);have HM2:=Aside0.mk (HMk.out.trans hM2);clear hS2 hM2)
        |((with_reducible refine gate_builtin (b:= .append) (xs:= #[.tmp 10,.tmp 13]) rfl ?_);at_builtin;refine Kd.R_append k79 (w0:=w2) w.heap.size rfl (.tmp 10) (.tmp 13) 34 79 (.agg #[(.int .i64 0),(.int .i64 0)]) 16 rfl Try.underlying34 info79 rfl (by decide) (by omega) _ (drawsX l at_ st n k) (⟨x0,x1⟩:S79) [.int .i64 x0,.int .i64 x1] (fun _=> True) (fun _=> False) rfl (by first|(go_simp;done)|(go_simp;rfl)) ?aP (fun _ hk=> hk.elim) (fun _ _=> trivial) ?aO ?aB ?aS ?aL ?_;(case aP=> exact k79_mkM _ _ _ (⟨x0,x1⟩:S79));(case aO=> exact HO2.out);(case aB=> exact Below.refl _ _);(case aS=> exact HM2.out.1);(case aL=> rw [HLK.out];omega);intro v3 w3 ho hb hg hat;have HO3:=Aside0.mk ho;have HB3:=Aside0.mk (HB2.out.step (hb.block B hlt));have HM3:=Aside0.mk (HM2.out.base hb);clear ho hb hg hat))
      go_roundg (m - (k + 1))
      case measure=> omega
      case rel=>
        refine ⟨k + 1,by omega,by omega,by go_num,⟨?_⟩,⟨?_⟩,HM3⟩
        · rw [HS.out]
          exact HO3.out
        · rw [← HA.out,← HN.out]
          exact HB3.out
    · have hltz:¬ (k:Int) < (m:Int):=by omega
      have hkm:k=m:=by omega
      subst hkm
      go_wp2
      go_ret
      exact ⟨_,rfl,HOk.out,HBk.out,HMk.out⟩
def impl_TakeSome.f (l0_0:List (S79)) (a0_1:Int) (a0_2:ByteArray) (a0_3:Int) (a1:Int):Option ((List (S79)) × Int × ByteArray × Int × (List (S79)) × Int):=
  (impl_SourceOK.f l0_0 a0_1 a0_2 a0_3).bind fun ok=> if ok=true then (if 0 ≤ a1 ∧ a1 ≤ 100 then (if 0 ≤ a0_1 ∧ a0_1 ≤ 1000000 ∧ 0 ≤ a0_3 ∧ a0_3 ≤ 1000000 ∧ a0_2.size ≤ 1000000 ∧ l0_0.length ≤ 1000000 then (if a1 > 1000000 - mx a0_1 a0_3 then some (l0_0,a0_1,a0_2,a0_3, [],6) else some (l0_0,atM l0_0 a0_1 a1.toNat,a0_2,nM l0_0 a0_3 a1.toNat,drawsX l0_0 a0_1 a0_2 a0_3 a1.toNat,0)) else none) else some ([],0,⟨#[]⟩,0, [],4)) else some ([],0,⟨#[]⟩,0, [],1)
set_option maxHeartbeats 1000000 in
set_option maxRecDepth 100000 in
theorem impl_TakeSome.bad (A0_0:Option Addr) (c0_0:Nat) (l0_0:List (S79)) (a0_1:Int) (a0_2:ByteArray) (a0_3:Int) (a1:Int) (w:World) (hr0_0:Kd.C k79 w A0_0 l0_0.length l0_0) (hc0_0:l0_0.length ≤ c0_0) (h2:impl_SourceOK.f l0_0 a0_1 a0_2 a0_3=some false):
    Calls Try.prog 73 #[.agg #[.slice A0_0 l0_0.length c0_0,.int .i64 a0_1,.string a0_2,.int .i64 a0_3],.int .i64 a1] w fun e w'=> ∃ v0_ v4_:Value,e= .returned (.tuple #[.agg #[v0_,.int .i64 0,.string ⟨#[]⟩,.int .i64 0],v4_,.int .i64 1]) ∧ Kd.R k79 79 w' w.heap.size (fun k_=> some k_ ≠ (v4_:Value).ownBlock) v0_ [] ∧ Kd.R k79 79 w' w.heap.size (fun k_=> some k_ ≠ (v0_:Value).ownBlock) v4_ [] ∧ Below w.heap.size w w':=by
  have hu36:=Try.underlying36
  have HR:=Aside0.mk hr0_0
  have HC:=Aside0.mk hc0_0
  have H2:=Aside0.mk h2
  clear h2
  clear hr0_0 hc0_0
  go_enter Try.func73,Try.ntmps73
  go_wp2_with (first
    |((with_reducible refine gate_dst (N:=2) rfl ?_);refine box_event ?hg (N:=2) ?hd (cs:= #[.slice A0_0 l0_0.length c0_0,.int .i64 a0_1,.string a0_2,.int .i64 a0_3]) (t:=36) ?hr ?_;(case hd=> rfl);(case hg=> rfl);(case hr=> first|(go_simp;done)|(go_simp;rfl));intro g1 hg1 w1 hbox1 hb1)
    |((with_reducible refine gate_dst (N:=4) rfl ?_);refine box_event ?hg (N:=4) ?hd (cs:= #[.slice none 0 0,.int .i64 0,.string (⟨#[]⟩:ByteArray),.int .i64 0]) (t:=36) ?hr ?_;(case hd=> rfl);(case hg=> rfl);(case hr=> first|(go_simp;done)|(go_simp;rfl));intro g2 hg2 w2 hbox2 hb2;have LD:Aside0 (Led w w2 g1 g2 (.slice A0_0 l0_0.length c0_0) a0_1 a0_2 a0_3):=⟨⟨SrcBlk.below hbox1 hb2,hbox2,below_step hb1 hb2,by omega,by have:=hb1.size;omega,by have:=blk_lt hbox1;omega⟩⟩;clear hbox1 hbox2 hb1 hb2 hg1 hg2;have q0:=LD.out.b1.cell0;have q1:=LD.out.b1.cell1;have q2:=LD.out.b1.cell2;have q3:=LD.out.b1.cell3)
    |(go_at_call 116;refine (impl_SourceOK.calls A0_0 c0_0 l0_0 a0_1 a0_2 a0_3 _ _ (Kd.C_below HR.out LD.out.hb) HC.out H2.out).mono ?_;rintro e w4 ⟨rfl,hd4⟩;have LD4:=Aside0.mk (LD.out.below hd4);clear hd4 LD q0 q1 q2 q3;have LDZ:=LD4;have p0:=LDZ.out.b2.cell0;have p1:=LDZ.out.b2.cell1;have p2:=LDZ.out.b2.cell2;have p3:=LDZ.out.b2.cell3;have z0:=LDZ.out.b2.frozen 0;have z1:=LDZ.out.b2.frozen 1;have z2:=LDZ.out.b2.frozen 2;have z3:=LDZ.out.b2.frozen 3))
  refine bodyPost_ret (results_ctt rfl _ _ g2 36 #[.slice none 0 0,.int .i64 0,.string (⟨#[]⟩:ByteArray),.int .i64 0] (0,0) _ rfl (LDZ.out.b2.setAll (.slice none 0 0) 0 0 ⟨#[]⟩) Try.underlying36 rfl (by kernel_rfl)) rfl ?_
  exact ⟨_,_,rfl,Kd.R_nil _ _ _ _ _,Kd.R_nil _ _ _ _ _,below_setAll LDZ.out.hb LDZ.out.h2 _ _ _ _⟩
set_option maxHeartbeats 1000000 in
set_option maxRecDepth 100000 in
theorem impl_TakeSome.rng (A0_0:Option Addr) (c0_0:Nat) (l0_0:List (S79)) (a0_1:Int) (a0_2:ByteArray) (a0_3:Int) (a1:Int) (w:World) (hr0_0:Kd.C k79 w A0_0 l0_0.length l0_0) (hc0_0:l0_0.length ≤ c0_0) (h2:impl_SourceOK.f l0_0 a0_1 a0_2 a0_3=some true) (h3:impl_in.f a1 0 100=some false):
    Calls Try.prog 73 #[.agg #[.slice A0_0 l0_0.length c0_0,.int .i64 a0_1,.string a0_2,.int .i64 a0_3],.int .i64 a1] w fun e w'=> ∃ v0_ v4_:Value,e= .returned (.tuple #[.agg #[v0_,.int .i64 0,.string ⟨#[]⟩,.int .i64 0],v4_,.int .i64 4]) ∧ Kd.R k79 79 w' w.heap.size (fun k_=> some k_ ≠ (v4_:Value).ownBlock) v0_ [] ∧ Kd.R k79 79 w' w.heap.size (fun k_=> some k_ ≠ (v0_:Value).ownBlock) v4_ [] ∧ Below w.heap.size w w':=by
  have hu36:=Try.underlying36
  have HR:=Aside0.mk hr0_0
  have HC:=Aside0.mk hc0_0
  have H2:=Aside0.mk h2
  have H3:=Aside0.mk h3
  clear h2 h3
  clear hr0_0 hc0_0
  go_enter Try.func73,Try.ntmps73
  go_wp2_with (first
    |((with_reducible refine gate_dst (N:=2) rfl ?_);refine box_event ?hg (N:=2) ?hd (cs:= #[.slice A0_0 l0_0.length c0_0,.int .i64 a0_1,.string a0_2,.int .i64 a0_3]) (t:=36) ?hr ?_;(case hd=> rfl);(case hg=> rfl);(case hr=> first|(go_simp;done)|(go_simp;rfl));intro g1 hg1 w1 hbox1 hb1)
    |((with_reducible refine gate_dst (N:=4) rfl ?_);refine box_event ?hg (N:=4) ?hd (cs:= #[.slice none 0 0,.int .i64 0,.string (⟨#[]⟩:ByteArray),.int .i64 0]) (t:=36) ?hr ?_;(case hd=> rfl);(case hg=> rfl);(case hr=> first|(go_simp;done)|(go_simp;rfl));intro g2 hg2 w2 hbox2 hb2;have LD:Aside0 (Led w w2 g1 g2 (.slice A0_0 l0_0.length c0_0) a0_1 a0_2 a0_3):=⟨⟨SrcBlk.below hbox1 hb2,hbox2,below_step hb1 hb2,by omega,by have:=hb1.size;omega,by have:=blk_lt hbox1;omega⟩⟩;clear hbox1 hbox2 hb1 hb2 hg1 hg2;have q0:=LD.out.b1.cell0;have q1:=LD.out.b1.cell1;have q2:=LD.out.b1.cell2;have q3:=LD.out.b1.cell3)
    |(go_at_call 116;refine (impl_SourceOK.calls A0_0 c0_0 l0_0 a0_1 a0_2 a0_3 _ _ (Kd.C_below HR.out LD.out.hb) HC.out H2.out).mono ?_;rintro e w4 ⟨rfl,hd4⟩;have LD4:=Aside0.mk (LD.out.below hd4);clear hd4 LD q0 q1 q2 q3;have q0:=LD4.out.b1.cell0;have q1:=LD4.out.b1.cell1;have q2:=LD4.out.b1.cell2;have q3:=LD4.out.b1.cell3)
    |(go_at_call 95;refine (impl_in.calls a1 0 100 _ _ H3.out).mono ?_;rintro e w5 ⟨rfl,hd5⟩;have LD5:=Aside0.mk (LD4.out.below hd5.below);clear hd5 LD4 q0 q1 q2 q3;have LDZ:=LD5;have p0:=LDZ.out.b2.cell0;have p1:=LDZ.out.b2.cell1;have p2:=LDZ.out.b2.cell2;have p3:=LDZ.out.b2.cell3;have z0:=LDZ.out.b2.frozen 0;have z1:=LDZ.out.b2.frozen 1;have z2:=LDZ.out.b2.frozen 2;have z3:=LDZ.out.b2.frozen 3))
  refine bodyPost_ret (results_ctt rfl _ _ g2 36 #[.slice none 0 0,.int .i64 0,.string (⟨#[]⟩:ByteArray),.int .i64 0] (0,0) _ rfl (LDZ.out.b2.setAll (.slice none 0 0) 0 0 ⟨#[]⟩) Try.underlying36 rfl (by kernel_rfl)) rfl ?_
  exact ⟨_,_,rfl,Kd.R_nil _ _ _ _ _,Kd.R_nil _ _ _ _ _,below_setAll LDZ.out.hb LDZ.out.h2 _ _ _ _⟩
set_option maxHeartbeats 1000000 in
set_option maxRecDepth 100000 in
theorem impl_TakeSome.many (A0_0:Option Addr) (c0_0:Nat) (l0_0:List (S79)) (a0_1:Int) (a0_2:ByteArray) (a0_3:Int) (a1:Int) (w:World) (hr0_0:Kd.C k79 w A0_0 l0_0.length l0_0) (hc0_0:l0_0.length ≤ c0_0) (lf:Int) (h2:impl_SourceOK.f l0_0 a0_1 a0_2 a0_3=some true) (h3:impl_in.f a1 0 100=some true) (h4:impl_Source_left.f l0_0 a0_1 a0_2 a0_3=some lf) (h5:lf < a1) (h6:l0_0.length ≤ 1000000):
    Calls Try.prog 73 #[.agg #[.slice A0_0 l0_0.length c0_0,.int .i64 a0_1,.string a0_2,.int .i64 a0_3],.int .i64 a1] w fun e w'=> ∃ v0_ v4_:Value,e= .returned (.tuple #[.agg #[v0_,.int .i64 a0_1,.string a0_2,.int .i64 a0_3],v4_,.int .i64 6]) ∧ Kd.R k79 79 w' w.heap.size (fun k_=> some k_ ≠ (v4_:Value).ownBlock) v0_ l0_0 ∧ Kd.R k79 79 w' w.heap.size (fun k_=> some k_ ≠ (v0_:Value).ownBlock) v4_ [] ∧ Below w.heap.size w w':=by
  have hu36:=Try.underlying36
  have HR:=Aside0.mk hr0_0
  have HC:=Aside0.mk hc0_0
  have H2:=Aside0.mk h2
  have H3:=Aside0.mk h3
  have H4:=Aside0.mk h4
  have HCP:=Aside0.mk (show impl_Source_copied.f l0_0 a0_1 a0_2 a0_3=some (l0_0,a0_1,a0_2,a0_3) by unfold impl_Source_copied.f slices_Clone.f;rw [if_pos h6];rfl)
  clear h2 h3 h4 h6
  clear hr0_0 hc0_0
  go_enter Try.func73,Try.ntmps73
  go_wp2_with (first
    |((with_reducible refine gate_dst (N:=2) rfl ?_);refine box_event ?hg (N:=2) ?hd (cs:= #[.slice A0_0 l0_0.length c0_0,.int .i64 a0_1,.string a0_2,.int .i64 a0_3]) (t:=36) ?hr ?_;(case hd=> rfl);(case hg=> rfl);(case hr=> first|(go_simp;done)|(go_simp;rfl));intro g1 hg1 w1 hbox1 hb1)
    |((with_reducible refine gate_dst (N:=4) rfl ?_);refine box_event ?hg (N:=4) ?hd (cs:= #[.slice none 0 0,.int .i64 0,.string (⟨#[]⟩:ByteArray),.int .i64 0]) (t:=36) ?hr ?_;(case hd=> rfl);(case hg=> rfl);(case hr=> first|(go_simp;done)|(go_simp;rfl));intro g2 hg2 w2 hbox2 hb2;have LD:Aside0 (Led w w2 g1 g2 (.slice A0_0 l0_0.length c0_0) a0_1 a0_2 a0_3):=⟨⟨SrcBlk.below hbox1 hb2,hbox2,below_step hb1 hb2,by omega,by have:=hb1.size;omega,by have:=blk_lt hbox1;omega⟩⟩;clear hbox1 hbox2 hb1 hb2 hg1 hg2;have q0:=LD.out.b1.cell0;have q1:=LD.out.b1.cell1;have q2:=LD.out.b1.cell2;have q3:=LD.out.b1.cell3)
    |(go_at_call 116;refine (impl_SourceOK.calls A0_0 c0_0 l0_0 a0_1 a0_2 a0_3 _ _ (Kd.C_below HR.out LD.out.hb) HC.out H2.out).mono ?_;rintro e w4 ⟨rfl,hd4⟩;have LD4:=Aside0.mk (LD.out.below hd4);clear hd4 LD q0 q1 q2 q3;have q0:=LD4.out.b1.cell0;have q1:=LD4.out.b1.cell1;have q2:=LD4.out.b1.cell2;have q3:=LD4.out.b1.cell3)
    |(go_at_call 95;refine (impl_in.calls a1 0 100 _ _ H3.out).mono ?_;rintro e w5 ⟨rfl,hd5⟩;have LD5:=Aside0.mk (LD4.out.below hd5.below);clear hd5 LD4 q0 q1 q2 q3;have q0:=LD5.out.b1.cell0;have q1:=LD5.out.b1.cell1;have q2:=LD5.out.b1.cell2;have q3:=LD5.out.b1.cell3)
    |(go_at_call 134;refine (impl_Source_left.calls A0_0 c0_0 l0_0 a0_1 a0_2 a0_3 lf _ (Kd.C_below HR.out LD5.out.hb) HC.out H4.out).mono ?_;rintro e w6 ⟨rfl,hd6⟩;have LD6:=Aside0.mk (LD5.out.below hd6);clear hd6 LD5 q0 q1 q2 q3;have q0:=LD6.out.b1.cell0;have q1:=LD6.out.b1.cell1;have q2:=LD6.out.b1.cell2;have q3:=LD6.out.b1.cell3)
    |(go_at_call 127;refine (impl_Source_copied.calls A0_0 c0_0 l0_0 a0_1 a0_2 a0_3 _ _ _ _ _ (Kd.C_below HR.out LD6.out.hb) HC.out HCP.out).mono ?_;rintro e w7 ⟨v7,rfl,hR7,hb7⟩;have HW6:=Aside0.mk LD6.out.hb.size;have LD7:=Aside0.mk (LD6.out.below hb7);have HR7:=Aside0.mk hR7;clear hb7 hR7 LD6 q0 q1 q2 q3;obtain ⟨Ao,co,eo⟩:=Kd.R_slice HR7.out;subst eo;have LDZ:=LD7;have p0:=LDZ.out.b2.cell0;have p1:=LDZ.out.b2.cell1;have p2:=LDZ.out.b2.cell2;have p3:=LDZ.out.b2.cell3;have z0:=LDZ.out.b2.frozen 0;have z1:=LDZ.out.b2.frozen 1;have z2:=LDZ.out.b2.frozen 2;have z3:=LDZ.out.b2.frozen 3))
  have m:=moved_setAll w7 g2 (.slice Ao l0_0.length co) a0_1 a0_3 a0_2
  refine bodyPost_ret (results_ctt rfl _ _ g2 36 #[.slice Ao l0_0.length co,.int .i64 a0_1,.string a0_2,.int .i64 a0_3] (0,0) _ rfl (LDZ.out.b2.setAll (.slice Ao l0_0.length co) a0_1 a0_3 a0_2) Try.underlying36 rfl (by kernel_rfl)) rfl ?_
  exact ⟨_,_,rfl,R79.moved (Kd.R_mono (Kd.R_lower HR7.out HW6.out) (fun _ _=> by simp [Value.ownBlock])) LDZ.out.b2 m,Kd.R_nil _ _ _ _ _,below_setAll LDZ.out.hb LDZ.out.h2 _ _ _ _⟩
structure Outd (w0 w:World) (g2 g3:Nat) (v v9:Value) (l xs:List S79) (at_:Int) (st:ByteArray) (n:Int):Prop where
  b2:SrcBlk w g2 (.slice none 0 0) 0 ⟨#[]⟩ 0
  b3:SrcBlk w g3 v at_ st n
  hb:Below w0.heap.size w0 w
  h2:w0.heap.size ≤ g2
  hr:Kd.R k79 79 w w0.heap.size (fun k_=> some k_ ≠ (v9:Value).ownBlock) v l
  hx:Kd.R k79 79 w w0.heap.size (fun k_=> some k_ ≠ (v:Value).ownBlock) v9 xs
theorem Outg.drawn {w0 w w1:World} {g2 g3:Nat} {v v9:Value} {l xs:List S79} {at_ n a' n':Int} {st:ByteArray} (h:Outg w0 w g2 g3 v l at_ st n) (hR:Kd.R k79 79 w1 w.heap.size (fun _=> True) v9 xs) (hS:SrcBlk w1 g3 v a' st n') (hM:Moved w w1 (fun i=> i=g3)):Outd w0 w1 g2 g3 v v9 l xs a' st n':=by
  have h1:=h.moved hM hS
  have hb:=Kd.R_base hR
  refine ⟨h1.b2,h1.b3,h1.hb,h1.h2,?_,?_⟩
  · refine Kd.R_mono (R79.moved (Kd.R_mono (ok':=fun k=> k < w.heap.size) (Kd.R_bound h.hr) (fun k hk=> hk.2.2.1)) h.b3 hM) (fun k hk e=> ?_)
    have:=hb k e.symm
    omega
  · exact Kd.R_mono (Kd.R_lower (Kd.R_new' hR (Kd.R_lt h.hr)) h.hb.size) (fun _ hk=> hk.2)
theorem Outd.done {w0 w:World} {g2 g3:Nat} {v v9:Value} {l xs:List S79} {at_ n:Int} {st:ByteArray} (h:Outd w0 w g2 g3 v v9 l xs at_ st n) (a b:Int) (s:ByteArray):
    SrcBlk ((((w.setCell ⟨g2,0,none⟩ v).setCell ⟨g2,1,none⟩ (.int .i64 a)).setCell ⟨g2,2,none⟩ (.string s)).setCell ⟨g2,3,none⟩ (.int .i64 b)) g2 v a s b ∧ Kd.R k79 79 ((((w.setCell ⟨g2,0,none⟩ v).setCell ⟨g2,1,none⟩ (.int .i64 a)).setCell ⟨g2,2,none⟩ (.string s)).setCell ⟨g2,3,none⟩ (.int .i64 b)) w0.heap.size (fun k_=> some k_ ≠ (v9:Value).ownBlock) v l ∧ Kd.R k79 79 ((((w.setCell ⟨g2,0,none⟩ v).setCell ⟨g2,1,none⟩ (.int .i64 a)).setCell ⟨g2,2,none⟩ (.string s)).setCell ⟨g2,3,none⟩ (.int .i64 b)) w0.heap.size (fun k_=> some k_ ≠ (v:Value).ownBlock) v9 xs ∧ Below w0.heap.size w0 ((((w.setCell ⟨g2,0,none⟩ v).setCell ⟨g2,1,none⟩ (.int .i64 a)).setCell ⟨g2,2,none⟩ (.string s)).setCell ⟨g2,3,none⟩ (.int .i64 b)):=
  ⟨h.b2.setAll v a b s,R79.moved h.hr h.b2 (moved_setAll w g2 v a b s),R79.moved h.hx h.b2 (moved_setAll w g2 v a b s),below_setAll h.hb h.h2 v a b s⟩
set_option maxHeartbeats 1000000 in
set_option maxRecDepth 100000 in
theorem impl_TakeSome.ok (A0_0:Option Addr) (c0_0:Nat) (l0_0:List (S79)) (a0_1:Int) (a0_2:ByteArray) (a0_3:Int) (a1:Int) (w:World) (hr0_0:Kd.C k79 w A0_0 l0_0.length l0_0) (hc0_0:l0_0.length ≤ c0_0) (lf:Int) (m:Nat) (h2:impl_SourceOK.f l0_0 a0_1 a0_2 a0_3=some true) (h3:impl_in.f a1 0 100=some true) (h4:impl_Source_left.f l0_0 a0_1 a0_2 a0_3=some lf) (h5:¬ lf < a1) (h6:l0_0.length ≤ 1000000) (h7:0 ≤ a0_1 ∧ a0_1 ≤ 1000000 ∧ 0 ≤ a0_3 ∧ a0_3 ≤ 1000000) (h8:a0_2.size ≤ 1000000) (hm:m ≤ 1000) (ha:a1=(m:Int)):
    Calls Try.prog 73 #[.agg #[.slice A0_0 l0_0.length c0_0,.int .i64 a0_1,.string a0_2,.int .i64 a0_3],.int .i64 a1] w fun e w'=> ∃ v0_ v4_:Value,e= .returned (.tuple #[.agg #[v0_,.int .i64 (atM l0_0 a0_1 m),.string a0_2,.int .i64 (nM l0_0 a0_3 m)],v4_,.int .i64 0]) ∧ Kd.R k79 79 w' w.heap.size (fun k_=> some k_ ≠ (v4_:Value).ownBlock) v0_ l0_0 ∧ Kd.R k79 79 w' w.heap.size (fun k_=> some k_ ≠ (v0_:Value).ownBlock) v4_ (drawsX l0_0 a0_1 a0_2 a0_3 m) ∧ Below w.heap.size w w':=by
  have hu36:=Try.underlying36
  have HR:=Aside0.mk hr0_0
  have HC:=Aside0.mk hc0_0
  have H2:=Aside0.mk h2
  have H3:=Aside0.mk h3
  have H4:=Aside0.mk h4
  have HCP:=Aside0.mk (show impl_Source_copied.f l0_0 a0_1 a0_2 a0_3=some (l0_0,a0_1,a0_2,a0_3) by unfold impl_Source_copied.f slices_Clone.f;rw [if_pos h6];rfl)
  have HL6:=Aside0.mk h6
  have HS:=Aside0.mk h8
  subst ha
  clear h2 h3 h4 h6 h8
  clear hr0_0 hc0_0
  go_enter Try.func73,Try.ntmps73
  go_wp2_with (first
    |((with_reducible refine gate_dst (N:=2) rfl ?_);refine box_event ?hg (N:=2) ?hd (cs:= #[.slice A0_0 l0_0.length c0_0,.int .i64 a0_1,.string a0_2,.int .i64 a0_3]) (t:=36) ?hr ?_;(case hd=> rfl);(case hg=> rfl);(case hr=> first|(go_simp;done)|(go_simp;rfl));intro g1 hg1 w1 hbox1 hb1)
    |((with_reducible refine gate_dst (N:=4) rfl ?_);refine box_event ?hg (N:=4) ?hd (cs:= #[.slice none 0 0,.int .i64 0,.string (⟨#[]⟩:ByteArray),.int .i64 0]) (t:=36) ?hr ?_;(case hd=> rfl);(case hg=> rfl);(case hr=> first|(go_simp;done)|(go_simp;rfl));intro g2 hg2 w2 hbox2 hb2;have LD:Aside0 (Led w w2 g1 g2 (.slice A0_0 l0_0.length c0_0) a0_1 a0_2 a0_3):=⟨⟨SrcBlk.below hbox1 hb2,hbox2,below_step hb1 hb2,by omega,by have:=hb1.size;omega,by have:=blk_lt hbox1;omega⟩⟩;clear hbox1 hbox2 hb1 hb2 hg1 hg2;have q0:=LD.out.b1.cell0;have q1:=LD.out.b1.cell1;have q2:=LD.out.b1.cell2;have q3:=LD.out.b1.cell3)
    |(go_at_call 116;refine (impl_SourceOK.calls A0_0 c0_0 l0_0 a0_1 a0_2 a0_3 _ _ (Kd.C_below HR.out LD.out.hb) HC.out H2.out).mono ?_;rintro e w4 ⟨rfl,hd4⟩;have LD4:=Aside0.mk (LD.out.below hd4);clear hd4 LD q0 q1 q2 q3;have q0:=LD4.out.b1.cell0;have q1:=LD4.out.b1.cell1;have q2:=LD4.out.b1.cell2;have q3:=LD4.out.b1.cell3)
    |(go_at_call 95;refine (impl_in.calls (m:Int) 0 100 _ _ H3.out).mono ?_;rintro e w5 ⟨rfl,hd5⟩;have LD5:=Aside0.mk (LD4.out.below hd5.below);clear hd5 LD4 q0 q1 q2 q3;have q0:=LD5.out.b1.cell0;have q1:=LD5.out.b1.cell1;have q2:=LD5.out.b1.cell2;have q3:=LD5.out.b1.cell3)
    |(go_at_call 134;refine (impl_Source_left.calls A0_0 c0_0 l0_0 a0_1 a0_2 a0_3 lf _ (Kd.C_below HR.out LD5.out.hb) HC.out H4.out).mono ?_;rintro e w6 ⟨rfl,hd6⟩;have LD6:=Aside0.mk (LD5.out.below hd6);clear hd6 LD5 q0 q1 q2 q3;have q0:=LD6.out.b1.cell0;have q1:=LD6.out.b1.cell1;have q2:=LD6.out.b1.cell2;have q3:=LD6.out.b1.cell3)
    |(go_at_call 127;refine (impl_Source_copied.calls A0_0 c0_0 l0_0 a0_1 a0_2 a0_3 _ _ _ _ _ (Kd.C_below HR.out LD6.out.hb) HC.out HCP.out).mono ?_;rintro e w7 ⟨v7,rfl,hR7,hb7⟩;have HW6:=Aside0.mk LD6.out.hb.size;have LD7:=Aside0.mk (LD6.out.below hb7);have HR7:=Aside0.mk hR7;clear hb7 hR7 LD6 q0 q1 q2 q3;obtain ⟨Ao,co,eo⟩:=Kd.R_slice HR7.out;subst eo)
    |((with_reducible refine gate_dst (N:=7) rfl ?_);refine box_event ?hg (N:=7) ?hd (cs:= #[.slice none 0 0,.int .i64 0,.string (⟨#[]⟩:ByteArray),.int .i64 0]) (t:=36) ?hr ?_;(case hd=> rfl);(case hg=> rfl);(case hr=> first|(go_simp;done)|(go_simp;rfl));intro g3 hg3 w8 hbox3 hb8;have HO:=Aside0.mk (Outg.start LD7.out HR7.out HW6.out hg3 hbox3 hb8);have q0:=SrcBlk.cell0 hbox3;have q1:=SrcBlk.cell1 hbox3;have q2:=SrcBlk.cell2 hbox3;have q3:=SrcBlk.cell3 hbox3;have z0:=SrcBlk.frozen hbox3 0;have z1:=SrcBlk.frozen hbox3 1;have z2:=SrcBlk.frozen hbox3 2;have z3:=SrcBlk.frozen hbox3 3;clear hbox3 hb8 hg3 LD7 HR7 HW6)
    |(go_at_call 135;(with_reducible refine (draws.calls g3 Ao co l0_0.length m l0_0 a0_1 a0_3 a0_2 _ rfl ?l1 ?l2 ?l3 h7.1 h7.2.1 h7.2.2.1 h7.2.2.2 HL6.out HS.out hm).mono ?_);(case l1=> exact HO.out.b3);(case l2=> exact (Kd.R_reads' HO.out.hr).2.2);(case l3=> intro ad e;have e2:=Kd.R_ne HO.out.hr HO.out.b3 (by decide);rw [e] at e2;exact fun e3=> e2 (by rw [← e3];rfl));rintro e w9 ⟨v9,rfl,hR9,hS9,hM9⟩;have HF:=Aside0.mk (Outg.drawn HO.out hR9 hS9 hM9);clear hR9 hS9 hM9 HO q0 q1 q2 q3 z0 z1 z2 z3;have q0:=HF.out.b3.cell0;have q1:=HF.out.b3.cell1;have q2:=HF.out.b3.cell2;have q3:=HF.out.b3.cell3;have p0:=HF.out.b2.cell0;have p1:=HF.out.b2.cell1;have p2:=HF.out.b2.cell2;have p3:=HF.out.b2.cell3;have z0:=HF.out.b2.frozen 0;have z1:=HF.out.b2.frozen 1;have z2:=HF.out.b2.frozen 2;have z3:=HF.out.b2.frozen 3))
  have HD:=HF.out.done (atM l0_0 a0_1 m) (nM l0_0 a0_3 m) a0_2
  refine bodyPost_ret (results_ctt rfl _ _ g2 36 #[.slice Ao l0_0.length co,.int .i64 (atM l0_0 a0_1 m),.string a0_2,.int .i64 (nM l0_0 a0_3 m)] (0,0) _ rfl HD.1 Try.underlying36 rfl (by kernel_rfl)) rfl ?_
  exact ⟨_,_,rfl,HD.2.1,HD.2.2.1,HD.2.2.2⟩
theorem impl_TakeSome.calls (A0_0:Option Addr) (c0_0:Nat) (l0_0:List (S79)) (a0_1:Int) (a0_2:ByteArray) (a0_3:Int) (a1:Int) (r1:List (S79)) (r2:Int) (r3:ByteArray) (r4:Int) (r5:List (S79)) (r6:Int) (w:World) (hr0_0:Kd.C k79 w A0_0 l0_0.length l0_0) (hc0_0:l0_0.length ≤ c0_0) (h:impl_TakeSome.f l0_0 a0_1 a0_2 a0_3 a1=some (r1,r2,r3,r4,r5,r6)):
    Calls Try.prog 73 #[.agg #[.slice A0_0 l0_0.length c0_0,.int .i64 a0_1,.string a0_2,.int .i64 a0_3],.int .i64 a1] w fun e w'=> ∃ v0_ v4_:Value,e= .returned (.tuple #[.agg #[v0_,.int .i64 r2,.string r3,.int .i64 r4],v4_,.int .i64 r6]) ∧ Kd.R k79 79 w' w.heap.size (fun k_=> some k_ ≠ (v4_:Value).ownBlock) v0_ r1 ∧ Kd.R k79 79 w' w.heap.size (fun k_=> some k_ ≠ (v0_:Value).ownBlock) v4_ r5 ∧ Below w.heap.size w w':=by
  unfold impl_TakeSome.f at h
  obtain ⟨ok,h2,h⟩:=Option.bind_eq_some_iff.mp h
  cases ok with
  |false=>
    rw [if_neg (by decide)] at h
    simp only [Option.some.injEq,Prod.mk.injEq] at h
    obtain ⟨rfl,rfl,rfl,rfl,rfl,rfl⟩:=h
    exact impl_TakeSome.bad A0_0 c0_0 l0_0 a0_1 a0_2 a0_3 a1 w hr0_0 hc0_0 h2
  |true=>
    rw [if_pos rfl] at h
    by_cases h3:0 ≤ a1 ∧ a1 ≤ 100
    · rw [if_pos h3] at h
      have h3':impl_in.f a1 0 100=some true:=by unfold impl_in.f;rw [if_pos h3.1,decide_eq_true h3.2]
      by_cases h7:0 ≤ a0_1 ∧ a0_1 ≤ 1000000 ∧ 0 ≤ a0_3 ∧ a0_3 ≤ 1000000 ∧ a0_2.size ≤ 1000000 ∧ l0_0.length ≤ 1000000
      · rw [if_pos h7] at h
        have hx0:0 ≤ mx a0_1 a0_3 ∧ mx a0_1 a0_3 ≤ 1000000:=by unfold mx;split <;> omega
        have h4:impl_Source_left.f l0_0 a0_1 a0_2 a0_3=some (1000000 - mx a0_1 a0_3):=by
          unfold impl_Source_left.f
          congr 1
          unfold wrap64
          omega
        by_cases h5:a1 > 1000000 - mx a0_1 a0_3
        · rw [if_pos h5] at h
          simp only [Option.some.injEq,Prod.mk.injEq] at h
          obtain ⟨rfl,rfl,rfl,rfl,rfl,rfl⟩:=h
          exact impl_TakeSome.many A0_0 c0_0 l0_0 a0_1 a0_2 a0_3 a1 w hr0_0 hc0_0 _ h2 h3' h4 h5 h7.2.2.2.2.2
        · rw [if_neg h5] at h
          simp only [Option.some.injEq,Prod.mk.injEq] at h
          obtain ⟨rfl,rfl,rfl,rfl,rfl,rfl⟩:=h
          exact impl_TakeSome.ok A0_0 c0_0 l0_0 a0_1 a0_2 a0_3 a1 w hr0_0 hc0_0 _ a1.toNat h2 h3' h4 h5 h7.2.2.2.2.2 ⟨h7.1,h7.2.1,h7.2.2.1,h7.2.2.2.1⟩ h7.2.2.2.2.1 (by omega) (by omega)
      · rw [if_neg h7] at h
        cases h
    · rw [if_neg h3] at h
      simp only [Option.some.injEq,Prod.mk.injEq] at h
      obtain ⟨rfl,rfl,rfl,rfl,rfl,rfl⟩:=h
      refine impl_TakeSome.rng A0_0 c0_0 l0_0 a0_1 a0_2 a0_3 a1 w hr0_0 hc0_0 h2 ?_
      unfold impl_in.f
      by_cases h5:0 ≤ a1
      · rw [if_pos h5,decide_eq_false (fun x=> h3 ⟨h5,x⟩)]
      · rw [if_neg h5]
end Go.Proofs.Ytlogocmojnhpbaa.Print
namespace Go.Proofs.Ytlogocmojnhpbaa.Print
open Go.RowKit Go.Proofs.YtlogocmojnhpbaaW.PrintWords Go.Proofs.YtlogocmojnhpbaaW.PrintLast Go.Proofs.YtlogocmojnhpbaaW.PrintMore
attribute [local go_sem] max2_int min2_int max_two min_two max_three min_three max_four min_four
set_option linter.unusedVariables false
set_option linter.unusedSimpArgs false
def impl_places.l0:Nat → Int → List Int → List (S79) → Int → Int → Option (List Int)
  |0,_,_,_,_,_=> none
  |k + 1,x1,x5,x9,x10,x11=> if x11 < x10 then (if 0 ≤ x11 then (if x11 < (x9.length:Int) then (if x1=0 then (none) else (if x5.length < 17592186044416 then (impl_places.l0 k x1 (x5 ++ [Int.tmod ((rd_T79 x9 x11).f0) x1]) x9 x10 (wrap64 (x11 + 1))) else (none))) else (none)) else (none)) else (some x5)
def impl_places.f (k:Nat) (l0:List (S79)) (a1:Int):Option (List Int):=impl_places.l0 k a1 (([]:List Int)) l0 (l0.length:Int) 0
theorem impl_places.mono_l:∀ k,(∀ y0 y1 y2 y3 y4,LeO (impl_places.l0 k y0 y1 y2 y3 y4) (impl_places.l0 (k + 1) y0 y1 y2 y3 y4))
  |0=> fun _ _ _ _ _ r h=> by simp [impl_places.l0] at h
  |k + 1=> by
    have ih0:=impl_places.mono_l k
    · intro y0 y1 y2 y3 y4
      unfold impl_places.l0
      repeat' first
      |(with_reducible exact ih0 _ _ _ _ _)
      |(with_reducible exact LeO.refl _)
      |(with_reducible exact LeO.none _)
      |(with_reducible refine LeO.ite ?_ ?_)
      |(with_reducible refine LeO.bind ?_ (fun _=> ?_))
      |exact ih0 _ _ _ _ _
      |exact LeO.none _
      |refine LeO.ite ?_ ?_
      |refine LeO.bind ?_ (fun _=> ?_)
theorem impl_places.mono:∀ a0 a1 k,LeO (impl_places.f k a0 a1) (impl_places.f (k + 1) a0 a1):=by
  intro a0 a1 k
  have ih0:=impl_places.mono_l k
  unfold impl_places.f
  repeat' first
      |(with_reducible exact ih0 _ _ _ _ _)
      |(with_reducible exact LeO.refl _)
      |(with_reducible exact LeO.none _)
      |(with_reducible refine LeO.ite ?_ ?_)
      |(with_reducible refine LeO.bind ?_ (fun _=> ?_))
      |exact ih0 _ _ _ _ _
      |exact LeO.none _
      |refine LeO.ite ?_ ?_
      |refine LeO.bind ?_ (fun _=> ?_)
set_option maxHeartbeats 8000000 in
set_option maxRecDepth 100000 in
theorem impl_places.calls (k:Nat) (A0:Option Addr) (c0:Nat) (l0:List (S79)) (a1:Int) (r:List Int) (w:World) (hr0:Kd.C k79 w A0 l0.length l0) (hc0:l0.length ≤ c0) (h:impl_places.f k l0 a1=some r):
    Calls Try.prog 137 #[.slice A0 l0.length c0,.int .i64 a1] w fun e w'=> ∃ v0_:Value,e= .returned (v0_) ∧ Kd.R (Kd.int .i64) 3 w' w.heap.size (fun _=> True) v0_ r ∧ Below w.heap.size w w':=by
  have hu79:=Try.underlying79
  have HR0:=Aside0.mk hr0
  have HC0:=Aside0.mk hc0
  clear hr0 hc0
  have HB:=Aside0.mk (Below.refl w.heap.size w)
  have H:(impl_places.l0 k a1 (([]:List Int)) l0 (l0.length:Int) 0)=some r:=h
  clear h
  obtain ⟨y947,hy947⟩:∃ y_:List Int,y_=(([]:List Int)):=⟨_,rfl⟩
  replace H:(impl_places.l0 k a1 y947 l0 (l0.length:Int) 0)=some r:=by first|(rw [hy947];with_reducible exact H)|(have H2_:=(Option.bind_some _ _).symm.trans H;rw [hy947];with_reducible exact H2_)|(have H2_:=(Option.bind_some _ _).symm.trans H;with_reducible exact H2_)|with_reducible exact H|(rw [hy947];exact H)|exact H
  have Ny947:=Aside0.mk hy947
  clear hy947
  have H':=Aside0.mk H
  clear H
  go_enter Try.func137,Try.ntmps137
  go_wp2_with (first|((with_reducible refine gate_dst (N:=8) rfl ?_);refine Kd.R_lit (Kd.int .i64) _ 3 ?hg (N:=8) ?hd (xs:=([]:List Int)) (inner:= []) (ok:=fun _=> True) (okp:=fun _=> True) ?hr ?hp (fun _ hk=> hk) trivial (Below.refl _ _) (Nat.le_refl _) (by simp) ?_;(case hd=> rfl);(case hg=> rfl);(case hr=> first|(go_simp;done)|(go_simp;rfl));(case hp=> exact (Reps.none _ _));intro v948 w3 ho4 hb hg_ hnew_;clear hg_ hnew_;(first|rw [← Ny947.out] at ho4|(simp only [Int.reduceToNat] at ho4;rw [← Ny947.out] at ho4));have n0_:=Aside0.mk (Kd.R_lower ho4 (below_size (by repeat (first|(with_reducible first|exact HB.out|apply bwA|apply bwN|apply bwD)|exact HB.out))));have n1_:=Aside0.mk (below_step (by repeat (first|(with_reducible first|exact HB.out|apply bwA|apply bwN|apply bwD)|exact HB.out)) hb);clear HB;have HO949:=n0_;have HB:=n1_;clear n0_ n1_;clear hb ho4))
  go_loopg [5,11] k (fun kq v5 v11 w'=> ∃ (x5_1:List Int) (x11_1:Int),v11= .int .i64 x11_1 ∧ Aside0 (impl_places.l0 kq a1 x5_1 l0 (l0.length:Int) x11_1=some r) ∧ Aside0 (kq ≤ k) ∧ Aside0 (Kd.R (Kd.int .i64) 3 w' w.heap.size (fun _=> True) v5 x5_1) ∧ Aside0 (Below w.heap.size w w'))
  case atStart=> exact ⟨(y947),(0),(by first|rfl|(simp;done)|(simp [*];done)),H',⟨Nat.le_refl _⟩,⟨by (with_reducible repeat (first|apply Kd.R_alloc|apply Kd.R_drewN|apply Kd.R_drew));exact HO949.out⟩,⟨by repeat (first|(with_reducible first|exact HB.out|apply bwA|apply bwN|apply bwD)|exact HB.out)⟩⟩
  case round=>
    clear H'
    try clear c1
    try clear p2
    obtain ⟨x5_1,x11_1,rfl,HA,HK1,HO_5,HB⟩:=hrel
    cases gk with
    |zero=> exact absurd HA.out (by simp [impl_places.l0])
    |succ k1=>
      have H:=HA.out
      clear HA
      simp only [impl_places.l0] at H
      by_cases c5:x11_1 < (l0.length:Int)
      · rw [if_pos c5] at H
        have c5b0:decide (x11_1 < (l0.length:Int))=true:=decide_eq_true c5
        clear c5
        by_cases c6:0 ≤ x11_1
        · rw [if_pos c6] at H
          have c6b0:decide (0 ≤ x11_1)=true:=decide_eq_true c6
          clear c6
          by_cases c7:x11_1 < (l0.length:Int)
          · rw [if_pos c7] at H
            have c7b0:decide (x11_1 < (l0.length:Int))=true:=decide_eq_true c7
            clear c7
            by_cases c8:a1=0
            · rw [if_pos c8] at H
              exact absurd H (by simp)
            · rw [if_neg c8] at H
              have c8b0:(a1==0)=false:=beq_eq_false_iff_ne.mpr c8
              have c8b1:(a1 !=0)=true:=bne_iff_ne.mpr c8
              by_cases c9:x5_1.length < 17592186044416
              · rw [if_pos c9] at H
                have LMc9:=Aside0.mk c9
                clear c9
                obtain ⟨y952,hy952⟩:∃ y_:List Int,y_=(x5_1 ++ [Int.tmod ((rd_T79 l0 x11_1).f0) a1]):=⟨_,rfl⟩
                replace H:(impl_places.l0 k1 a1 y952 l0 (l0.length:Int) (wrap64 (x11_1 + 1)))=some r:=by first|(rw [hy952];with_reducible exact H)|(have H2_:=(Option.bind_some _ _).symm.trans H;rw [hy952];with_reducible exact H2_)|(have H2_:=(Option.bind_some _ _).symm.trans H;with_reducible exact H2_)|with_reducible exact H|(rw [hy952];exact H)|exact H
                have Ny952:=Aside0.mk hy952
                clear hy952
                have H':=Aside0.mk H
                clear H
                have p950:0 ≤ (x11_1:Int):=of_decide_eq_true (by first|(with_reducible assumption)|assumption)
                have q950:x11_1 < (l0.length:Int):=of_decide_eq_true (by first|(with_reducible assumption)|assumption)
                obtain ⟨ad950,e950,hx950_0,hx950_1⟩:=at_T79 HR0.out x11_1 p950 q950
                cases e950
                replace hx950_0:=(HB.out.cell (World.block_lt_of_cell? w _ hx950_0)).trans hx950_0
                replace hx950_1:=(HB.out.cell (World.block_lt_of_cell? w _ hx950_1)).trans hx950_1
                replace p950:=eq_true p950
                replace q950:=eq_true q950
                go_wp2_with (first|((with_reducible refine gate_dst (N:=7) rfl ?_);refine box_event ?hg (N:=7) ?hd (cs:= #[.int .i64 0,.int .i64 0]) (t:=79) ?hr ?_;(case hd=> rfl);(case hg=> rfl);(case hr=> first|(go_simp;done)|(go_simp;rfl));intro gb951 hg w10 hbox hb;have n0_:=Aside0.mk (Kd.R_below (by (with_reducible repeat (first|apply Kd.R_alloc|apply Kd.R_drewN|apply Kd.R_drew));exact HO_5.out) hb);have n1_:=Aside0.mk (below_step (by repeat (first|(with_reducible first|exact HB.out|apply bwA|apply bwN|apply bwD)|exact HB.out)) hb);have n2_:=Aside0.mk (hbox);have n3_:=Aside0.mk ((by rw [hg];exact (below_size (by repeat (first|(with_reducible first|exact HB.out|apply bwA|apply bwN|apply bwD)|exact HB.out))):w.heap.size ≤ gb951));have n4_:=Aside0.mk ((by rw [hg];exact (below_size (by repeat (first|(with_reducible first|exact HB.out|apply bwA|apply bwN|apply bwD)|exact HB.out))):w.heap.size ≤ gb951));clear HO_5;clear HB;have HO_5:=n0_;have HB:=n1_;have BK951:=n2_;have GW951:=n3_;have GE951:=n4_;clear n0_ n1_ n2_ n3_ n4_;clear hb hbox hg;have hcz11_0:w10.cell? ⟨gb951,0,none⟩=some (.int .i64 0):=(blk_cell BK951.out 0).trans rfl;have hcz11_1:w10.cell? ⟨gb951,1,none⟩=some (.int .i64 0):=(blk_cell BK951.out 1).trans rfl;have hfz11_0:=blk_frozen BK951.out 0;have hfz11_1:=blk_frozen BK951.out 1)|((with_reducible refine gate_builtin (b:= .append) (xs:= #[.tmp 15,.tmp 20]) rfl ?_);at_builtin;refine Kd.R_append (Kd.int .i64) (w0:=w) w.heap.size rfl (.tmp 15) (.tmp 20) 86 3 (.int .i64 0) 8 rfl Try.underlying86 info3 rfl (by decide) (by omega) u5 x5_1 (Int.tmod ((rd_T79 l0 x11_1).f0) a1) [.int .i64 (Int.tmod ((rd_T79 l0 x11_1).f0) a1)] (fun _=> True) (fun _=> False) rfl (by first|(go_simp;done)|(go_simp;rfl)) ?aP (fun _ hk=> hk.elim) ?aF ?aO ?aB ?aS ?aL ?_;(case aP=> exact rfl);(case aB=> exact (by repeat (first|(with_reducible first|exact HB.out|apply bwA|apply bwN|apply bwD|refine bwS ?_ GE951.out)|exact HB.out)));(case aF=> exact (fun _ _=> trivial));(case aO=> exact (by (with_reducible repeat (first|apply Kd.R_alloc|apply Kd.R_drewN|apply Kd.R_drew));exact Kd.R_mono (Kd.R_far (p:=⟨gb951,1,none⟩) (Kd.R_far (p:=⟨gb951,0,none⟩) (Kd.R_types HO_5.out BK951.out (by decide)) (fun _ hk=> hk.2) (.int .i64 ((rd_T79 l0 x11_1).f0))) (fun _ hk=> hk.2) (.int .i64 ((rd_T79 l0 x11_1).f1))) (fun _ hk=> trivial)));(case aS=> exact (below_size (by repeat (first|(with_reducible first|exact HB.out|apply bwA|apply bwN|apply bwD|refine bwS ?_ GE951.out)|exact HB.out))));(case aL=> have:=LMc9.out;omega);intro v953 w12 ho hb hg hat;rw [← Ny952.out] at ho;have n0_:=Aside0.mk (blk_grown (g:=gb951) (o:= .cells #[.int .i64 ((rd_T79 l0 x11_1).f0),.int .i64 ((rd_T79 l0 x11_1).f1)] 79 (0,0)) (by (with_reducible repeat (first|apply bN|apply bd|apply bA));refine blk_put (cs:= #[.int .i64 ((rd_T79 l0 x11_1).f0),.int .i64 0]) ?_ 1 _ rfl;(with_reducible repeat (first|apply bN|apply bd|apply bA));refine blk_put (cs:= #[.int .i64 0,.int .i64 0]) ?_ 0 _ rfl;(with_reducible repeat (first|apply bN|apply bd|apply bA));exact BK951.out) hg (Kd.R_ne HO_5.out BK951.out (by decide)));have n1_:=Aside0.mk (hb);have n2_:=Aside0.mk (ho);clear BK951;clear HB;clear HO_5;have BK951:=n0_;have HB:=n1_;have HO954:=n2_;clear n0_ n1_ n2_;clear ho hb hg hat))
                go_roundg k1
                case measure=> have:=HK1.out;omega
                case rel=> exact ⟨(y952),(wrap64 (x11_1 + 1)),(by first|rfl|(simp;done)|(simp [*];done)),H',⟨by have:=HK1.out;omega⟩,⟨by (with_reducible repeat (first|apply Kd.R_alloc|apply Kd.R_drewN|apply Kd.R_drew));exact HO954.out⟩,⟨by repeat (first|(with_reducible first|exact HB.out|apply bwA|apply bwN|apply bwD|refine bwS ?_ GE951.out)|exact HB.out)⟩⟩
              · rw [if_neg c9] at H
                exact absurd H (by simp)
          · rw [if_neg c7] at H
            exact absurd H (by simp)
        · rw [if_neg c6] at H
          exact absurd H (by simp)
      · rw [if_neg c5] at H
        have c5b0:decide (x11_1 < (l0.length:Int))=false:=decide_eq_false c5
        clear c5
        obtain rfl:=Option.some.inj H
        go_wp2
        go_ret
        exact ⟨_,by first|rfl|(simp [errW_none,errW_some] <;> rfl)|(simp [*,errW_none,errW_some] <;> rfl),by (with_reducible repeat (first|apply Kd.R_alloc|apply Kd.R_drewN|apply Kd.R_drew));exact HO_5.out,by repeat (first|(with_reducible first|exact HB.out|apply bwA|apply bwN|apply bwD)|exact HB.out)⟩
end Go.Proofs.Ytlogocmojnhpbaa.Print
