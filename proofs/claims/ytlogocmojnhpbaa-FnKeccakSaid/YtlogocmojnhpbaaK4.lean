-- Packed by a program of this session (slim.py): contracts that many laws share; Lean checks it.
import Derived.Test.YtlogocmojnhpbaaP0
import Derived.Test.YtlogocmojnhpbaaK3
import Derived.Great.BuildSlice
import Derived.Great.Walk
section
namespace Go.Proofs.Ytlogocmojnhpbaa.Print
open Go.RowKit Go.Proofs.YtlogocmojnhpbaaW.PrintWords Go.Proofs.YtlogocmojnhpbaaW.PrintLast
set_option linter.unusedVariables false
set_option linter.unusedSimpArgs false
set_option maxHeartbeats 8000000 in
set_option maxRecDepth 100000 in
theorem hashS.calls (s:ByteArray) (w:World) (hs:s.size ≤ 140737488350000):
    Calls Try.prog 87 #[.string s] w fun e w'=> e= .returned (.string (strOfNums (kHash (bytesOf s)))) ∧ Below w.heap.size w w':=by
  have hsz:s.size ≤ 9223372036854775807:=by omega
  have hcv:=fun W=> print_bytes (P:=Try.prog) 9 25 5 Try.underlying9 Try.underlying25 Try.underlying5 s W
  have HM:=Aside0.mk (MRow.of_bytes w s hsz)
  have HB0:=Aside0.mk (bytes_below (Below.refl w.heap.size w) (Nat.le_refl _) 5 s)
  obtain ⟨R,hR⟩:∃ R,R=strOfNums (kHash (bytesOf s)):=⟨_,rfl⟩
  rw [← hR]
  have HRR:=Aside0.mk hR
  clear hR
  go_enter Try.func87,Try.ntmps87
  go_wp2_with ((with_reducible refine gate_builtin (b:= .append) (xs:= #[.tmp 9,.tmp 10]) rfl ?_);at_builtin;refine M_append (w0:=w) w.heap.size rfl (.tmp 9) (.tmp 10) rfl w.heap.size (grownCap w s.size 0 5) s.size (bytesOf s) 1 (bytesOf_length s) rfl rfl ?aM (Nat.le_refl _) ?aB ?aS (by omega) ?_;(case aM=> exact HM.out);(case aB=> exact HB0.out);(case aS=> exact below_size HB0.out);intro g1 cap1 w10 hm hg1 hb1;have n0_:=Aside0.mk hm;have n1_:=Aside0.mk hg1;have n2_:=Aside0.mk hb1;clear hm hg1 hb1)
  clear hcv HM HB0
  refine hashS.fill (bytesOf s ++ [1]) g1 cap1 (s.size + 1) w w10 (by simp [bytesOf_length]) (by simp [bytesOf_length];omega) n0_.out n1_.out n2_.out ?_
  intro a2 w2 g cap n hn hm hg hb hz
  obtain ⟨v12,hz⟩:=hz
  obtain ⟨v13,hz⟩:=hz
  obtain ⟨v14,hz⟩:=hz
  obtain ⟨v15,hz⟩:=hz
  obtain ⟨v16,hz⟩:=hz
  obtain ⟨v17,hz⟩:=hz
  obtain ⟨v18,hz⟩:=hz
  subst hz
  clear n0_ n1_ n2_
  have HL:=kFill_length (bytesOf s ++ [1]) (kGap (bytesOf s ++ [1]).length)
  rw [← hn] at HL
  have hlt:n ≤ 140737488350000 + 137:=by
    have h1:=kGap_lt (bytesOf s ++ [1]).length
    have h2:(bytesOf s ++ [1]).length=s.size + 1:=by simp [bytesOf_length]
    omega
  have hpos:0 < n:=by
    have h2:(bytesOf s ++ [1]).length=s.size + 1:=by simp [bytesOf_length]
    omega
  have hwhole:n % 136=0:=by rw [hn];exact kGap_whole _
  have hP:kPad (bytesOf s)=kMark (kFill (bytesOf s ++ [1]) (kGap (bytesOf s ++ [1]).length)):=by
    unfold kPad
    rw [List.length_append,List.length_singleton]
  generalize kFill (bytesOf s ++ [1]) (kGap (bytesOf s ++ [1]).length)=M at hm HL hP
  clear hn
  obtain ⟨q,rfl⟩:∃ q,n=q + 1:=⟨n - 1,by omega⟩
  have hqc:q < cap:=by
    obtain ⟨cur,fz,_,_,h1,_⟩:=hm
    omega
  have q0:=hm.cell q (by omega)
  have f0:=hm.free q hqc
  obtain ⟨v0,hv0⟩:∃ v,v=M.getD q 0:=⟨_,rfl⟩
  rw [← hv0] at q0
  have HV:=Aside0.mk hv0
  have HL:=Aside0.mk HL
  have HP:=Aside0.mk hP
  have HK:=Aside0.mk hm
  have HG:=Aside0.mk hg
  have HB:=Aside0.mk hb
  have HW:=Aside0.mk hwhole
  have hq2:q ≤ 140737488350000 + 136:=by omega
  clear hv0 hP hm hg hb hwhole hlt hpos
  have HK2:MRow (w2.setCell ⟨g,q,none⟩ (.int .u8 (Go.bits .or .u8 v0 128))) g cap (kPad (bytesOf s)):=by
    have h1:=HK.out.set q (Go.bits .or .u8 v0 128) (by have:=HL.out;omega)
    have h2:kPad (bytesOf s)=M.set q (Go.bits .or .u8 v0 128):=by
      have h3:M.length - 1=q:=by have:=HL.out;omega
      rw [HP.out,HV.out]
      unfold kMark
      rw [h3]
    rw [h2]
    exact h1
  have HB2:Below w.heap.size w (w2.setCell ⟨g,q,none⟩ (.int .u8 (Go.bits .or .u8 v0 128))):=bwS HB.out HG.out
  have HPL:Aside0 ((kPad (bytesOf s)).length=q + 1):=⟨by rw [HP.out,kMark_length];exact HL.out⟩
  go_upto_region 5 with fail
  clear q0 f0
  generalize w2.setCell ⟨g,q,none⟩ (.int .u8 (Go.bits .or .u8 v0 128))=W5 at HK2 HB2 ⊢
  apply wp_region_lit
  refine wpList_buildTo rfl 93 _ rfl (some 27) rfl z25 (by kernel_rfl) ?_
  refine Go.Great.wpList_allocTo rfl (some 4) rfl (.pointer (some ⟨W5.heap.size,0,none⟩)) (.cells z25 93) (by kernel_rfl) ?_
  refine wpList_store_rowTo rfl 93 _ _ rfl rfl W5.heap.size z25 (by kernel_rfl) (by kernel_rfl) 93 z25 (blk_new _ _) (by kernel_rfl) rfl (by kernel_rfl) ?_
  rw [setRow_self _ _ _ _ _ (blk_new _ _)]
  refine wpList_frame (a':=⟨List.toArray (Value.string s::undef::Value.string {data:= #[]}::Value.slice (some ⟨g,0,none⟩) (q + 1) cap::Value.pointer (some ⟨W5.heap.size,0,none⟩)::undef::undef::undef::Value.string s::Value.slice (some ⟨w.heap.size,0,none⟩) s.size (grownCap w s.size 0 5)::Value.slice (some ⟨(Lib.bytesWorld w 5 s).heap.size,0,none⟩) 1 1::Value.slice (some ⟨g1,0,none⟩) (s.size + 1) cap1::v12::v13::v14::v15::v16::v17::v18::Value.slice (some ⟨g,0,none⟩) (q + 1) cap::Value.slice (some ⟨g,0,none⟩) (q + 1) cap::Value.int .i64 ((q:Int) + 1)::Value.int .i64 (q:Int)::Value.pointer (some ⟨g,q,none⟩)::Value.int .u8 v0::Value.int .u8 (Go.bits .or .u8 v0 128)::Value.pointer (some ⟨g,q,none⟩)::Value.agg z25::undef::undef::undef::undef::undef::undef::undef::undef::undef::undef::undef::undef::undef::undef::undef::undef::undef::undef::undef::undef::undef::undef::undef::undef::undef::undef::undef::undef::undef:: []), []⟩) (by kernel_rfl) ?_
  apply wpList_nil
  have AG:Arr (W5.alloc (.cells z25 93)) W5.heap.size 93 .u64 (kSp (kPad (bytesOf s)) 0):=blk_new _ _
  have hne:g ≠ W5.heap.size:=by have:=HK2.lt;omega
  have HK3:=HK2.alloc (.cells z25 93)
  have HB3:=bwA HB2 (.cells z25 93)
  have hga:w.heap.size ≤ W5.heap.size:=HB2.size
  clear HK2 HB2 HK HB
  generalize W5.alloc (.cells z25 93)=W6 at AG HK3 HB3 ⊢
  generalize W5.heap.size=ga at AG hne hga ⊢
  have AG:=Aside0.mk AG
  have HK3:=Aside0.mk HK3
  have HB3:=Aside0.mk HB3
  go_wp2
  refine hashS.blocks (kPad (bytesOf s)) g cap (q + 1) ga ((q + 1) / 136) W6 HPL.out (by have:=HW.out;omega) (by omega) (kPad_in (bytesOf_in s)) hne HK3.out AG.out ?_
  intro a3 w3 S3 m3 hz
  obtain ⟨x5,hz⟩:=hz
  obtain ⟨x6,hz⟩:=hz
  obtain ⟨x7,hz⟩:=hz
  obtain ⟨x28,hz⟩:=hz
  obtain ⟨x29,hz⟩:=hz
  obtain ⟨x30,hz⟩:=hz
  obtain ⟨x31,hz⟩:=hz
  obtain ⟨x32,hz⟩:=hz
  obtain ⟨x33,hz⟩:=hz
  obtain ⟨x34,hz⟩:=hz
  obtain ⟨x35,hz⟩:=hz
  obtain ⟨x36,hz⟩:=hz
  obtain ⟨x37,hz⟩:=hz
  obtain ⟨x38,hz⟩:=hz
  obtain ⟨x39,hz⟩:=hz
  obtain ⟨x40,hz⟩:=hz
  obtain ⟨x41,hz⟩:=hz
  obtain ⟨x42,hz⟩:=hz
  obtain ⟨x43,hz⟩:=hz
  obtain ⟨x44,hz⟩:=hz
  obtain ⟨x45,hz⟩:=hz
  obtain ⟨x46,hz⟩:=hz
  obtain ⟨x47,hz⟩:=hz
  obtain ⟨x48,hz⟩:=hz
  obtain ⟨x49,hz⟩:=hz
  obtain ⟨x50,hz⟩:=hz
  obtain ⟨x51,hz⟩:=hz
  obtain ⟨x52,hz⟩:=hz
  obtain ⟨x53,hz⟩:=hz
  obtain ⟨x54,hz⟩:=hz
  subst hz
  have HB4:Below w.heap.size w w3:=m3.2.2 w HB3.out (fun i hi e=> by omega)
  have hSl:=kSp_length (kPad (bytesOf s)) ((q + 1) / 136)
  have HE:R=strOfNums (kText (kSp (kPad (bytesOf s)) ((q + 1) / 136)) 32):=by
    rw [HRR.out]
    unfold kHash
    rw [HPL.out]
  generalize kSp (kPad (bytesOf s)) ((q + 1) / 136)=S at S3 hSl HE
  have HE:=Aside0.mk HE
  have hsz:(nums .u64 S).toArray.size=25:=by simp [nums,hSl]
  clear AG HK3 HB3 m3
  go_upto_region 15 with fail
  apply wp_region_lit
  refine wpList_load_row rfl 93 _ rfl ga rfl 93 _ (0,0) _ S3 Try.underlying93 rfl (by rw [hsz];kernel_rfl) ?_
  refine wpList_callStep rfl (some 56) rfl 80 #[.agg (nums .u64 S).toArray,.int .i64 ((32:Nat):Int)] (by kernel_rfl) (textS.calls S 32 w3 hSl (by omega)) ?_
  rintro e w4 ⟨rfl,hb4⟩
  refine ⟨_,rfl,?_⟩
  refine Go.Great.wpList_readTo rfl (some 2) rfl (.string (strOfNums (kText S 32))) (by kernel_rfl) ?_
  refine wpList_frame (a':=⟨List.toArray (Value.string s::undef::Value.string (strOfNums (kText S 32))::Value.slice (some ⟨g,0,none⟩) (q + 1) cap::Value.pointer (some ⟨ga,0,none⟩)::x5::x6::x7::Value.string s::Value.slice (some ⟨w.heap.size,0,none⟩) s.size (grownCap w s.size 0 5)::Value.slice (some ⟨(Lib.bytesWorld w 5 s).heap.size,0,none⟩) 1 1::Value.slice (some ⟨g1,0,none⟩) (s.size + 1) cap1::v12::v13::v14::v15::v16::v17::v18::Value.slice (some ⟨g,0,none⟩) (q + 1) cap::Value.slice (some ⟨g,0,none⟩) (q + 1) cap::Value.int .i64 ((q:Int) + 1)::Value.int .i64 (q:Int)::Value.pointer (some ⟨g,q,none⟩)::Value.int .u8 v0::Value.int .u8 (Go.bits .or .u8 v0 128)::Value.pointer (some ⟨g,q,none⟩)::Value.agg z25::x28::x29::x30::x31::x32::x33::x34::x35::x36::x37::x38::x39::x40::x41::x42::x43::x44::x45::x46::x47::x48::x49::x50::x51::x52::x53::x54::Value.agg (nums .u64 S).toArray::Value.string (strOfNums (kText S 32)):: []), []⟩) (by kernel_rfl) ?_
  apply wpList_nil
  have HB5:=Aside0.mk (below_step HB4 hb4)
  clear hSl hsz hb4 HB4 S3
  have HE:=HE.out
  generalize strOfNums (kText S 32)=R2 at HE ⊢
  have HE:=Aside0.mk HE
  go_wp2
  go_ret
  refine ⟨?_,HB5.out⟩
  have e:=HE.out
  clear HE
  subst e
  rfl
end Go.Proofs.Ytlogocmojnhpbaa.Print
end
section
namespace Go.Proofs.Ytlogocmojnhpbaa.Print
open Go.RowKit Go.Proofs.YtlogocmojnhpbaaW.PrintWords Go.Proofs.YtlogocmojnhpbaaW.PrintLast
set_option linter.unusedVariables false
set_option linter.unusedSimpArgs false
def kCat (xss:List (List Int)):Nat → List Int
  |0=> []
  |k + 1=> kCat xss k ++ xss.getD k []
theorem kCat_mono (xss:List (List Int)) {k n:Nat} (h:k ≤ n):(kCat xss k).length ≤ (kCat xss n).length:=by
  induction n with
  |zero=>
    obtain rfl:k=0:=by omega
    exact Nat.le_refl _
  |succ n ih=>
    by_cases e:k=n + 1
    · subst e
      exact Nat.le_refl _
    · have:=ih (by omega)
      simp only [kCat,List.length_append]
      omega
set_option maxHeartbeats 8000000 in
set_option maxRecDepth 100000 in
theorem hashI.cat (w wr:World) (xss:List (List Int)) (A:Option Addr) (n c:Nat) (va:Value) {u0 u1 u2 u4 u5 u6 u7 u8 u9 u13 u14 u15 u16 u17 u18 u19 u20 u21 u22 u23 u24 u25 u26 u27 u28 u29 u30 u31 u32 u33 u34 u35 u36 u37 u38 u39 u40 u41 u42 u43 u44 u45 u46 u47 u48 u49 u50 u51 u52 u53 u54 u55 u56 u57 u58 u59 u60 u61:Value} {Q:Exit → Act → World → Prop} (hn:xss.length=n) (hl:(kCat xss n).length ≤ 140737488350000) (hC:(Kd.slice 5 (Kd.int .u8)).C w A n xss) (hv:(Kd.int .u8).R 5 wr w.heap.size (fun _=> True) va []) (hb:Below w.heap.size w wr)
    (hexit:∀ (a':Act) (w':World) (v:Value),(Kd.int .u8).R 5 w' w.heap.size (fun _=> True) v (kCat xss n) → Below w.heap.size w w' → (∃ z5 z12 z13 z14 z15 z16 z17 z18 z19:Value,a'=⟨List.toArray (u0::u1::u2::v::u4::z5::u6::u7::u8::u9::Value.slice A n c::Value.int .i64 (n:Int)::z12::z13::z14::z15::z16::z17::z18::z19::u20::u21::u22::u23::u24::u25::u26::u27::u28::u29::u30::u31::u32::u33::u34::u35::u36::u37::u38::u39::u40::u41::u42::u43::u44::u45::u46::u47::u48::u49::u50::u51::u52::u53::u54::u55::u56::u57::u58::u59::u60::u61:: []), []⟩) → Q (.exit 0) a' w'):
    Code.wp Try.prog (nthLoop Try.f88.body 0) Q ⟨List.toArray (u0::u1::u2::va::u4::u5::u6::u7::u8::u9::Value.slice A n c::Value.int .i64 (n:Int)::Value.int .i64 0::u13::u14::u15::u16::u17::u18::u19::u20::u21::u22::u23::u24::u25::u26::u27::u28::u29::u30::u31::u32::u33::u34::u35::u36::u37::u38::u39::u40::u41::u42::u43::u44::u45::u46::u47::u48::u49::u50::u51::u52::u53::u54::u55::u56::u57::u58::u59::u60::u61:: []), []⟩ wr:=by
  conv=> arg 2;whnf
  have HN:=Aside0.mk hn
  have hnm:=Kd.C_max hC
  have HC:=Aside0.mk hC
  have HV:=Aside0.mk hv
  have HB:=Aside0.mk hb
  have HX:=Aside0.mk hexit
  clear hn hC hv hb hexit
  go_loopg [3,12] n (fun gg s3 s12 w'=> ∃ (k:Nat) (x3:List Int),k ≤ n ∧ n - k ≤ gg ∧ s12= .int .i64 k ∧ Aside0 (x3=kCat xss k) ∧ Aside0 ((Kd.int .u8).R 5 w' w.heap.size (fun _=> True) s3 x3) ∧ Aside0 (Below w.heap.size w w'))
  case atStart=> exact ⟨0, [],by omega,by omega,rfl,⟨rfl⟩,HV,HB⟩
  case round=>
    obtain ⟨k,x3,hk,hg,rfl,HX3,HO3,HO⟩:=hrel
    by_cases hlt:k < n
    · have hltz:(k:Int) < (n:Int):=by omega
      have h0z:(0:Int) ≤ (k:Int):=by omega
      obtain ⟨ad,cs,e0,hcl,hK,hcell⟩:=Kd.C_get HC.out ([]:List Int) (k:Int) h0z hltz
      have hlen:(kCat xss (k + 1)).length ≤ 140737488350000:=Nat.le_trans (kCat_mono xss hlt) hl
      have hcat:kCat xss (k + 1)=kCat xss k ++ xss.getD k []:=rfl
      simp only [Int.toNat_natCast] at hK hcell
      obtain ⟨A1,c1,rfl,hc1,hC1⟩:=hK
      obtain ⟨y,hy⟩:∃ y,y=xss.getD k []:=⟨_,rfl⟩
      rw [← hy] at hC1 hcat hc1 hcell
      obtain ⟨my,hmy⟩:∃ my,my=y.length:=⟨_,rfl⟩
      rw [← hmy] at hC1 hc1 hcell
      have hx0:w.cell? (ad.add k)=some (Value.slice A1 my c1):=by
        have:=hcell 0 _ rfl
        rw [Nat.add_zero,show (Kd.slice 5 (Kd.int .u8)).sz=1 from rfl,Nat.mul_one] at this
        exact this
      have hx1:wr.cell? (ad.add k)=some (Value.slice A1 my c1):=(World.cell?_of_block (HO.out.block _ (World.block_lt_of_cell? w _ hx0))).trans hx0
      subst e0
      have HLEN:=Aside0.mk hlen
      have HCAT:=Aside0.mk hcat
      have HMY:=Aside0.mk hmy
      have HY:=Aside0.mk hy
      have HC1:=Aside0.mk (Kd.C_below hC1 HO.out)
      have LM:Aside0 (x3.length + my ≤ 140737488355328):=⟨by have h1:=HLEN.out;rw [HCAT.out,List.length_append,← HX3.out,← HMY.out] at h1;omega⟩
      clear hcl hcell hx0 hlen hcat hmy hy hC1 hc1
      go_wp2_with (first|((with_reducible refine gate_builtin (b:= .append) (xs:= #[.tmp 16,.tmp 17]) rfl ?_);at_builtin;refine Kd.R_append_row (Value.int .u8) (0:Int) (h1:=fun _=> rfl) (w0:=w) w.heap.size rfl (.tmp 16) (.tmp 17) 25 5 (.int .u8 0) 1 rfl Try.underlying25 info5 rfl (by decide) _ x3 y A1 my c1 (fun _=> True) rfl rfl (fun _ _=> trivial) ?aO ?aR ?aB ?aS ?aL ?_;(case aO=> exact HO3.out);(case aR=> exact HC1.out);(case aB=> exact HO.out);(case aS=> exact below_size HO.out);(case aL=> have:=LM.out;omega);intro v1 w10 ho hb hg hat;have n0_:=Aside0.mk ho;have n1_:=Aside0.mk hb;clear ho hb hg hat))
      go_roundg (n - (k + 1))
      case measure=> omega
      case rel=> exact ⟨k + 1,x3 ++ y,by omega,by omega,by go_num,⟨by rw [HCAT.out,HX3.out]⟩,n0_,n1_⟩
    · have e:k=n:=by omega
      subst e
      have hltz:¬ ((k:Int) < (k:Int)):=by omega
      go_wp2
      exact HX.out _ _ _ (by rw [← HX3.out];exact HO3.out) HO.out ⟨_,_,_,_,_,_,_,_,_,rfl⟩
end Go.Proofs.Ytlogocmojnhpbaa.Print
end
section
namespace Go.Proofs.Ytlogocmojnhpbaa.Print
open Go.RowKit Go.Proofs.YtlogocmojnhpbaaW.PrintWords Go.Proofs.YtlogocmojnhpbaaW.PrintLast
set_option linter.unusedVariables false
set_option linter.unusedSimpArgs false
theorem info5_one:∃ i,Try.prog.info? 5=some i ∧ i.size=1:=by
  have:=info5
  obtain ⟨i,hi,hz⟩:=Option.map_eq_some_iff.1 this
  simp only [Prod.mk.injEq] at hz
  exact ⟨i,hi,hz.2.1⟩
theorem slice_to (A:Option Addr) (n c j:Nat) (hj:j ≤ n) (hc:n ≤ c) (w:World):(Instr.slice 25 (.slice A n c) none (some (.int .i64 (j:Int))) none).run Try.prog w= .ok (.slice A j c) w:=by
  obtain ⟨i,hi,hs⟩:=info5_one
  have:=cut_to (P:=Try.prog) 25 5 .i64 Try.underlying25 hi A n c (j:Int) (by omega) (by omega) hc w
  rw [Int.toNat_natCast] at this
  exact this
theorem slice_from (g o n c j:Nat) (hj:j ≤ n) (w:World):(Instr.slice 25 (.slice (some ⟨g,o,none⟩) n c) (some (.int .i64 (j:Int))) none none).run Try.prog w= .ok (.slice (some ⟨g,if c=j then o else o + j,none⟩) (n - j) (c - j)) w:=by
  obtain ⟨i,hi,hs⟩:=info5_one
  have:=cut_from (P:=Try.prog) 25 5 .i64 Try.underlying25 hi 1 hs (some ⟨g,o,none⟩) n c (j:Int) (by omega) (by omega) w
  rw [Int.toNat_natCast] at this
  rw [this]
  by_cases h:c=j
  · rw [if_pos h,if_pos h]
  · rw [if_neg h,if_neg h,Option.map_some,addr_at,Nat.mul_one]
set_option maxHeartbeats 8000000 in
set_option maxRecDepth 100000 in
theorem hashI.blocks (m:List Int) (g cap L ga nb:Nat) (wr':World) {u0 u1 u2 u4 u5 u7 u8 u9 u10 u11 u12 u13 u14 u15 u16 u17 u18 u19 u20 u21 u22 u23 u24 u25 u26 u27 u28 u29 u30 u31 u32 u33 u34 u35 u36 u37 u38 u39 u40 u41 u42 u43 u44 u45 u46 u47 u48 u49 u50 u51 u52 u53 u54 u55 u56 u57 u58 u59 u60 u61:Value} {Q:Exit → Act → World → Prop} (hm:m.length=L) (hnb:L=136 * nb) (hL:L ≤ 140737488355328) (hin:AllB m) (hne:g ≠ ga) (hr:MRow wr' g cap m) (hb:Arr wr' ga 96 .u64 (kSp m 0))
    (hexit:∀ (a':Act) (w':World),Arr w' ga 96 .u64 (kSp m nb) → Moved wr' w' (fun i=> i=ga) → (∃ z3 z7 z8 z39 z40 z41 z42 z43 z44 z45 z46 z47 z48 z49 z50 z51 z52 z53 z54 z55 z56 z57 z58:Value,a'=⟨List.toArray (u0::u1::u2::z3::u4::u5::Value.pointer (some ⟨ga,0,none⟩)::z7::z8::u9::u10::u11::u12::u13::u14::u15::u16::u17::u18::u19::u20::u21::u22::u23::u24::u25::u26::u27::u28::u29::u30::u31::u32::u33::u34::u35::u36::u37::u38::z39::z40::z41::z42::z43::z44::z45::z46::z47::z48::z49::z50::z51::z52::z53::z54::z55::z56::z57::z58::u59::u60::u61:: []), []⟩) → Q (.exit 4) a' w'):
    Code.wp Try.prog (nthLoop Try.f88.body 2) Q ⟨List.toArray (u0::u1::u2::Value.slice (some ⟨g,0,none⟩) L cap::u4::u5::Value.pointer (some ⟨ga,0,none⟩)::u7::u8::u9::u10::u11::u12::u13::u14::u15::u16::u17::u18::u19::u20::u21::u22::u23::u24::u25::u26::u27::u28::u29::u30::u31::u32::u33::u34::u35::u36::u37::u38::u39::u40::u41::u42::u43::u44::u45::u46::u47::u48::u49::u50::u51::u52::u53::u54::u55::u56::u57::u58::u59::u60::u61:: []), []⟩ wr':=by
  conv=> arg 2;whnf
  have HM:=Aside0.mk hm
  have HNB:=Aside0.mk hnb
  have HI:=Aside0.mk hin
  have HB:=Aside0.mk hb
  have HX:=Aside0.mk hexit
  have hcapL:L ≤ cap:=by
    obtain ⟨cur,fz,_,_,h1,_⟩:=hr
    rw [hm] at h1
    exact h1
  have HR:=Aside0.mk hr
  have HCL:=Aside0.mk hcapL
  clear hm hnb hin hr hb hexit hcapL
  go_loopg [3] nb (fun gg s3 w'=> ∃ k o r c:Nat,k ≤ nb ∧ nb - k ≤ gg ∧ s3= .slice (some ⟨g,o,none⟩) r c ∧ Aside0 (r + 136 * k=L ∧ c + 136 * k=cap ∧ (0 < r → o=136 * k)) ∧ Aside0 (Arr w' ga 96 .u64 (kSp m k)) ∧ Aside0 (Moved wr' w' (fun i=> i=ga)))
  case atStart=> exact ⟨0,0,L,cap,by omega,by omega,rfl,⟨by omega,by omega,fun _=> rfl⟩,HB,⟨Moved.refl _ _⟩⟩
  case round=>
    obtain ⟨k,o,r,c,hk,hg,rfl,HQ,HK,HO⟩:=hrel
    by_cases hlt:k < nb
    · have hr1:136 ≤ r:=by have h1:=HQ.out.1;have:=HNB.out;omega
      have hrc:r ≤ c:=by have h1:=HQ.out.1;have h2:=HQ.out.2.1;have:=HCL.out;omega
      have ho:o=136 * k:=HQ.out.2.2 (by omega)
      have hrz:(0:Int) < (r:Int):=by omega
      have HRW:=HR.out.moved HO.out (fun e=> hne e)
      have hp:o + 136 ≤ L:=by have h1:=HQ.out.1;omega
      have HC:=HRW.part o 136 (by rw [HM.out];exact hp)
      have hsl:=fun w=> slice_to (some ⟨g,o,none⟩) r c 136 hr1 hrc w
      obtain ⟨o1,r1,c1,hsf,hrr⟩:∃ o1 r1 c1:Nat,(∀ w,(Instr.slice 25 (.slice (some ⟨g,o,none⟩) r c) (some (.int .i64 136)) none none).run Try.prog w= .ok (.slice (some ⟨g,o1,none⟩) r1 c1) w) ∧ (r1 + 136=r ∧ c1 + 136=c ∧ (c ≠ 136 → o1=o + 136)):=⟨if c=136 then o else o + 136,r - 136,c - 136,fun w=> slice_from g o r c 136 hr1 w,by omega,by omega,fun h=> if_neg h⟩
      have HRR:=Aside0.mk hrr
      have hBl:kBlock m k=(m.drop o).take 136:=by rw [ho];rfl
      rw [← hBl] at HC
      have hBn:(kBlock m k).length=136:=kBlock_length (n:=nb) (by rw [HM.out];exact HNB.out) hlt
      have L1:=lanesI.calls (some ⟨g,o,none⟩) c (kBlock m k) wr (by rw [hBn];exact HC) (by rw [hBn];omega)
      rw [hBn] at L1
      have hV:=fun (j:Nat) (w:World) (hj:j < 25)=> idx_arr Try.underlying96 size92 agg92 .u64 (kLanes (kBlock m k) 136) (kLanes_length _ _) j w hj
      generalize Value.agg (nums .u64 (kLanes (kBlock m k) 136)).toArray=V at L1 hV
      have HL1:=Aside0.mk L1
      have HV:=Aside0.mk hV
      have HSF:=Aside0.mk hsf
      clear hBl hBn HC L1 hV hsf ho hrr
      go_wp2_with (go_at_call 84;refine HL1.out.mono ?_;rintro e w1 ⟨rfl,hb1⟩)
      have AG:Arr w1 ga 96 .u64 (kSp m k):=(hb1.block ga HK.out.lt).trans HK.out
      have MV:Moved wr' w1 (fun i=> i=ga):=HO.out.trans (Moved.of_below hb1)
      clear hb1 HK HO hsl HRW
      have hl:=kSp_length m k
      have MV:=Aside0.mk MV
      refine hashI.xor ga V (kSp m k) (kLanes (kBlock m k) 136) w1 hl HV.out AG ?_
      intro a2 W2 S2 m2 hz
      obtain ⟨y7,hz⟩:=hz
      obtain ⟨y8,hz⟩:=hz
      obtain ⟨y47,hz⟩:=hz
      obtain ⟨y48,hz⟩:=hz
      obtain ⟨y49,hz⟩:=hz
      obtain ⟨y50,hz⟩:=hz
      obtain ⟨y51,hz⟩:=hz
      obtain ⟨y52,hz⟩:=hz
      obtain ⟨y53,hz⟩:=hz
      obtain ⟨y54,hz⟩:=hz
      obtain ⟨y55,hz⟩:=hz
      obtain ⟨y56,hz⟩:=hz
      obtain ⟨y57,hz⟩:=hz
      subst hz
      have MV:=MV.out.trans m2
      have hX:(kXor (kSp m k) (kLanes (kBlock m k) 136) 25).length=25:=by rw [kXor_length];exact hl
      have hsp:kSp m (k + 1)=kPerm (kXor (kSp m k) (kLanes (kBlock m k) 136) 25) 24:=rfl
      have L2:=permI.calls ga (kXor (kSp m k) (kLanes (kBlock m k) 136) 25) W2 hX S2
      rw [← hsp] at L2
      have L2:=Aside0.mk L2
      have MV:=Aside0.mk MV
      have hsf:=fun w=> HSF.out w
      clear m2 AG hX S2 hsp hl
      go_wp2_with (go_at_call 85;refine L2.out.mono ?_;rintro e w3 ⟨rfl,S3,M3⟩)
      have MV:=Aside0.mk (MV.out.trans M3)
      have AF:=Aside0.mk S3
      clear S3 M3 hsf
      go_roundg (nb - (k + 1))
      case measure=> omega
      case rel=>
        obtain ⟨e1,e2,e3⟩:=HRR.out
        refine ⟨k + 1,o1,r1,c1,by omega,by omega,rfl,⟨?_,?_,?_⟩,AF,MV⟩
        · have h1:=HQ.out.1;omega
        · have h1:=HQ.out.2.1;omega
        · intro h0
          have h1:=HQ.out.2.2 (by omega)
          rw [e3 (by omega)]
          omega
    · have e:k=nb:=by omega
      subst e
      have hq:r=0:=by have:=HQ.out.1;have:=HNB.out;omega
      subst hq
      go_wp2
      exact HX.out _ _ HK.out HO.out ⟨_,_,_,_,_,_,_,_,_,_,_,_,_,_,_,_,_,_,_,_,_,_,_,rfl⟩
end Go.Proofs.Ytlogocmojnhpbaa.Print
end
section
namespace Go.Proofs.Ytlogocmojnhpbaa.Print
open Go.RowKit Go.Proofs.YtlogocmojnhpbaaW.PrintWords Go.Proofs.YtlogocmojnhpbaaW.PrintLast
set_option linter.unusedVariables false
set_option linter.unusedSimpArgs false
set_option maxHeartbeats 8000000 in
set_option maxRecDepth 100000 in
theorem hashI.calls (A:Option Addr) (n c:Nat) (xss:List (List Int)) (w:World) (hC:(Kd.slice 5 (Kd.int .u8)).C w A n xss) (hin:AllB (kCat xss n)) (hl:(kCat xss n).length ≤ 140737488350000):
    Calls Try.prog 88 #[.slice A n c] w fun e w'=> e= .returned (.string (strOfNums (kHash (kCat xss n)))) ∧ Below w.heap.size w w':=by
  obtain ⟨R,hR⟩:∃ R,R=strOfNums (kHash (kCat xss n)):=⟨_,rfl⟩
  rw [← hR]
  have HRR:=Aside0.mk hR
  have HIN:=Aside0.mk hin
  have HC:=Aside0.mk hC
  clear hR hin hC
  go_enter Try.func88,Try.ntmps88
  go_wp2_with (first|((with_reducible refine gate_dst (N:=9) rfl ?_);refine Kd.R_lit (Kd.int .u8) _ 5 ?hg (N:=9) ?hd (xs:=([]:List Int)) (inner:= []) (ok:=fun _=> True) (okp:=fun _=> True) ?hr ?hp (fun _ hk=> hk) trivial (Below.refl _ _) (Nat.le_refl _) (by simp) ?_;(case hd=> rfl);(case hg=> rfl);(case hr=> first|(go_simp;done)|(go_simp;rfl));(case hp=> exact (Reps.none _ _));intro va w3 ho4 hb hg_ hnew_;clear hg_ hnew_;have n0_:=Aside0.mk ho4;have n1_:=Aside0.mk hb;clear ho4 hb))
  refine hashI.cat w w3 xss A n c va (Kd.C_len HC.out) hl HC.out n0_.out n1_.out ?_
  intro a2 w2 v hv hb hz
  obtain ⟨y5,hz⟩:=hz
  obtain ⟨y12,hz⟩:=hz
  obtain ⟨y13,hz⟩:=hz
  obtain ⟨y14,hz⟩:=hz
  obtain ⟨y15,hz⟩:=hz
  obtain ⟨y16,hz⟩:=hz
  obtain ⟨y17,hz⟩:=hz
  obtain ⟨y18,hz⟩:=hz
  obtain ⟨y19,hz⟩:=hz
  subst hz
  clear n0_ n1_
  generalize kCat xss n=X at hl hv HRR HIN
  have HV:=Aside0.mk hv
  have HB:=Aside0.mk hb
  clear hv hb
  go_wp2_with (first|((with_reducible refine gate_builtin (b:= .append) (xs:= #[.tmp 20,.tmp 21]) rfl ?_);at_builtin;refine Kd.R_append (Kd.int .u8) (w0:=w) w.heap.size rfl (.tmp 20) (.tmp 21) 25 5 (.int .u8 0) 1 rfl Try.underlying25 info5 rfl (by decide) (by omega) v X 1 [.int .u8 1] (fun _=> True) (fun _=> False) rfl rfl ?aP (fun _ hk=> hk.elim) ?aF ?aO ?aB ?aS ?aL ?_;(case aP=> exact rfl);(case aB=> exact HB.out);(case aF=> exact (fun _ _=> trivial));(case aO=> exact HV.out);(case aS=> exact below_size HB.out);(case aL=> omega);intro v1 w10 ho hb hg hat;obtain ⟨g1,cap1,hv1,hg1,hm1⟩:=MRow.of_R ho (by simp);obtain ⟨n0,hn0⟩:∃ n0,(X ++ [1]).length=n0:=⟨_,rfl⟩;rw [hn0] at hv1;subst hv1;have n0_:=Aside0.mk hm1;have n1_:=Aside0.mk hg1;have n2_:=Aside0.mk hb;have n3_:=Aside0.mk hn0;clear ho hb hg hat hg1 hm1 hn0))
  have hl1:(X ++ [1]).length=X.length + 1:=by simp
  refine hashI.fill (X ++ [1]) g1 cap1 n0 w w10 n3_.out (by omega) n0_.out n1_.out n2_.out ?_
  intro a3 w4 g cap m hn hm hg hb hz
  obtain ⟨t23,hz⟩:=hz
  obtain ⟨t24,hz⟩:=hz
  obtain ⟨t25,hz⟩:=hz
  obtain ⟨t26,hz⟩:=hz
  obtain ⟨t27,hz⟩:=hz
  obtain ⟨t28,hz⟩:=hz
  obtain ⟨t29,hz⟩:=hz
  subst hz
  clear n0_ n1_ n2_ n3_ HV HB
  have HL:=kFill_length (X ++ [1]) (kGap (X ++ [1]).length)
  rw [← hn] at HL
  have hlt:m ≤ 140737488350000 + 137:=by
    have h1:=kGap_lt (X ++ [1]).length
    omega
  have hpos:0 < m:=by omega
  have hwhole:m % 136=0:=by rw [hn];exact kGap_whole _
  have hP:kPad X=kMark (kFill (X ++ [1]) (kGap (X ++ [1]).length)):=by
    unfold kPad
    rw [List.length_append,List.length_singleton]
  generalize kFill (X ++ [1]) (kGap (X ++ [1]).length)=M at hm HL hP
  clear hn hl1
  obtain ⟨q,rfl⟩:∃ q,m=q + 1:=⟨m - 1,by omega⟩
  have hqc:q < cap:=by
    obtain ⟨cur,fz,_,_,h1,_⟩:=hm
    omega
  have q0:=hm.cell q (by omega)
  have f0:=hm.free q hqc
  obtain ⟨v0,hv0⟩:∃ v,v=M.getD q 0:=⟨_,rfl⟩
  rw [← hv0] at q0
  have HV:=Aside0.mk hv0
  have HL:=Aside0.mk HL
  have HP:=Aside0.mk hP
  have HK:=Aside0.mk hm
  have HG:=Aside0.mk hg
  have HB:=Aside0.mk hb
  have HW:=Aside0.mk hwhole
  have hq2:q ≤ 140737488350000 + 136:=by omega
  clear hv0 hP hm hg hb hwhole hlt hpos
  have HK2:MRow (w4.setCell ⟨g,q,none⟩ (.int .u8 (Go.bits .or .u8 v0 128))) g cap (kPad X):=by
    have h1:=HK.out.set q (Go.bits .or .u8 v0 128) (by have:=HL.out;omega)
    have h2:kPad X=M.set q (Go.bits .or .u8 v0 128):=by
      have h3:M.length - 1=q:=by have:=HL.out;omega
      rw [HP.out,HV.out]
      unfold kMark
      rw [h3]
    rw [h2]
    exact h1
  have HB2:Below w.heap.size w (w4.setCell ⟨g,q,none⟩ (.int .u8 (Go.bits .or .u8 v0 128))):=bwS HB.out HG.out
  have HPL:Aside0 ((kPad X).length=q + 1):=⟨by rw [HP.out,kMark_length];exact HL.out⟩
  go_upto_region 11 with fail
  clear q0 f0
  generalize w4.setCell ⟨g,q,none⟩ (.int .u8 (Go.bits .or .u8 v0 128))=W5 at HK2 HB2 ⊢
  apply wp_region_lit
  refine wpList_buildTo rfl 96 _ rfl (some 38) rfl z25 (by kernel_rfl) ?_
  refine Go.Great.wpList_allocTo rfl (some 6) rfl (.pointer (some ⟨W5.heap.size,0,none⟩)) (.cells z25 96) (by kernel_rfl) ?_
  refine wpList_store_rowTo rfl 96 _ _ rfl rfl W5.heap.size z25 (by kernel_rfl) (by kernel_rfl) 96 z25 (blk_new _ _) (by kernel_rfl) rfl (by kernel_rfl) ?_
  rw [setRow_self _ _ _ _ _ (blk_new _ _)]
  refine wpList_frame (a':=⟨List.toArray (Value.slice A n c::undef::Value.string {data:= #[]}::Value.slice (some ⟨g,0,none⟩) (q + 1) cap::undef::y5::Value.pointer (some ⟨W5.heap.size,0,none⟩)::undef::undef::va::Value.slice A n c::Value.int .i64 (n:Int)::y12::y13::y14::y15::y16::y17::y18::y19::v::Value.slice (some ⟨w2.heap.size,0,none⟩) 1 1::Value.slice (some ⟨g1,0,none⟩) n0 cap1::t23::t24::t25::t26::t27::t28::t29::Value.slice (some ⟨g,0,none⟩) (q + 1) cap::Value.slice (some ⟨g,0,none⟩) (q + 1) cap::Value.int .i64 ((q:Int) + 1)::Value.int .i64 (q:Int)::Value.pointer (some ⟨g,q,none⟩)::Value.int .u8 v0::Value.int .u8 (Go.bits .or .u8 v0 128)::Value.pointer (some ⟨g,q,none⟩)::Value.agg z25::undef::undef::undef::undef::undef::undef::undef::undef::undef::undef::undef::undef::undef::undef::undef::undef::undef::undef::undef::undef::undef::undef::undef:: []), []⟩) (by kernel_rfl) ?_
  apply wpList_nil
  have AG:Arr (W5.alloc (.cells z25 96)) W5.heap.size 96 .u64 (kSp (kPad X) 0):=blk_new _ _
  have hne:g ≠ W5.heap.size:=by have:=HK2.lt;omega
  have HK3:=HK2.alloc (.cells z25 96)
  have HB3:=bwA HB2 (.cells z25 96)
  have hga:w.heap.size ≤ W5.heap.size:=HB2.size
  clear HK2 HB2 HK HB
  generalize W5.alloc (.cells z25 96)=W6 at AG HK3 HB3 ⊢
  generalize W5.heap.size=ga at AG hne hga ⊢
  have AG:=Aside0.mk AG
  have HK3:=Aside0.mk HK3
  have HB3:=Aside0.mk HB3
  go_wp2
  refine hashI.blocks (kPad X) g cap (q + 1) ga ((q + 1) / 136) W6 HPL.out (by have:=HW.out;omega) (by omega) (kPad_in HIN.out) hne HK3.out AG.out ?_
  intro a5 w7 S3 m3 hz
  obtain ⟨x3,hz⟩:=hz
  obtain ⟨x7,hz⟩:=hz
  obtain ⟨x8,hz⟩:=hz
  obtain ⟨x39,hz⟩:=hz
  obtain ⟨x40,hz⟩:=hz
  obtain ⟨x41,hz⟩:=hz
  obtain ⟨x42,hz⟩:=hz
  obtain ⟨x43,hz⟩:=hz
  obtain ⟨x44,hz⟩:=hz
  obtain ⟨x45,hz⟩:=hz
  obtain ⟨x46,hz⟩:=hz
  obtain ⟨x47,hz⟩:=hz
  obtain ⟨x48,hz⟩:=hz
  obtain ⟨x49,hz⟩:=hz
  obtain ⟨x50,hz⟩:=hz
  obtain ⟨x51,hz⟩:=hz
  obtain ⟨x52,hz⟩:=hz
  obtain ⟨x53,hz⟩:=hz
  obtain ⟨x54,hz⟩:=hz
  obtain ⟨x55,hz⟩:=hz
  obtain ⟨x56,hz⟩:=hz
  obtain ⟨x57,hz⟩:=hz
  obtain ⟨x58,hz⟩:=hz
  subst hz
  have HB4:Below w.heap.size w w7:=m3.2.2 w HB3.out (fun i hi e=> by omega)
  have hSl:=kSp_length (kPad X) ((q + 1) / 136)
  have HE:R=strOfNums (kText (kSp (kPad X) ((q + 1) / 136)) 32):=by
    rw [HRR.out]
    unfold kHash
    rw [HPL.out]
  generalize kSp (kPad X) ((q + 1) / 136)=S at S3 hSl HE
  have L1:=Aside0.mk (textI.calls ga S w7 hSl S3)
  have HE:=Aside0.mk HE
  have HB4:=Aside0.mk HB4
  clear AG HK3 HB3 m3 S3 hSl
  go_wp2_with (go_at_call 86;refine L1.out.mono ?_;rintro e w8 ⟨v4,rfl,hR,hb4⟩;obtain ⟨A4,c4,hv4⟩:=Kd.R_slice hR;rw [kText_length] at hv4;subst hv4;have hT:=Kd.R_take hR (m:=32) (by rw [kText_length];omega);have hcap:=(Kd.R_reads' hR).2.1;have hCC:=(Kd.R_reads' hT).2.2;rw [kText_take S (by omega),kText_length] at hCC;have hsl:=fun w=> slice_to A4 200 c4 32 (by omega) hcap w;have hcv2:=Kd.C_string (P:=Try.prog) (dst:=9) (c:=c4) Try.underlying25 Try.underlying5 Try.underlying9 hCC;have HB5:=Aside0.mk (below_step HB4.out hb4);have HE:=HE.out;generalize strOfNums (kText S 32)=R2 at HE hcv2;have HE:=Aside0.mk HE;clear hR hT hCC hb4)
  go_ret
  refine ⟨?_,HB5.out⟩
  have e:=HE.out
  clear HE
  subst e
  rfl
end Go.Proofs.Ytlogocmojnhpbaa.Print
end
section
namespace Go.Proofs.Ytlogocmojnhpbaa.Print
open Go.RowKit Go.Proofs.YtlogocmojnhpbaaW.PrintWords Go.Proofs.YtlogocmojnhpbaaW.PrintLast
set_option linter.unusedVariables false
set_option linter.unusedSimpArgs false
def hashT (s:ByteArray):ByteArray:=strOfNums (kHash (bytesOf s))
theorem hashT_size (s:ByteArray):(hashT s).size=32:=by unfold hashT;rw [strOfNums_size,kHash_length]
theorem pieces_C (W:World) (g:Nat) (vs:List Value) (xss:List (List Int)) (hg:W.heap[g]?=some (.cells vs.toArray 25 (0,0))) (hl:vs.length=xss.length) (hm:xss.length ≤ 9223372036854775807)
    (hv:∀ (j:Nat) (v:Value) (xs:List Int),vs[j]?=some v → xss[j]?=some xs → ∃ A c,v=Value.slice A xs.length c ∧ xs.length ≤ c ∧ (Kd.int .u8).C W A xs.length xs):(Kd.slice 5 (Kd.int .u8)).C W (some ⟨g,0,none⟩) xss.length xss:=by
  refine ⟨rfl,hm,fun h0=> ⟨_,rfl,fun j xs hj=> ?_⟩⟩
  have hlt:j < vs.length:=by rw [hl];exact (List.getElem?_eq_some_iff.1 hj).1
  obtain ⟨A,c,hA,hc,hC⟩:=hv j vs[j] xs (List.getElem?_eq_getElem hlt) hj
  refine ⟨[vs[j]],rfl,⟨A,c,by rw [hA],hc,hC⟩,fun i u hu=> ?_⟩
  cases i with
  |zero=>
    have:vs[j]=u:=by simpa using hu
    subst this
    rw [show (Kd.slice 5 (Kd.int .u8)).sz=1 from rfl,addr_at]
    simp [World.cell?,hg,hlt]
  |succ i=> simp at hu
def spec_l03Hash.f (a0:ByteArray):Option ByteArray:=if a0.size ≤ 140737488350000 then some (hashT a0) else none
theorem spec_l03Hash.calls (a0:ByteArray) (r:ByteArray) (w:World) (h:spec_l03Hash.f a0=some r):
    Calls Try.prog 87 #[.string a0] w fun e w'=> e= .returned (.string r) ∧ Below w.heap.size w w':=by
  unfold spec_l03Hash.f at h
  split at h
  · next hs=>
    obtain rfl:=Option.some.inj h
    exact hashS.calls a0 w hs
  · cases h
set_option maxHeartbeats 8000000 in
theorem hashOfI.calls (s:ByteArray) (w:World) (hs:s.size ≤ 140737488350000):
    Calls Try.prog 90 #[.string s] w fun e w'=> e= .returned (.string (hashT s)) ∧ Below w.heap.size w w':=by
  have hcv:=fun W=> print_bytes (P:=Try.prog) 9 25 5 Try.underlying9 Try.underlying25 Try.underlying5 s W
  have HM:=Aside0.mk (MRow.of_bytes w s (by omega))
  have HB:=Aside0.mk (bytes_below (Below.refl w.heap.size w) (Nat.le_refl _) 5 s)
  obtain ⟨R,hR⟩:∃ R,R=hashT s:=⟨_,rfl⟩
  rw [← hR]
  have HR:=Aside0.mk hR
  clear hR
  have hC:(Kd.slice 5 (Kd.int .u8)).C ((Lib.bytesWorld w 5 s).alloc (.cells #[Value.slice (some ⟨w.heap.size,0,none⟩) s.size (grownCap w s.size 0 5)] 25)) (some ⟨(Lib.bytesWorld w 5 s).heap.size,0,none⟩) 1 [bytesOf s]:=by
    refine pieces_C _ _ [Value.slice (some ⟨w.heap.size,0,none⟩) s.size (grownCap w s.size 0 5)] [bytesOf s] (blk_new _ _) rfl (by simp) ?_
    intro j v xs hv hx
    cases j with
    |zero=>
      have e1:Value.slice (some ⟨w.heap.size,0,none⟩) s.size (grownCap w s.size 0 5)=v:=by simpa using hv
      have e2:bytesOf s=xs:=by simpa using hx
      subst e1 e2
      have h1:=(HM.out.alloc (.cells #[Value.slice (some ⟨w.heap.size,0,none⟩) s.size (grownCap w s.size 0 5)] 25)).reads
      exact ⟨_,_,by rw [bytesOf_length],by rw [bytesOf_length];exact grownCap_ge w s.size 0 5,h1⟩
    |succ j=> simp at hv
  have L1:=hashI.calls (some ⟨(Lib.bytesWorld w 5 s).heap.size,0,none⟩) 1 1 [bytesOf s] _ hC (bytesOf_in s) (by show (bytesOf s).length ≤ _;rw [bytesOf_length];exact hs)
  rw [show strOfNums (kHash (kCat [bytesOf s] 1))=R from HR.out.symm] at L1
  have L1:=Aside0.mk L1
  clear hC
  go_enter Try.func90,Try.ntmps90
  go_wp2_with (go_at_call 88;refine L1.out.mono ?_;rintro e w1 ⟨rfl,hb1⟩)
  go_ret
  exact ⟨rfl,below_step (bwA HB.out _) hb1⟩
def impl_hashOf.f (a0:ByteArray):Option ByteArray:=if a0.size ≤ 140737488350000 then some (hashT a0) else none
theorem impl_hashOf.calls (a0:ByteArray) (r:ByteArray) (w:World) (h:impl_hashOf.f a0=some r):
    Calls Try.prog 90 #[.string a0] w fun e w'=> e= .returned (.string r) ∧ Below w.heap.size w w':=by
  unfold impl_hashOf.f at h
  split at h
  · next hs=>
    obtain rfl:=Option.some.inj h
    exact hashOfI.calls a0 w hs
  · cases h
def okBytes (l:List Int):Bool:=l.all fun x=> decide (0 ≤ x) && decide (x < 256)
theorem okBytes_in {l:List Int} (h:okBytes l=true):AllB l:=by
  intro x hx
  have:=List.all_eq_true.1 h x hx
  simpa [InB] using this
theorem okBytes_of {l:List Int} (h:AllB l):okBytes l=true:=by
  refine List.all_eq_true.2 fun x hx=> ?_
  have:=h x hx
  simpa [InB] using this
def impl_Keccak256.f (l0:List Int):Option ByteArray:=if okBytes l0 then (if (l0.length:Int) > 65536 then some ⟨#[]⟩ else some (strOfNums (kHash l0))) else none
set_option maxHeartbeats 8000000 in
theorem impl_Keccak256.calls (A0:Option Addr) (c0:Nat) (l0:List Int) (r:ByteArray) (w:World) (hr0:Kd.C (Kd.int .u8) w A0 l0.length l0) (hc0:l0.length ≤ c0) (h:impl_Keccak256.f l0=some r):
    Calls Try.prog 25 #[.slice A0 l0.length c0] w fun e w'=> e= .returned (.string r) ∧ Below w.heap.size w w':=by
  unfold impl_Keccak256.f at h
  split at h
  · next hb=>
    have hB:=okBytes_in hb
    split at h
    · next h1=>
      obtain rfl:=Option.some.inj h
      have h2:(65536:Int) < (l0.length:Int):=by omega
      clear hb h h1 hB hr0
      go_enter Try.func25,Try.ntmps25
      go_wp2
      go_ret
      exact ⟨rfl,Below.refl _ _⟩
    · next h1=>
      obtain rfl:=Option.some.inj h
      have hl:l0.length ≤ 65536:=by omega
      have h2:¬ (65536:Int) < (l0.length:Int):=by omega
      have hC:(Kd.slice 5 (Kd.int .u8)).C (w.alloc (.cells #[Value.slice A0 l0.length c0] 25)) (some ⟨w.heap.size,0,none⟩) 1 [l0]:=by
        refine pieces_C _ _ [Value.slice A0 l0.length c0] [l0] (blk_new _ _) rfl (by simp) ?_
        intro j v xs hv hx
        cases j with
        |zero=>
          have e1:Value.slice A0 l0.length c0=v:=by simpa using hv
          have e2:l0=xs:=by simpa using hx
          subst e1 e2
          exact ⟨_,_,rfl,hc0,Kd.C_alloc hr0 _⟩
        |succ j=> simp at hv
      have L1:=hashI.calls (some ⟨w.heap.size,0,none⟩) 1 1 [l0] _ hC hB (by show l0.length ≤ _;omega)
      obtain ⟨R,hR⟩:∃ R,R=strOfNums (kHash l0):=⟨_,rfl⟩
      rw [← hR]
      rw [show strOfNums (kHash (kCat [l0] 1))=R from hR.symm] at L1
      have L1:=Aside0.mk L1
      clear hb h h1 hB hr0 hC hR
      go_enter Try.func25,Try.ntmps25
      go_wp2_with (go_at_call 88;refine L1.out.mono ?_;rintro e w1 ⟨rfl,hb1⟩)
      go_ret
      exact ⟨rfl,below_step (bwA (Below.refl _ _) _) hb1⟩
  · cases h
end Go.Proofs.Ytlogocmojnhpbaa.Print
end
