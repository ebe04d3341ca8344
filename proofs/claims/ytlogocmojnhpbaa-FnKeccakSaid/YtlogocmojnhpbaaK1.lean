-- Packed by a program of this session (slim.py): contracts that many laws share; Lean checks it.
import Derived.Test.YtlogocmojnhpbaaP0
import Derived.Test.YtlogocmojnhpbaaK0
section
namespace Go.Proofs.Ytlogocmojnhpbaa.Print
open Go.RowKit Go.Proofs.YtlogocmojnhpbaaW.PrintWords
set_option linter.unusedVariables false
set_option linter.unusedSimpArgs false
set_option maxHeartbeats 8000000 in
set_option maxRecDepth 100000 in
theorem permS.theta (g gs:Nat) (a c:List Int) (wr:World) {u0 u2 u3 u4 u5 u7 u9 u10 u11 u12 u13 u14 u15 u16 u17 u18 u19 u20 u21 u22 u23 u24 u25 u26 u27 u28 u29 u30 u31 u32 u33 u34 u35 u36 u37 u38 u39 u40 u41 u42 u43 u44 u45 u46 u47 u48 u49 u50 u51 u52 u53 u54 u55 u56 u57 u58 u59 u60 u61 u62 u63 u64 u65 u66 u67 u68 u69 u70 u71 u72 u73 u74 u75 u76 u77 u78 u79 u80 u81 u82 u83 u84 u85 u86 u87 u88 u89 u90 u91 u92 u93 u94 u95 u96 u97 u98 u99 u100 u101 u102 u103 u104 u105 u106 u107 u108 u109 u110 u111 u112 u113 u114 u115 u116 u117 u118 u119 u120 u121 u122 u123 u124 u125 u126 u127 u128 u129 u130 u131 u132 u133 u134 u135 u136 u137 u138 u139 u140 u141 u142 u143 u144 u145 u146 u147 u148:Value} {Q:Exit → Act → World → Prop} (ha:a.length=25) (hcl:c.length=5) (hne:gs ≠ g) (hb:Arr wr g 93 .u64 a) (hc:Arr wr gs 149 .u64 c)
    (hexit:∀ (a':Act) (w':World),Arr w' g 93 .u64 (sTheta c a 25) → Moved wr w' (fun i=> i=g) → (∃ z8 z50 z51 z52 z53 z54 z55 z56 z57 z58 z59 z60 z61 z62 z63 z64 z65 z66 z67 z68 z69 z70:Value,a'=⟨List.toArray (u0::Value.pointer (some ⟨g,0,none⟩)::u2::u3::u4::u5::Value.pointer (some ⟨gs,0,none⟩)::u7::z8::u9::u10::u11::u12::u13::u14::u15::u16::u17::u18::u19::u20::u21::u22::u23::u24::u25::u26::u27::u28::u29::u30::u31::u32::u33::u34::u35::u36::u37::u38::u39::u40::u41::u42::u43::u44::u45::u46::u47::u48::u49::z50::z51::z52::z53::z54::z55::z56::z57::z58::z59::z60::z61::z62::z63::z64::z65::z66::z67::z68::z69::z70::u71::u72::u73::u74::u75::u76::u77::u78::u79::u80::u81::u82::u83::u84::u85::u86::u87::u88::u89::u90::u91::u92::u93::u94::u95::u96::u97::u98::u99::u100::u101::u102::u103::u104::u105::u106::u107::u108::u109::u110::u111::u112::u113::u114::u115::u116::u117::u118::u119::u120::u121::u122::u123::u124::u125::u126::u127::u128::u129::u130::u131::u132::u133::u134::u135::u136::u137::u138::u139::u140::u141::u142::u143::u144::u145::u146::u147::u148:: []), []⟩) → Q (.exit 4) a' w'):
    Code.wp Try.prog (nthLoop Try.f81.body 2) Q ⟨List.toArray (u0::Value.pointer (some ⟨g,0,none⟩)::u2::u3::u4::u5::Value.pointer (some ⟨gs,0,none⟩)::u7::Value.int .i64 0::u9::u10::u11::u12::u13::u14::u15::u16::u17::u18::u19::u20::u21::u22::u23::u24::u25::u26::u27::u28::u29::u30::u31::u32::u33::u34::u35::u36::u37::u38::u39::u40::u41::u42::u43::u44::u45::u46::u47::u48::u49::u50::u51::u52::u53::u54::u55::u56::u57::u58::u59::u60::u61::u62::u63::u64::u65::u66::u67::u68::u69::u70::u71::u72::u73::u74::u75::u76::u77::u78::u79::u80::u81::u82::u83::u84::u85::u86::u87::u88::u89::u90::u91::u92::u93::u94::u95::u96::u97::u98::u99::u100::u101::u102::u103::u104::u105::u106::u107::u108::u109::u110::u111::u112::u113::u114::u115::u116::u117::u118::u119::u120::u121::u122::u123::u124::u125::u126::u127::u128::u129::u130::u131::u132::u133::u134::u135::u136::u137::u138::u139::u140::u141::u142::u143::u144::u145::u146::u147::u148:: []), []⟩ wr:=by
  conv=> arg 2;whnf
  have HB:=Aside0.mk hb
  have HC:=Aside0.mk hc
  have HX:=Aside0.mk hexit
  clear hb hc hexit
  go_loopg [8] 25 (fun gg s8 w'=> ∃ k:Nat,k ≤ 25 ∧ 25 - k ≤ gg ∧ s8= .int .i64 k ∧ Aside0 (Arr w' g 93 .u64 (sTheta c a k)) ∧ Aside0 (Moved wr w' (fun i=> i=g)))
  case atStart=> exact ⟨0,by omega,by omega,rfl,HB,⟨Moved.refl _ _⟩⟩
  case round=>
    obtain ⟨k,hk,hg,rfl,HK,HO⟩:=hrel
    by_cases hlt:k < 25
    · have hltz:(k:Int) < 25:=by omega
      have h0z:(0:Int) ≤ (k:Int):=by omega
      have HG:=HC.out.moved HO.out (fun e=> hne e)
      have q0:=HK.out.cell k (by rw [sTheta_length];omega)
      have f0:=HK.out.frozen k
      have q1:=HG.cell ((k + 4) % 5) (by omega)
      have q2:=HG.cell ((k + 1) % 5) (by omega)
      clear hlt
      go_wp2
      have m4:IntKind.i64.wrap ((k:Int) + 4)=(k:Int) + 4:=by rw [IntKind.wrap_i64];omega
      have r4:((k:Int) + 4).tmod 5=((k:Int) + 4) % 5:=Int.tmod_eq_emod_of_nonneg (by omega)
      have s4:IntKind.i64.wrap (((k:Int) + 4) % 5)=((k:Int) + 4) % 5:=by rw [IntKind.wrap_i64];omega
      have l4:((k:Int) + 4) % 5 < 5:=by omega
      have z4:(0:Int) ≤ ((k:Int) + 4) % 5:=by omega
      have t4:(((k:Int) + 4) % 5).toNat=(k + 4) % 5:=by omega
      have m1:IntKind.i64.wrap ((k:Int) + 1)=(k:Int) + 1:=by rw [IntKind.wrap_i64];omega
      have r1:((k:Int) + 1).tmod 5=((k:Int) + 1) % 5:=Int.tmod_eq_emod_of_nonneg (by omega)
      have s1:IntKind.i64.wrap (((k:Int) + 1) % 5)=((k:Int) + 1) % 5:=by rw [IntKind.wrap_i64];omega
      have l1:((k:Int) + 1) % 5 < 5:=by omega
      have z1:(0:Int) ≤ ((k:Int) + 1) % 5:=by omega
      have t1:(((k:Int) + 1) % 5).toNat=(k + 1) % 5:=by omega
      refine wp_region_still_tail 17 (by kernel_rfl) (by kernel_rfl) ?_
      show wpStill _ _ (World.drew _) (fun a'=> wpList _ _ _ _ a' (World.drew _)) _ _
      simp only [List.take_succ_cons,List.take_zero,List.drop_succ_cons,List.drop_zero]
      repeat still_step
      still_call (turn.still _ _ _ (by omega) (by omega))
      repeat still_step
      refine wpStill_nil ?_
      clear m4 r4 s4 l4 z4 t4 m1 r1 s1 l1 z1 t1
      go_wp2
      go_roundg (25 - (k + 1))
      case measure=> omega
      case rel=> exact ⟨k + 1,by omega,by omega,by go_num,⟨(HK.out.drew).set k _⟩,⟨(HO.out.drew).set g _ _ (.inl rfl)⟩⟩
    · have hk25:k=25:=by omega
      subst hk25
      go_wp2
      exact HX.out _ _ HK.out HO.out ⟨_,_,_,_,_,_,_,_,_,_,_,_,_,_,_,_,_,_,_,_,_,_,rfl⟩
end Go.Proofs.Ytlogocmojnhpbaa.Print
end
section
namespace Go.Proofs.Ytlogocmojnhpbaa.Print
open Go.RowKit Go.Proofs.YtlogocmojnhpbaaW.PrintWords
set_option linter.unusedVariables false
set_option linter.unusedSimpArgs false
set_option maxHeartbeats 8000000 in
set_option maxRecDepth 100000 in
theorem permS.moveIn (g gh gb x:Nat) (a b:List Int) (wr:World) {u0 u2 u3 u5 u6 u7 u8 u12 u13 u14 u15 u16 u17 u18 u19 u20 u21 u22 u23 u24 u25 u26 u27 u28 u29 u30 u31 u32 u33 u34 u35 u36 u37 u38 u39 u40 u41 u42 u43 u44 u45 u46 u47 u48 u49 u50 u51 u52 u53 u54 u55 u56 u57 u58 u59 u60 u61 u62 u63 u64 u65 u66 u67 u68 u69 u70 u71 u72 u73 u74 u75 u76 u77 u78 u79 u80 u81 u82 u83 u84 u85 u86 u87 u88 u89 u90 u91 u92 u93 u94 u95 u96 u97 u98 u99 u100 u101 u102 u103 u104 u105 u106 u107 u108 u109 u110 u111 u112 u113 u114 u115 u116 u117 u118 u119 u120 u121 u122 u123 u124 u125 u126 u127 u128 u129 u130 u131 u132 u133 u134 u135 u136 u137 u138 u139 u140 u141 u142 u143 u144 u145 u146 u147 u148:Value} {Q:Exit → Act → World → Prop} (ha:a.length=25) (hbl:b.length=25) (hx:x < 5) (n1:gb ≠ g) (n2:gb ≠ gh) (hb:Arr wr g 93 .u64 a) (hh:Arr wr gh 147 .u64 kShifts) (hm:Arr wr gb 93 .u64 b)
    (hexit:∀ (a':Act) (w':World),Arr w' gb 93 .u64 (sMoveIn a b x 5) → Moved wr w' (fun i=> i=gb) → (∃ z11 z76 z77 z78 z79 z80 z81 z82 z83 z84 z85 z86 z87 z88 z89 z90 z91 z92 z93 z94 z95 z96 z97 z98 z99 z100 z101 z102:Value,a'=⟨List.toArray (u0::Value.pointer (some ⟨g,0,none⟩)::u2::u3::Value.pointer (some ⟨gh,0,none⟩)::u5::u6::u7::u8::Value.pointer (some ⟨gb,0,none⟩)::Value.int .i64 (x:Int)::z11::u12::u13::u14::u15::u16::u17::u18::u19::u20::u21::u22::u23::u24::u25::u26::u27::u28::u29::u30::u31::u32::u33::u34::u35::u36::u37::u38::u39::u40::u41::u42::u43::u44::u45::u46::u47::u48::u49::u50::u51::u52::u53::u54::u55::u56::u57::u58::u59::u60::u61::u62::u63::u64::u65::u66::u67::u68::u69::u70::u71::u72::u73::u74::u75::z76::z77::z78::z79::z80::z81::z82::z83::z84::z85::z86::z87::z88::z89::z90::z91::z92::z93::z94::z95::z96::z97::z98::z99::z100::z101::z102::u103::u104::u105::u106::u107::u108::u109::u110::u111::u112::u113::u114::u115::u116::u117::u118::u119::u120::u121::u122::u123::u124::u125::u126::u127::u128::u129::u130::u131::u132::u133::u134::u135::u136::u137::u138::u139::u140::u141::u142::u143::u144::u145::u146::u147::u148:: []), []⟩) → Q (.exit 8) a' w'):
    Code.wp Try.prog (nthLoop Try.f81.body 4) Q ⟨List.toArray (u0::Value.pointer (some ⟨g,0,none⟩)::u2::u3::Value.pointer (some ⟨gh,0,none⟩)::u5::u6::u7::u8::Value.pointer (some ⟨gb,0,none⟩)::Value.int .i64 (x:Int)::Value.int .i64 0::u12::u13::u14::u15::u16::u17::u18::u19::u20::u21::u22::u23::u24::u25::u26::u27::u28::u29::u30::u31::u32::u33::u34::u35::u36::u37::u38::u39::u40::u41::u42::u43::u44::u45::u46::u47::u48::u49::u50::u51::u52::u53::u54::u55::u56::u57::u58::u59::u60::u61::u62::u63::u64::u65::u66::u67::u68::u69::u70::u71::u72::u73::u74::u75::u76::u77::u78::u79::u80::u81::u82::u83::u84::u85::u86::u87::u88::u89::u90::u91::u92::u93::u94::u95::u96::u97::u98::u99::u100::u101::u102::u103::u104::u105::u106::u107::u108::u109::u110::u111::u112::u113::u114::u115::u116::u117::u118::u119::u120::u121::u122::u123::u124::u125::u126::u127::u128::u129::u130::u131::u132::u133::u134::u135::u136::u137::u138::u139::u140::u141::u142::u143::u144::u145::u146::u147::u148:: []), []⟩ wr:=by
  conv=> arg 2;whnf
  have HB:=Aside0.mk hb
  have HH:=Aside0.mk hh
  have HM:=Aside0.mk hm
  have HX:=Aside0.mk hexit
  clear hb hh hexit hm
  go_loopg [11] 5 (fun gg s11 w'=> ∃ k:Nat,k ≤ 5 ∧ 5 - k ≤ gg ∧ s11= .int .i64 k ∧ Aside0 (Arr w' gb 93 .u64 (sMoveIn a b x k)) ∧ Aside0 (Moved wr w' (fun i=> i=gb)))
  case atStart=> exact ⟨0,by omega,by omega,rfl,HM,⟨Moved.refl _ _⟩⟩
  case round=>
    obtain ⟨k,hk,hg,rfl,HK,HO⟩:=hrel
    by_cases hlt:k < 5
    · have hltz:(k:Int) < 5:=by omega
      have h0z:(0:Int) ≤ (k:Int):=by omega
      have HG:=HB.out.moved HO.out (fun e=> n1 e.symm)
      have HG2:=HH.out.moved HO.out (fun e=> n2 e.symm)
      have q0:=HG.cell (x + 5 * k) (by omega)
      have q1:=HG2.cell (x + 5 * k) (by show x + 5 * k < 25;omega)
      have q2:=HK.out.cell (k + 5 * ((2 * x + 3 * k) % 5)) (by rw [sMoveIn_length];omega)
      have f2:=HK.out.frozen (k + 5 * ((2 * x + 3 * k) % 5))
      have b3:0 ≤ kShifts.getD (x + 5 * k) 0 ∧ kShifts.getD (x + 5 * k) 0 < 64:=kShifts_bd _
      obtain ⟨sh,hsh⟩:∃ sh,sh=kShifts.getD (x + 5 * k) 0:=⟨_,rfl⟩
      rw [← hsh] at q1 b3
      have HS:=Aside0.mk hsh
      clear hsh hlt
      go_wp2
      have m1:IntKind.i64.wrap (2 * (x:Int))=2 * (x:Int):=by rw [IntKind.wrap_i64];omega
      have m2:IntKind.i64.wrap (3 * (k:Int))=3 * (k:Int):=by rw [IntKind.wrap_i64];omega
      have m3:IntKind.i64.wrap (2 * (x:Int) + 3 * (k:Int))=2 * (x:Int) + 3 * (k:Int):=by rw [IntKind.wrap_i64];omega
      have m4:(2 * (x:Int) + 3 * (k:Int)).tmod 5=(2 * (x:Int) + 3 * (k:Int)) % 5:=Int.tmod_eq_emod_of_nonneg (by omega)
      have m5:IntKind.i64.wrap ((2 * (x:Int) + 3 * (k:Int)) % 5)=(2 * (x:Int) + 3 * (k:Int)) % 5:=by rw [IntKind.wrap_i64];omega
      have m6:IntKind.i64.wrap (5 * ((2 * (x:Int) + 3 * (k:Int)) % 5))=5 * ((2 * (x:Int) + 3 * (k:Int)) % 5):=by rw [IntKind.wrap_i64];omega
      have m7:IntKind.i64.wrap ((k:Int) + 5 * ((2 * (x:Int) + 3 * (k:Int)) % 5))=(k:Int) + 5 * ((2 * (x:Int) + 3 * (k:Int)) % 5):=by rw [IntKind.wrap_i64];omega
      have m8:(0:Int) ≤ (k:Int) + 5 * ((2 * (x:Int) + 3 * (k:Int)) % 5):=by omega
      have m9:(k:Int) + 5 * ((2 * (x:Int) + 3 * (k:Int)) % 5) < 25:=by omega
      have m10:((k:Int) + 5 * ((2 * (x:Int) + 3 * (k:Int)) % 5)).toNat=k + 5 * ((2 * x + 3 * k) % 5):=by omega
      have m11:IntKind.i64.wrap (5 * (k:Int))=5 * (k:Int):=by rw [IntKind.wrap_i64];omega
      have m12:IntKind.i64.wrap ((x:Int) + 5 * (k:Int))=(x:Int) + 5 * (k:Int):=by rw [IntKind.wrap_i64];omega
      have m13:(0:Int) ≤ (x:Int) + 5 * (k:Int):=by omega
      have m14:(x:Int) + 5 * (k:Int) < 25:=by omega
      have m15:((x:Int) + 5 * (k:Int)).toNat=x + 5 * k:=by omega
      refine wp_region_still_tail 23 (by kernel_rfl) (by kernel_rfl) ?_
      show wpStill _ _ (World.drew _) (fun a'=> wpList _ _ _ _ a' (World.drew _)) _ _
      simp only [List.take_succ_cons,List.take_zero,List.drop_succ_cons,List.drop_zero]
      repeat still_step
      still_call (turn.still _ _ _ b3.1 b3.2)
      repeat still_step
      refine wpStill_nil ?_
      clear m1 m2 m3 m4 m5 m6 m7 m8 m9 m10 m11 m12 m13 m14 m15
      go_wp2
      go_roundg (5 - (k + 1))
      case measure=> omega
      case rel=> exact ⟨k + 1,by omega,by omega,by go_num,⟨by rw [HS.out];exact (HK.out.drew).set (k + 5 * ((2 * x + 3 * k) % 5)) _⟩,⟨(HO.out.drew).set gb _ _ (.inl rfl)⟩⟩
    · have hk25:k=5:=by omega
      subst hk25
      go_wp2
      exact HX.out _ _ HK.out HO.out ⟨_,_,_,_,_,_,_,_,_,_,_,_,_,_,_,_,_,_,_,_,_,_,_,_,_,_,_,_,rfl⟩
end Go.Proofs.Ytlogocmojnhpbaa.Print
end
section
namespace Go.Proofs.Ytlogocmojnhpbaa.Print
open Go.RowKit Go.Proofs.YtlogocmojnhpbaaW.PrintWords
set_option linter.unusedVariables false
set_option linter.unusedSimpArgs false
set_option maxHeartbeats 8000000 in
set_option maxRecDepth 100000 in
theorem permS.chiIn (g gb x:Nat) (a b:List Int) (wr:World) {u0 u2 u3 u4 u5 u6 u7 u8 u10 u11 u14 u15 u16 u17 u18 u19 u20 u21 u22 u23 u24 u25 u26 u27 u28 u29 u30 u31 u32 u33 u34 u35 u36 u37 u38 u39 u40 u41 u42 u43 u44 u45 u46 u47 u48 u49 u50 u51 u52 u53 u54 u55 u56 u57 u58 u59 u60 u61 u62 u63 u64 u65 u66 u67 u68 u69 u70 u71 u72 u73 u74 u75 u76 u77 u78 u79 u80 u81 u82 u83 u84 u85 u86 u87 u88 u89 u90 u91 u92 u93 u94 u95 u96 u97 u98 u99 u100 u101 u102 u103 u104 u105 u106 u107 u108 u109 u110 u111 u112 u113 u114 u115 u116 u117 u118 u119 u120 u121 u122 u123 u124 u125 u126 u127 u128 u129 u130 u131 u132 u133 u134 u135 u136 u137 u138 u139 u140 u141 u142 u143 u144 u145 u146 u147 u148:Value} {Q:Exit → Act → World → Prop} (ha:a.length=25) (hbl:b.length=25) (hx:x < 5) (n1:gb ≠ g) (hb:Arr wr g 93 .u64 a) (hm:Arr wr gb 93 .u64 b)
    (hexit:∀ (a':Act) (w':World),Arr w' g 93 .u64 (sChiIn b a x 5) → Moved wr w' (fun i=> i=g) → (∃ z13 z107 z108 z109 z110 z111 z112 z113 z114 z115 z116 z117 z118 z119 z120 z121 z122 z123 z124 z125 z126 z127 z128 z129 z130 z131 z132 z133 z134 z135 z136 z137 z138 z139 z140:Value,a'=⟨List.toArray (u0::Value.pointer (some ⟨g,0,none⟩)::u2::u3::u4::u5::u6::u7::u8::Value.pointer (some ⟨gb,0,none⟩)::u10::u11::Value.int .i64 (x:Int)::z13::u14::u15::u16::u17::u18::u19::u20::u21::u22::u23::u24::u25::u26::u27::u28::u29::u30::u31::u32::u33::u34::u35::u36::u37::u38::u39::u40::u41::u42::u43::u44::u45::u46::u47::u48::u49::u50::u51::u52::u53::u54::u55::u56::u57::u58::u59::u60::u61::u62::u63::u64::u65::u66::u67::u68::u69::u70::u71::u72::u73::u74::u75::u76::u77::u78::u79::u80::u81::u82::u83::u84::u85::u86::u87::u88::u89::u90::u91::u92::u93::u94::u95::u96::u97::u98::u99::u100::u101::u102::u103::u104::u105::u106::z107::z108::z109::z110::z111::z112::z113::z114::z115::z116::z117::z118::z119::z120::z121::z122::z123::z124::z125::z126::z127::z128::z129::z130::z131::z132::z133::z134::z135::z136::z137::z138::z139::z140::u141::u142::u143::u144::u145::u146::u147::u148:: []), []⟩) → Q (.exit 12) a' w'):
    Code.wp Try.prog (nthLoop Try.f81.body 6) Q ⟨List.toArray (u0::Value.pointer (some ⟨g,0,none⟩)::u2::u3::u4::u5::u6::u7::u8::Value.pointer (some ⟨gb,0,none⟩)::u10::u11::Value.int .i64 (x:Int)::Value.int .i64 0::u14::u15::u16::u17::u18::u19::u20::u21::u22::u23::u24::u25::u26::u27::u28::u29::u30::u31::u32::u33::u34::u35::u36::u37::u38::u39::u40::u41::u42::u43::u44::u45::u46::u47::u48::u49::u50::u51::u52::u53::u54::u55::u56::u57::u58::u59::u60::u61::u62::u63::u64::u65::u66::u67::u68::u69::u70::u71::u72::u73::u74::u75::u76::u77::u78::u79::u80::u81::u82::u83::u84::u85::u86::u87::u88::u89::u90::u91::u92::u93::u94::u95::u96::u97::u98::u99::u100::u101::u102::u103::u104::u105::u106::u107::u108::u109::u110::u111::u112::u113::u114::u115::u116::u117::u118::u119::u120::u121::u122::u123::u124::u125::u126::u127::u128::u129::u130::u131::u132::u133::u134::u135::u136::u137::u138::u139::u140::u141::u142::u143::u144::u145::u146::u147::u148:: []), []⟩ wr:=by
  conv=> arg 2;whnf
  have HB:=Aside0.mk hb
  have HM:=Aside0.mk hm
  have HX:=Aside0.mk hexit
  clear hb hexit hm
  go_loopg [13] 5 (fun gg s13 w'=> ∃ k:Nat,k ≤ 5 ∧ 5 - k ≤ gg ∧ s13= .int .i64 k ∧ Aside0 (Arr w' g 93 .u64 (sChiIn b a x k)) ∧ Aside0 (Moved wr w' (fun i=> i=g)))
  case atStart=> exact ⟨0,by omega,by omega,rfl,HB,⟨Moved.refl _ _⟩⟩
  case round=>
    obtain ⟨k,hk,hg,rfl,HK,HO⟩:=hrel
    by_cases hlt:k < 5
    · have hltz:(k:Int) < 5:=by omega
      have h0z:(0:Int) ≤ (k:Int):=by omega
      have HG:=HM.out.moved HO.out (fun e=> n1 e)
      have q0:=HG.cell (x + 5 * k) (by omega)
      have q1:=HG.cell ((x + 1) % 5 + 5 * k) (by omega)
      have q2:=HG.cell ((x + 2) % 5 + 5 * k) (by omega)
      have q3:=HK.out.cell (x + 5 * k) (by rw [sChiIn_length];omega)
      have f3:=HK.out.frozen (x + 5 * k)
      clear hlt
      go_wp2
      have m11:IntKind.i64.wrap (5 * (k:Int))=5 * (k:Int):=by rw [IntKind.wrap_i64];omega
      have m12:IntKind.i64.wrap ((x:Int) + 5 * (k:Int))=(x:Int) + 5 * (k:Int):=by rw [IntKind.wrap_i64];omega
      have m13:(0:Int) ≤ (x:Int) + 5 * (k:Int):=by omega
      have m14:(x:Int) + 5 * (k:Int) < 25:=by omega
      have m15:((x:Int) + 5 * (k:Int)).toNat=x + 5 * k:=by omega
      have a1:IntKind.i64.wrap ((x:Int) + 1)=(x:Int) + 1:=by rw [IntKind.wrap_i64];omega
      have b1:((x:Int) + 1).tmod 5=((x:Int) + 1) % 5:=Int.tmod_eq_emod_of_nonneg (by omega)
      have c1:IntKind.i64.wrap (((x:Int) + 1) % 5)=((x:Int) + 1) % 5:=by rw [IntKind.wrap_i64];omega
      have d1:IntKind.i64.wrap (((x:Int) + 1) % 5 + 5 * (k:Int))=((x:Int) + 1) % 5 + 5 * (k:Int):=by rw [IntKind.wrap_i64];omega
      have e1:(0:Int) ≤ ((x:Int) + 1) % 5 + 5 * (k:Int):=by omega
      have f1:((x:Int) + 1) % 5 + 5 * (k:Int) < 25:=by omega
      have g1:(((x:Int) + 1) % 5 + 5 * (k:Int)).toNat=(x + 1) % 5 + 5 * k:=by omega
      have a2:IntKind.i64.wrap ((x:Int) + 2)=(x:Int) + 2:=by rw [IntKind.wrap_i64];omega
      have b2:((x:Int) + 2).tmod 5=((x:Int) + 2) % 5:=Int.tmod_eq_emod_of_nonneg (by omega)
      have c2:IntKind.i64.wrap (((x:Int) + 2) % 5)=((x:Int) + 2) % 5:=by rw [IntKind.wrap_i64];omega
      have d2:IntKind.i64.wrap (((x:Int) + 2) % 5 + 5 * (k:Int))=((x:Int) + 2) % 5 + 5 * (k:Int):=by rw [IntKind.wrap_i64];omega
      have e2:(0:Int) ≤ ((x:Int) + 2) % 5 + 5 * (k:Int):=by omega
      have f2:((x:Int) + 2) % 5 + 5 * (k:Int) < 25:=by omega
      have g2:(((x:Int) + 2) % 5 + 5 * (k:Int)).toNat=(x + 2) % 5 + 5 * k:=by omega
      refine wp_region_still_tail 30 (by kernel_rfl) (by kernel_rfl) ?_
      show wpStill _ _ (World.drew _) (fun a'=> wpList _ _ _ _ a' (World.drew _)) _ _
      simp only [List.take_succ_cons,List.take_zero,List.drop_succ_cons,List.drop_zero]
      repeat still_step
      refine wpStill_nil ?_
      clear m11 m12 m13 m14 m15 a1 a2 b1 b2 c1 c2 d1 d2 e1 e2 f1 f2 g1 g2
      go_wp2
      go_roundg (5 - (k + 1))
      case measure=> omega
      case rel=> exact ⟨k + 1,by omega,by omega,by go_num,⟨(HK.out.drew).set (x + 5 * k) _⟩,⟨(HO.out.drew).set g _ _ (.inl rfl)⟩⟩
    · have hk25:k=5:=by omega
      subst hk25
      go_wp2
      exact HX.out _ _ HK.out HO.out ⟨_,_,_,_,_,_,_,_,_,_,_,_,_,_,_,_,_,_,_,_,_,_,_,_,_,_,_,_,_,_,_,_,_,_,_,rfl⟩
end Go.Proofs.Ytlogocmojnhpbaa.Print
end
section
namespace Go.Proofs.Ytlogocmojnhpbaa.Print
open Go.RowKit Go.Proofs.YtlogocmojnhpbaaW.PrintWords
set_option linter.unusedVariables false
set_option linter.unusedSimpArgs false
set_option maxHeartbeats 8000000 in
set_option maxRecDepth 100000 in
theorem permS.move (g gh gb:Nat) (a:List Int) (wr:World) {u0 u2 u3 u5 u6 u7 u8 u11 u12 u13 u14 u15 u16 u17 u18 u19 u20 u21 u22 u23 u24 u25 u26 u27 u28 u29 u30 u31 u32 u33 u34 u35 u36 u37 u38 u39 u40 u41 u42 u43 u44 u45 u46 u47 u48 u49 u50 u51 u52 u53 u54 u55 u56 u57 u58 u59 u60 u61 u62 u63 u64 u65 u66 u67 u68 u69 u70 u71 u72 u73 u74 u75 u76 u77 u78 u79 u80 u81 u82 u83 u84 u85 u86 u87 u88 u89 u90 u91 u92 u93 u94 u95 u96 u97 u98 u99 u100 u101 u102 u103 u104 u105 u106 u107 u108 u109 u110 u111 u112 u113 u114 u115 u116 u117 u118 u119 u120 u121 u122 u123 u124 u125 u126 u127 u128 u129 u130 u131 u132 u133 u134 u135 u136 u137 u138 u139 u140 u141 u142 u143 u144 u145 u146 u147 u148:Value} {Q:Exit → Act → World → Prop} (ha:a.length=25) (n1:gb ≠ g) (n2:gb ≠ gh) (hb:Arr wr g 93 .u64 a) (hh:Arr wr gh 147 .u64 kShifts) (hm:Arr wr gb 93 .u64 (sMoved a 0))
    (hexit:∀ (a':Act) (w':World),Arr w' gb 93 .u64 (sMoved a 5) → Moved wr w' (fun i=> i=gb) → (∃ z10 z11 z72 z73 z74 z75 z76 z77 z78 z79 z80 z81 z82 z83 z84 z85 z86 z87 z88 z89 z90 z91 z92 z93 z94 z95 z96 z97 z98 z99 z100 z101 z102:Value,a'=⟨List.toArray (u0::Value.pointer (some ⟨g,0,none⟩)::u2::u3::Value.pointer (some ⟨gh,0,none⟩)::u5::u6::u7::u8::Value.pointer (some ⟨gb,0,none⟩)::z10::z11::u12::u13::u14::u15::u16::u17::u18::u19::u20::u21::u22::u23::u24::u25::u26::u27::u28::u29::u30::u31::u32::u33::u34::u35::u36::u37::u38::u39::u40::u41::u42::u43::u44::u45::u46::u47::u48::u49::u50::u51::u52::u53::u54::u55::u56::u57::u58::u59::u60::u61::u62::u63::u64::u65::u66::u67::u68::u69::u70::u71::z72::z73::z74::z75::z76::z77::z78::z79::z80::z81::z82::z83::z84::z85::z86::z87::z88::z89::z90::z91::z92::z93::z94::z95::z96::z97::z98::z99::z100::z101::z102::u103::u104::u105::u106::u107::u108::u109::u110::u111::u112::u113::u114::u115::u116::u117::u118::u119::u120::u121::u122::u123::u124::u125::u126::u127::u128::u129::u130::u131::u132::u133::u134::u135::u136::u137::u138::u139::u140::u141::u142::u143::u144::u145::u146::u147::u148:: []), []⟩) → Q (.exit 6) a' w'):
    Code.wp Try.prog (nthLoop Try.f81.body 3) Q ⟨List.toArray (u0::Value.pointer (some ⟨g,0,none⟩)::u2::u3::Value.pointer (some ⟨gh,0,none⟩)::u5::u6::u7::u8::Value.pointer (some ⟨gb,0,none⟩)::Value.int .i64 0::u11::u12::u13::u14::u15::u16::u17::u18::u19::u20::u21::u22::u23::u24::u25::u26::u27::u28::u29::u30::u31::u32::u33::u34::u35::u36::u37::u38::u39::u40::u41::u42::u43::u44::u45::u46::u47::u48::u49::u50::u51::u52::u53::u54::u55::u56::u57::u58::u59::u60::u61::u62::u63::u64::u65::u66::u67::u68::u69::u70::u71::u72::u73::u74::u75::u76::u77::u78::u79::u80::u81::u82::u83::u84::u85::u86::u87::u88::u89::u90::u91::u92::u93::u94::u95::u96::u97::u98::u99::u100::u101::u102::u103::u104::u105::u106::u107::u108::u109::u110::u111::u112::u113::u114::u115::u116::u117::u118::u119::u120::u121::u122::u123::u124::u125::u126::u127::u128::u129::u130::u131::u132::u133::u134::u135::u136::u137::u138::u139::u140::u141::u142::u143::u144::u145::u146::u147::u148:: []), []⟩ wr:=by
  conv=> arg 2;whnf
  have HB:=Aside0.mk hb
  have HH:=Aside0.mk hh
  have HM:=Aside0.mk hm
  have HX:=Aside0.mk hexit
  clear hb hh hexit hm
  go_loopg [10] 5 (fun gg s10 w'=> ∃ k:Nat,k ≤ 5 ∧ 5 - k ≤ gg ∧ s10= .int .i64 k ∧ Aside0 (Arr w' gb 93 .u64 (sMoved a k)) ∧ Aside0 (Moved wr w' (fun i=> i=gb)))
  case atStart=> exact ⟨0,by omega,by omega,rfl,HM,⟨Moved.refl _ _⟩⟩
  case round=>
    obtain ⟨k,hk,hg,rfl,HK,HO⟩:=hrel
    by_cases hlt:k < 5
    · have hltz:(k:Int) < 5:=by omega
      have h0z:(0:Int) ≤ (k:Int):=by omega
      have HG:=Aside0.mk (HB.out.moved HO.out (fun e=> n1 e.symm))
      have HG2:=Aside0.mk (HH.out.moved HO.out (fun e=> n2 e.symm))
      go_wp2
      refine permS.moveIn g gh gb k a (sMoved a k) wr ha (sMoved_length _ _) hlt n1 n2 HG.out HG2.out HK.out ?_
      intro a2 W2 S1 m1 hz
      obtain ⟨y11,hz⟩:=hz
      obtain ⟨y76,hz⟩:=hz
      obtain ⟨y77,hz⟩:=hz
      obtain ⟨y78,hz⟩:=hz
      obtain ⟨y79,hz⟩:=hz
      obtain ⟨y80,hz⟩:=hz
      obtain ⟨y81,hz⟩:=hz
      obtain ⟨y82,hz⟩:=hz
      obtain ⟨y83,hz⟩:=hz
      obtain ⟨y84,hz⟩:=hz
      obtain ⟨y85,hz⟩:=hz
      obtain ⟨y86,hz⟩:=hz
      obtain ⟨y87,hz⟩:=hz
      obtain ⟨y88,hz⟩:=hz
      obtain ⟨y89,hz⟩:=hz
      obtain ⟨y90,hz⟩:=hz
      obtain ⟨y91,hz⟩:=hz
      obtain ⟨y92,hz⟩:=hz
      obtain ⟨y93,hz⟩:=hz
      obtain ⟨y94,hz⟩:=hz
      obtain ⟨y95,hz⟩:=hz
      obtain ⟨y96,hz⟩:=hz
      obtain ⟨y97,hz⟩:=hz
      obtain ⟨y98,hz⟩:=hz
      obtain ⟨y99,hz⟩:=hz
      obtain ⟨y100,hz⟩:=hz
      obtain ⟨y101,hz⟩:=hz
      obtain ⟨y102,hz⟩:=hz
      subst hz
      have S1:=Aside0.mk S1
      have MV:=Aside0.mk (HO.out.trans m1)
      clear m1
      go_wp2
      go_roundg (5 - (k + 1))
      case measure=> omega
      case rel=> exact ⟨k + 1,by omega,by omega,by go_num,⟨S1.out⟩,⟨MV.out⟩⟩
    · have hk25:k=5:=by omega
      subst hk25
      go_wp2
      exact HX.out _ _ HK.out HO.out ⟨_,_,_,_,_,_,_,_,_,_,_,_,_,_,_,_,_,_,_,_,_,_,_,_,_,_,_,_,_,_,_,_,_,rfl⟩
set_option maxHeartbeats 8000000 in
set_option maxRecDepth 100000 in
theorem permS.chi (g gb:Nat) (a b:List Int) (wr:World) {u0 u2 u3 u4 u5 u6 u7 u8 u10 u11 u13 u14 u15 u16 u17 u18 u19 u20 u21 u22 u23 u24 u25 u26 u27 u28 u29 u30 u31 u32 u33 u34 u35 u36 u37 u38 u39 u40 u41 u42 u43 u44 u45 u46 u47 u48 u49 u50 u51 u52 u53 u54 u55 u56 u57 u58 u59 u60 u61 u62 u63 u64 u65 u66 u67 u68 u69 u70 u71 u72 u73 u74 u75 u76 u77 u78 u79 u80 u81 u82 u83 u84 u85 u86 u87 u88 u89 u90 u91 u92 u93 u94 u95 u96 u97 u98 u99 u100 u101 u102 u103 u104 u105 u106 u107 u108 u109 u110 u111 u112 u113 u114 u115 u116 u117 u118 u119 u120 u121 u122 u123 u124 u125 u126 u127 u128 u129 u130 u131 u132 u133 u134 u135 u136 u137 u138 u139 u140 u141 u142 u143 u144 u145 u146 u147 u148:Value} {Q:Exit → Act → World → Prop} (ha:a.length=25) (hbl:b.length=25) (n1:gb ≠ g) (hb:Arr wr g 93 .u64 a) (hm:Arr wr gb 93 .u64 b)
    (hexit:∀ (a':Act) (w':World),Arr w' g 93 .u64 (sChi b a 5) → Moved wr w' (fun i=> i=g) → (∃ z12 z13 z103 z104 z105 z106 z107 z108 z109 z110 z111 z112 z113 z114 z115 z116 z117 z118 z119 z120 z121 z122 z123 z124 z125 z126 z127 z128 z129 z130 z131 z132 z133 z134 z135 z136 z137 z138 z139 z140:Value,a'=⟨List.toArray (u0::Value.pointer (some ⟨g,0,none⟩)::u2::u3::u4::u5::u6::u7::u8::Value.pointer (some ⟨gb,0,none⟩)::u10::u11::z12::z13::u14::u15::u16::u17::u18::u19::u20::u21::u22::u23::u24::u25::u26::u27::u28::u29::u30::u31::u32::u33::u34::u35::u36::u37::u38::u39::u40::u41::u42::u43::u44::u45::u46::u47::u48::u49::u50::u51::u52::u53::u54::u55::u56::u57::u58::u59::u60::u61::u62::u63::u64::u65::u66::u67::u68::u69::u70::u71::u72::u73::u74::u75::u76::u77::u78::u79::u80::u81::u82::u83::u84::u85::u86::u87::u88::u89::u90::u91::u92::u93::u94::u95::u96::u97::u98::u99::u100::u101::u102::z103::z104::z105::z106::z107::z108::z109::z110::z111::z112::z113::z114::z115::z116::z117::z118::z119::z120::z121::z122::z123::z124::z125::z126::z127::z128::z129::z130::z131::z132::z133::z134::z135::z136::z137::z138::z139::z140::u141::u142::u143::u144::u145::u146::u147::u148:: []), []⟩) → Q (.exit 10) a' w'):
    Code.wp Try.prog (nthLoop Try.f81.body 5) Q ⟨List.toArray (u0::Value.pointer (some ⟨g,0,none⟩)::u2::u3::u4::u5::u6::u7::u8::Value.pointer (some ⟨gb,0,none⟩)::u10::u11::Value.int .i64 0::u13::u14::u15::u16::u17::u18::u19::u20::u21::u22::u23::u24::u25::u26::u27::u28::u29::u30::u31::u32::u33::u34::u35::u36::u37::u38::u39::u40::u41::u42::u43::u44::u45::u46::u47::u48::u49::u50::u51::u52::u53::u54::u55::u56::u57::u58::u59::u60::u61::u62::u63::u64::u65::u66::u67::u68::u69::u70::u71::u72::u73::u74::u75::u76::u77::u78::u79::u80::u81::u82::u83::u84::u85::u86::u87::u88::u89::u90::u91::u92::u93::u94::u95::u96::u97::u98::u99::u100::u101::u102::u103::u104::u105::u106::u107::u108::u109::u110::u111::u112::u113::u114::u115::u116::u117::u118::u119::u120::u121::u122::u123::u124::u125::u126::u127::u128::u129::u130::u131::u132::u133::u134::u135::u136::u137::u138::u139::u140::u141::u142::u143::u144::u145::u146::u147::u148:: []), []⟩ wr:=by
  conv=> arg 2;whnf
  have HB:=Aside0.mk hb
  have HM:=Aside0.mk hm
  have HX:=Aside0.mk hexit
  clear hb hexit hm
  go_loopg [12] 5 (fun gg s12 w'=> ∃ k:Nat,k ≤ 5 ∧ 5 - k ≤ gg ∧ s12= .int .i64 k ∧ Aside0 (Arr w' g 93 .u64 (sChi b a k)) ∧ Aside0 (Moved wr w' (fun i=> i=g)))
  case atStart=> exact ⟨0,by omega,by omega,rfl,HB,⟨Moved.refl _ _⟩⟩
  case round=>
    obtain ⟨k,hk,hg,rfl,HK,HO⟩:=hrel
    by_cases hlt:k < 5
    · have hltz:(k:Int) < 5:=by omega
      have h0z:(0:Int) ≤ (k:Int):=by omega
      have HG:=Aside0.mk (HM.out.moved HO.out (fun e=> n1 e))
      go_wp2
      refine permS.chiIn g gb k (sChi b a k) b wr (by rw [sChi_length];exact ha) hbl hlt n1 HK.out HG.out ?_
      intro a2 W2 S1 m1 hz
      obtain ⟨y13,hz⟩:=hz
      obtain ⟨y107,hz⟩:=hz
      obtain ⟨y108,hz⟩:=hz
      obtain ⟨y109,hz⟩:=hz
      obtain ⟨y110,hz⟩:=hz
      obtain ⟨y111,hz⟩:=hz
      obtain ⟨y112,hz⟩:=hz
      obtain ⟨y113,hz⟩:=hz
      obtain ⟨y114,hz⟩:=hz
      obtain ⟨y115,hz⟩:=hz
      obtain ⟨y116,hz⟩:=hz
      obtain ⟨y117,hz⟩:=hz
      obtain ⟨y118,hz⟩:=hz
      obtain ⟨y119,hz⟩:=hz
      obtain ⟨y120,hz⟩:=hz
      obtain ⟨y121,hz⟩:=hz
      obtain ⟨y122,hz⟩:=hz
      obtain ⟨y123,hz⟩:=hz
      obtain ⟨y124,hz⟩:=hz
      obtain ⟨y125,hz⟩:=hz
      obtain ⟨y126,hz⟩:=hz
      obtain ⟨y127,hz⟩:=hz
      obtain ⟨y128,hz⟩:=hz
      obtain ⟨y129,hz⟩:=hz
      obtain ⟨y130,hz⟩:=hz
      obtain ⟨y131,hz⟩:=hz
      obtain ⟨y132,hz⟩:=hz
      obtain ⟨y133,hz⟩:=hz
      obtain ⟨y134,hz⟩:=hz
      obtain ⟨y135,hz⟩:=hz
      obtain ⟨y136,hz⟩:=hz
      obtain ⟨y137,hz⟩:=hz
      obtain ⟨y138,hz⟩:=hz
      obtain ⟨y139,hz⟩:=hz
      obtain ⟨y140,hz⟩:=hz
      subst hz
      have S1:=Aside0.mk S1
      have MV:=Aside0.mk (HO.out.trans m1)
      clear m1
      go_wp2
      go_roundg (5 - (k + 1))
      case measure=> omega
      case rel=> exact ⟨k + 1,by omega,by omega,by go_num,⟨S1.out⟩,⟨MV.out⟩⟩
    · have hk25:k=5:=by omega
      subst hk25
      go_wp2
      exact HX.out _ _ HK.out HO.out ⟨_,_,_,_,_,_,_,_,_,_,_,_,_,_,_,_,_,_,_,_,_,_,_,_,_,_,_,_,_,_,_,_,_,_,_,_,_,_,_,_,rfl⟩
set_option maxHeartbeats 8000000 in
set_option maxRecDepth 100000 in
theorem permS.rounds (g gr gh:Nat) (a:List Int) (wr':World) {u0 u2 u6 u7 u8 u9 u10 u11 u12 u13 u14 u15 u16 u17 u18 u19 u20 u21 u22 u23 u24 u25 u26 u27 u28 u29 u30 u31 u32 u33 u34 u35 u36 u37 u38 u39 u40 u41 u42 u43 u44 u45 u46 u47 u48 u49 u50 u51 u52 u53 u54 u55 u56 u57 u58 u59 u60 u61 u62 u63 u64 u65 u66 u67 u68 u69 u70 u71 u72 u73 u74 u75 u76 u77 u78 u79 u80 u81 u82 u83 u84 u85 u86 u87 u88 u89 u90 u91 u92 u93 u94 u95 u96 u97 u98 u99 u100 u101 u102 u103 u104 u105 u106 u107 u108 u109 u110 u111 u112 u113 u114 u115 u116 u117 u118 u119 u120 u121 u122 u123 u124 u125 u126 u127 u128 u129 u130 u131 u132 u133 u134 u135 u136 u137 u138 u139 u140 u141 u142 u143 u144 u145 u146 u147 u148:Value} {Q:Exit → Act → World → Prop} (ha:a.length=25) (h1:gh ≠ g) (h2:gr ≠ g) (hb:Arr wr' g 93 .u64 a) (hr:Arr wr' gr 145 .u64 kConsts) (hh:Arr wr' gh 147 .u64 kShifts)
    (hexit:∀ (a':Act) (w':World),Arr w' g 93 .u64 (sPerm a 24) → Moved wr' w' (fun i=> i=g) → (∃ z5 z6 z7 z8 z9 z10 z11 z12 z13 z16 z17 z18 z19 z20 z21 z22 z23 z24 z25 z26 z27 z28 z29 z30 z31 z32 z33 z34 z35 z36 z37 z38 z39 z40 z41 z42 z43 z44 z45 z46 z47 z48 z49 z50 z51 z52 z53 z54 z55 z56 z57 z58 z59 z60 z61 z62 z63 z64 z65 z66 z67 z68 z69 z70 z71 z72 z73 z74 z75 z76 z77 z78 z79 z80 z81 z82 z83 z84 z85 z86 z87 z88 z89 z90 z91 z92 z93 z94 z95 z96 z97 z98 z99 z100 z101 z102 z103 z104 z105 z106 z107 z108 z109 z110 z111 z112 z113 z114 z115 z116 z117 z118 z119 z120 z121 z122 z123 z124 z125 z126 z127 z128 z129 z130 z131 z132 z133 z134 z135 z136 z137 z138 z139 z140 z141 z142 z143 z144 z145 z146 z147:Value,a'=⟨List.toArray (u0::Value.pointer (some ⟨g,0,none⟩)::u2::Value.pointer (some ⟨gr,0,none⟩)::Value.pointer (some ⟨gh,0,none⟩)::z5::z6::z7::z8::z9::z10::z11::z12::z13::u14::u15::z16::z17::z18::z19::z20::z21::z22::z23::z24::z25::z26::z27::z28::z29::z30::z31::z32::z33::z34::z35::z36::z37::z38::z39::z40::z41::z42::z43::z44::z45::z46::z47::z48::z49::z50::z51::z52::z53::z54::z55::z56::z57::z58::z59::z60::z61::z62::z63::z64::z65::z66::z67::z68::z69::z70::z71::z72::z73::z74::z75::z76::z77::z78::z79::z80::z81::z82::z83::z84::z85::z86::z87::z88::z89::z90::z91::z92::z93::z94::z95::z96::z97::z98::z99::z100::z101::z102::z103::z104::z105::z106::z107::z108::z109::z110::z111::z112::z113::z114::z115::z116::z117::z118::z119::z120::z121::z122::z123::z124::z125::z126::z127::z128::z129::z130::z131::z132::z133::z134::z135::z136::z137::z138::z139::z140::z141::z142::z143::z144::z145::z146::z147::u148:: []), []⟩) → Q (.exit 0) a' w'):
    Code.wp Try.prog (nthLoop Try.f81.body 0) Q ⟨List.toArray (u0::Value.pointer (some ⟨g,0,none⟩)::u2::Value.pointer (some ⟨gr,0,none⟩)::Value.pointer (some ⟨gh,0,none⟩)::Value.int .i64 0::u6::u7::u8::u9::u10::u11::u12::u13::u14::u15::u16::u17::u18::u19::u20::u21::u22::u23::u24::u25::u26::u27::u28::u29::u30::u31::u32::u33::u34::u35::u36::u37::u38::u39::u40::u41::u42::u43::u44::u45::u46::u47::u48::u49::u50::u51::u52::u53::u54::u55::u56::u57::u58::u59::u60::u61::u62::u63::u64::u65::u66::u67::u68::u69::u70::u71::u72::u73::u74::u75::u76::u77::u78::u79::u80::u81::u82::u83::u84::u85::u86::u87::u88::u89::u90::u91::u92::u93::u94::u95::u96::u97::u98::u99::u100::u101::u102::u103::u104::u105::u106::u107::u108::u109::u110::u111::u112::u113::u114::u115::u116::u117::u118::u119::u120::u121::u122::u123::u124::u125::u126::u127::u128::u129::u130::u131::u132::u133::u134::u135::u136::u137::u138::u139::u140::u141::u142::u143::u144::u145::u146::u147::u148:: []), []⟩ wr':=by
  conv=> arg 2;whnf
  have HB:=Aside0.mk hb
  have HR:=Aside0.mk hr
  have HH:=Aside0.mk hh
  have HX:=Aside0.mk hexit
  clear hb hexit hh hr
  go_loopg [5] 24 (fun gg s5 w'=> ∃ k:Nat,k ≤ 24 ∧ 24 - k ≤ gg ∧ s5= .int .i64 k ∧ Aside0 (Arr w' g 93 .u64 (sPerm a k)) ∧ Aside0 (Moved wr' w' (fun i=> i=g)))
  case atStart=> exact ⟨0,by omega,by omega,rfl,HB,⟨Moved.refl _ _⟩⟩
  case round=>
    obtain ⟨k,hk,hg,rfl,HK,HO⟩:=hrel
    by_cases hlt:k < 24
    · have hltz:(k:Int) < 24:=by omega
      have h0z:(0:Int) ≤ (k:Int):=by omega
      have AH:=HH.out.moved HO.out (fun e=> h1 e)
      have AR:=HR.out.moved HO.out (fun e=> h2 e)
      go_upto_region 6 with fail
      apply wp_region_lit
      refine wpList_buildTo rfl 149 _ rfl (some 20) rfl z5 (by kernel_rfl) ?_
      refine Go.Great.wpList_allocTo rfl (some 6) rfl (.pointer (some ⟨wr.heap.size,0,none⟩)) (.cells z5 149) (by kernel_rfl) ?_
      refine wpList_store_rowTo rfl 149 _ _ rfl rfl wr.heap.size z5 (by kernel_rfl) (by kernel_rfl) 149 z5 (blk_new _ _) (by kernel_rfl) rfl (by kernel_rfl) ?_
      rw [setRow_self _ _ _ _ _ (blk_new _ _)]
      refine wpList_frame (a':=⟨List.toArray (u0::Value.pointer (some ⟨g,0,none⟩)::u2::Value.pointer (some ⟨gr,0,none⟩)::Value.pointer (some ⟨gh,0,none⟩)::Value.int .i64 (k:Int)::Value.pointer (some ⟨wr.heap.size,0,none⟩)::u7::u8::u9::u10::u11::u12::u13::u14::u15::Value.int .i64 (k:Int)::Value.bool true::u18::u19::Value.agg z5::u21::u22::u23::u24::u25::u26::u27::u28::u29::u30::u31::u32::u33::u34::u35::u36::u37::u38::u39::u40::u41::u42::u43::u44::u45::u46::u47::u48::u49::u50::u51::u52::u53::u54::u55::u56::u57::u58::u59::u60::u61::u62::u63::u64::u65::u66::u67::u68::u69::u70::u71::u72::u73::u74::u75::u76::u77::u78::u79::u80::u81::u82::u83::u84::u85::u86::u87::u88::u89::u90::u91::u92::u93::u94::u95::u96::u97::u98::u99::u100::u101::u102::u103::u104::u105::u106::u107::u108::u109::u110::u111::u112::u113::u114::u115::u116::u117::u118::u119::u120::u121::u122::u123::u124::u125::u126::u127::u128::u129::u130::u131::u132::u133::u134::u135::u136::u137::u138::u139::u140::u141::u142::u143::u144::u145::u146::u147::u148:: []), []⟩) (by kernel_rfl) ?_
      apply wpList_nil
      have A1:Arr (wr.alloc (.cells z5 149)) wr.heap.size 149 .u64 (sSums (sPerm a k) 0):=blk_new _ _
      have AG:Arr (wr.alloc (.cells z5 149)) g 93 .u64 (sPerm a k):=HK.out.alloc _
      have AH:=AH.alloc (.cells z5 149)
      have AR:=AR.alloc (.cells z5 149)
      have MV:=HO.out.alloc (.cells z5 149)
      have g1:g < wr.heap.size:=HK.out.lt
      have g2:gh < wr.heap.size:=(HH.out.moved HO.out (fun e=> h1 e)).lt
      have g3:gr < wr.heap.size:=(HR.out.moved HO.out (fun e=> h2 e)).lt
      have g4:wr'.heap.size ≤ wr.heap.size:=HO.out.1
      have g5:wr.heap.size < (wr.alloc (.cells z5 149)).heap.size:=A1.lt
      generalize (wr.alloc (.cells z5 149))=W1 at A1 AG AH AR MV g5 ⊢
      generalize wr.heap.size=gs at A1 g1 g2 g3 g4 g5 ⊢
      have hl:(sPerm a k).length=25:=by rw [sPerm_length];exact ha
      clear HK HO
      have n1:gs ≠ g:=by omega
      have n2:gs ≠ gh:=by omega
      have n3:gs ≠ gr:=by omega
      have A1:=Aside0.mk A1
      have AG:=Aside0.mk AG
      have AH:=Aside0.mk AH
      have AR:=Aside0.mk AR
      have MV:=Aside0.mk MV
      clear g1 g2 g3
      go_wp2
      refine permS.sums g gs (sPerm a k) W1 hl n1 AG.out A1.out ?_
      intro a2 W2 S1 m1 hz
      obtain ⟨y7,hz⟩:=hz
      obtain ⟨y21,hz⟩:=hz
      obtain ⟨y22,hz⟩:=hz
      obtain ⟨y23,hz⟩:=hz
      obtain ⟨y24,hz⟩:=hz
      obtain ⟨y25,hz⟩:=hz
      obtain ⟨y26,hz⟩:=hz
      obtain ⟨y27,hz⟩:=hz
      obtain ⟨y28,hz⟩:=hz
      obtain ⟨y29,hz⟩:=hz
      obtain ⟨y30,hz⟩:=hz
      obtain ⟨y31,hz⟩:=hz
      obtain ⟨y32,hz⟩:=hz
      obtain ⟨y33,hz⟩:=hz
      obtain ⟨y34,hz⟩:=hz
      obtain ⟨y35,hz⟩:=hz
      obtain ⟨y36,hz⟩:=hz
      obtain ⟨y37,hz⟩:=hz
      obtain ⟨y38,hz⟩:=hz
      obtain ⟨y39,hz⟩:=hz
      obtain ⟨y40,hz⟩:=hz
      obtain ⟨y41,hz⟩:=hz
      obtain ⟨y42,hz⟩:=hz
      obtain ⟨y43,hz⟩:=hz
      obtain ⟨y44,hz⟩:=hz
      obtain ⟨y45,hz⟩:=hz
      obtain ⟨y46,hz⟩:=hz
      obtain ⟨y47,hz⟩:=hz
      obtain ⟨y48,hz⟩:=hz
      obtain ⟨y49,hz⟩:=hz
      subst hz
      have AG:=Aside0.mk (AG.out.moved m1 (fun e=> n1 e.symm))
      have AH:=Aside0.mk (AH.out.moved m1 (fun e=> n2 e.symm))
      have AR:=Aside0.mk (AR.out.moved m1 (fun e=> n3 e.symm))
      have MV:=Aside0.mk (MV.out.trans_new m1 (fun i e=> .inr (e ▸ g4)))
      have g5:gs < W2.heap.size:=Nat.lt_of_lt_of_le g5 m1.1
      have S1:=Aside0.mk S1
      clear m1 A1
      go_wp2
      refine permS.theta g gs (sPerm a k) (sSums (sPerm a k) 5) W2 hl (sSums_length _ _) n1 AG.out S1.out ?_
      intro a3 W3 S2 m2 hz
      obtain ⟨x8,hz⟩:=hz
      obtain ⟨x50,hz⟩:=hz
      obtain ⟨x51,hz⟩:=hz
      obtain ⟨x52,hz⟩:=hz
      obtain ⟨x53,hz⟩:=hz
      obtain ⟨x54,hz⟩:=hz
      obtain ⟨x55,hz⟩:=hz
      obtain ⟨x56,hz⟩:=hz
      obtain ⟨x57,hz⟩:=hz
      obtain ⟨x58,hz⟩:=hz
      obtain ⟨x59,hz⟩:=hz
      obtain ⟨x60,hz⟩:=hz
      obtain ⟨x61,hz⟩:=hz
      obtain ⟨x62,hz⟩:=hz
      obtain ⟨x63,hz⟩:=hz
      obtain ⟨x64,hz⟩:=hz
      obtain ⟨x65,hz⟩:=hz
      obtain ⟨x66,hz⟩:=hz
      obtain ⟨x67,hz⟩:=hz
      obtain ⟨x68,hz⟩:=hz
      obtain ⟨x69,hz⟩:=hz
      obtain ⟨x70,hz⟩:=hz
      subst hz
      have AH:=AH.out.moved m2 (fun e=> h1 e)
      have AR:=AR.out.moved m2 (fun e=> h2 e)
      have MV:=MV.out.trans_new m2 (fun i e=> .inl e)
      have g5:gs < W3.heap.size:=Nat.lt_of_lt_of_le g5 m2.1
      clear m2 AG S1
      have hl2:(sTheta (sSums (sPerm a k) 5) (sPerm a k) 25).length=25:=by rw [sTheta_length];exact hl
      go_upto_region 15 with fail
      apply wp_region_lit
      refine wpList_buildTo rfl 93 _ rfl (some 71) rfl z25 (by kernel_rfl) ?_
      refine Go.Great.wpList_allocTo rfl (some 9) rfl (.pointer (some ⟨W3.heap.size,0,none⟩)) (.cells z25 93) (by kernel_rfl) ?_
      refine wpList_store_rowTo rfl 93 _ _ rfl rfl W3.heap.size z25 (by kernel_rfl) (by kernel_rfl) 93 z25 (blk_new _ _) (by kernel_rfl) rfl (by kernel_rfl) ?_
      rw [setRow_self _ _ _ _ _ (blk_new _ _)]
      refine wpList_frame (a':=⟨List.toArray (u0::Value.pointer (some ⟨g,0,none⟩)::u2::Value.pointer (some ⟨gr,0,none⟩)::Value.pointer (some ⟨gh,0,none⟩)::Value.int .i64 (k:Int)::Value.pointer (some ⟨gs,0,none⟩)::y7::x8::Value.pointer (some ⟨W3.heap.size,0,none⟩)::u10::u11::u12::u13::u14::u15::Value.int .i64 (k:Int)::Value.bool true::u18::u19::Value.agg z5::y21::y22::y23::y24::y25::y26::y27::y28::y29::y30::y31::y32::y33::y34::y35::y36::y37::y38::y39::y40::y41::y42::y43::y44::y45::y46::y47::y48::y49::x50::x51::x52::x53::x54::x55::x56::x57::x58::x59::x60::x61::x62::x63::x64::x65::x66::x67::x68::x69::x70::Value.agg z25::u72::u73::u74::u75::u76::u77::u78::u79::u80::u81::u82::u83::u84::u85::u86::u87::u88::u89::u90::u91::u92::u93::u94::u95::u96::u97::u98::u99::u100::u101::u102::u103::u104::u105::u106::u107::u108::u109::u110::u111::u112::u113::u114::u115::u116::u117::u118::u119::u120::u121::u122::u123::u124::u125::u126::u127::u128::u129::u130::u131::u132::u133::u134::u135::u136::u137::u138::u139::u140::u141::u142::u143::u144::u145::u146::u147::u148:: []), []⟩) (by kernel_rfl) ?_
      apply wpList_nil
      have A1:Arr (W3.alloc (.cells z25 93)) W3.heap.size 93 .u64 (sMoved (sTheta (sSums (sPerm a k) 5) (sPerm a k) 25) 0):=blk_new _ _
      have AG:Arr (W3.alloc (.cells z25 93)) g 93 .u64 (sTheta (sSums (sPerm a k) 5) (sPerm a k) 25):=S2.alloc _
      have n4:W3.heap.size ≠ g:=by have:=S2.lt;omega
      have n5:W3.heap.size ≠ gh:=by have:=AH.lt;omega
      have n6:W3.heap.size ≠ gr:=by have:=AR.lt;omega
      have o2:wr'.heap.size ≤ W3.heap.size:=MV.1
      have AH:=AH.alloc (.cells z25 93)
      have AR:=AR.alloc (.cells z25 93)
      have MV:=MV.alloc (.cells z25 93)
      clear S2
      generalize (W3.alloc (.cells z25 93))=W4 at A1 AG AH AR MV ⊢
      generalize W3.heap.size=gb at A1 n4 n5 n6 o2 g5 ⊢
      have A1:=Aside0.mk A1
      have AG:=Aside0.mk AG
      have AH:=Aside0.mk AH
      have AR:=Aside0.mk AR
      have MV:=Aside0.mk MV
      clear g5
      go_wp2
      refine permS.move g gh gb _ W4 hl2 n4 n5 AG.out AH.out A1.out ?_
      intro a5 W5 S3 m3 hz
      obtain ⟨v10,hz⟩:=hz
      obtain ⟨v11,hz⟩:=hz
      obtain ⟨v72,hz⟩:=hz
      obtain ⟨v73,hz⟩:=hz
      obtain ⟨v74,hz⟩:=hz
      obtain ⟨v75,hz⟩:=hz
      obtain ⟨v76,hz⟩:=hz
      obtain ⟨v77,hz⟩:=hz
      obtain ⟨v78,hz⟩:=hz
      obtain ⟨v79,hz⟩:=hz
      obtain ⟨v80,hz⟩:=hz
      obtain ⟨v81,hz⟩:=hz
      obtain ⟨v82,hz⟩:=hz
      obtain ⟨v83,hz⟩:=hz
      obtain ⟨v84,hz⟩:=hz
      obtain ⟨v85,hz⟩:=hz
      obtain ⟨v86,hz⟩:=hz
      obtain ⟨v87,hz⟩:=hz
      obtain ⟨v88,hz⟩:=hz
      obtain ⟨v89,hz⟩:=hz
      obtain ⟨v90,hz⟩:=hz
      obtain ⟨v91,hz⟩:=hz
      obtain ⟨v92,hz⟩:=hz
      obtain ⟨v93,hz⟩:=hz
      obtain ⟨v94,hz⟩:=hz
      obtain ⟨v95,hz⟩:=hz
      obtain ⟨v96,hz⟩:=hz
      obtain ⟨v97,hz⟩:=hz
      obtain ⟨v98,hz⟩:=hz
      obtain ⟨v99,hz⟩:=hz
      obtain ⟨v100,hz⟩:=hz
      obtain ⟨v101,hz⟩:=hz
      obtain ⟨v102,hz⟩:=hz
      subst hz
      have AG:=Aside0.mk (AG.out.moved m3 (fun e=> n4 e.symm))
      have AR:=Aside0.mk (AR.out.moved m3 (fun e=> n6 e.symm))
      have MV:=Aside0.mk (MV.out.trans_new m3 (fun i e=> .inr (e ▸ o2)))
      have S3:=Aside0.mk S3
      clear m3 AH A1
      go_wp2
      refine permS.chi g gb _ _ W5 hl2 (sMoved_length _ _) n4 AG.out S3.out ?_
      intro a6 W6 S4 m4 hz
      obtain ⟨t12,hz⟩:=hz
      obtain ⟨t13,hz⟩:=hz
      obtain ⟨t103,hz⟩:=hz
      obtain ⟨t104,hz⟩:=hz
      obtain ⟨t105,hz⟩:=hz
      obtain ⟨t106,hz⟩:=hz
      obtain ⟨t107,hz⟩:=hz
      obtain ⟨t108,hz⟩:=hz
      obtain ⟨t109,hz⟩:=hz
      obtain ⟨t110,hz⟩:=hz
      obtain ⟨t111,hz⟩:=hz
      obtain ⟨t112,hz⟩:=hz
      obtain ⟨t113,hz⟩:=hz
      obtain ⟨t114,hz⟩:=hz
      obtain ⟨t115,hz⟩:=hz
      obtain ⟨t116,hz⟩:=hz
      obtain ⟨t117,hz⟩:=hz
      obtain ⟨t118,hz⟩:=hz
      obtain ⟨t119,hz⟩:=hz
      obtain ⟨t120,hz⟩:=hz
      obtain ⟨t121,hz⟩:=hz
      obtain ⟨t122,hz⟩:=hz
      obtain ⟨t123,hz⟩:=hz
      obtain ⟨t124,hz⟩:=hz
      obtain ⟨t125,hz⟩:=hz
      obtain ⟨t126,hz⟩:=hz
      obtain ⟨t127,hz⟩:=hz
      obtain ⟨t128,hz⟩:=hz
      obtain ⟨t129,hz⟩:=hz
      obtain ⟨t130,hz⟩:=hz
      obtain ⟨t131,hz⟩:=hz
      obtain ⟨t132,hz⟩:=hz
      obtain ⟨t133,hz⟩:=hz
      obtain ⟨t134,hz⟩:=hz
      obtain ⟨t135,hz⟩:=hz
      obtain ⟨t136,hz⟩:=hz
      obtain ⟨t137,hz⟩:=hz
      obtain ⟨t138,hz⟩:=hz
      obtain ⟨t139,hz⟩:=hz
      obtain ⟨t140,hz⟩:=hz
      subst hz
      have AR:=AR.out.moved m4 (fun e=> h2 e)
      have MV:=Aside0.mk (MV.out.trans_new m4 (fun i e=> .inl e))
      have S4':Arr W6 g 93 .u64 (sMix (sPerm a k)):=S4
      have q0:=S4'.cell 0 (by rw [sMix_length];omega)
      have f0:=S4'.frozen 0
      have q1:=AR.cell k (by show k < 24;exact hlt)
      obtain ⟨v0,hv0⟩:∃ v,v=(sMix (sPerm a k)).getD 0 0:=⟨_,rfl⟩
      obtain ⟨c0,hc0⟩:∃ v,v=kConsts.getD k 0:=⟨_,rfl⟩
      rw [← hv0] at q0
      rw [← hc0] at q1
      have HV0:=Aside0.mk hv0
      have HC0:=Aside0.mk hc0
      have S4:=Aside0.mk S4'
      clear m4 AG S4' S3 hv0 hc0 AR hl2 hlt
      go_wp2
      refine wp_region_still_tail 7 (by kernel_rfl) (by kernel_rfl) ?_
      show wpStill _ _ (World.drew _) (fun a'=> wpList _ _ _ _ a' (World.drew _)) _ _
      simp only [List.take_succ_cons,List.take_zero,List.drop_succ_cons,List.drop_zero]
      repeat still_step
      refine wpStill_nil ?_
      go_wp2
      go_roundg (24 - (k + 1))
      case measure=> omega
      case rel=> exact ⟨k + 1,by omega,by omega,by go_num,⟨by rw [HV0.out,HC0.out];exact (S4.out.set 0 _).drew⟩,⟨(MV.out.set g _ _ (.inl rfl)).drew⟩⟩
    · have hk25:k=24:=by omega
      subst hk25
      go_wp2
      exact HX.out _ _ HK.out HO.out ⟨_,_,_,_,_,_,_,_,_,_,_,_,_,_,_,_,_,_,_,_,_,_,_,_,_,_,_,_,_,_,_,_,_,_,_,_,_,_,_,_,_,_,_,_,_,_,_,_,_,_,_,_,_,_,_,_,_,_,_,_,_,_,_,_,_,_,_,_,_,_,_,_,_,_,_,_,_,_,_,_,_,_,_,_,_,_,_,_,_,_,_,_,_,_,_,_,_,_,_,_,_,_,_,_,_,_,_,_,_,_,_,_,_,_,_,_,_,_,_,_,_,_,_,_,_,_,_,_,_,_,_,_,_,_,_,_,_,_,_,_,_,rfl⟩
end Go.Proofs.Ytlogocmojnhpbaa.Print
end
