-- Packed by a program of this session (slim.py): contracts that many laws share; Lean checks it.
import Derived.Test.YtlogocmojnhpbaaP0
import Derived.Test.YtlogocmojnhpbaaProg
import Derived.Shelf.Abstract
import Derived.WalkKit
import Derived.Laws.PanicsMore
import Derived.StillTailTactics
import Derived.BigQuiet
import Derived.Great.BuildSlice
import Derived.Great.Walk
import Derived.Laws.CopyRow
import Derived.Deep.Cut
import Derived.Deep.WholeRow
section
namespace Go.Proofs.Ytlogocmojnhpbaa.Print
open Go.RowKit Go.Proofs.YtlogocmojnhpbaaW.PrintWords
set_option linter.unusedVariables false
def Arr (w:World) (g:Nat) (T:TypeId) (k:IntKind) (xs:List Int):Prop:=w.heap[g]?=some (.cells (nums k xs).toArray T (0,0))
section
variable {w:World} {g:Nat} {T:TypeId} {k:IntKind} {xs:List Int}
theorem Arr.cell (h:Arr w g T k xs) (i:Nat) (h1:i < xs.length):w.cell? ⟨g,i,none⟩=some (.int k (xs.getD i 0)):=by
  rw [blk_cell h i]
  simp [nums,List.getD_eq_getElem?_getD,List.getElem?_eq_getElem h1]
theorem Arr.frozen (h:Arr w g T k xs) (i:Nat):w.frozen? ⟨g,i,none⟩=false:=blk_frozen h i
theorem Arr.set (h:Arr w g T k xs) (i:Nat) (v:Int):Arr (w.setCell ⟨g,i,none⟩ (.int k v)) g T k (xs.set i v):=by
  unfold Arr
  refine blk_put h i _ ?_
  simp [nums,List.map_set]
theorem Arr.far (h:Arr w g T k xs) {p:Addr} (hp:g ≠ p.block) (u:Value):Arr (w.setCell p u) g T k xs:=blk_far h hp u
theorem Arr.alloc (h:Arr w g T k xs) (o:Obj):Arr (w.alloc o) g T k xs:=blk_alloc h o
theorem Arr.drew (h:Arr w g T k xs):Arr w.drew g T k xs:=h
theorem Arr.drewN (h:Arr w g T k xs) (n:Nat):Arr (w.drewN n) g T k xs:=h
theorem Arr.lt (h:Arr w g T k xs):g < w.heap.size:=blk_lt h
end
def Moved (w w':World) (p:Nat → Prop):Prop:=
  w.heap.size ≤ w'.heap.size ∧ (∀ i,i < w.heap.size → ¬ p i → w'.heap[i]?=w.heap[i]?) ∧ (∀ w0:World,Below w0.heap.size w0 w → (∀ i,i < w0.heap.size → ¬ p i) → Below w0.heap.size w0 w')
section
variable {w w1 w2:World} {p q:Nat → Prop}
theorem Moved.refl (w:World) (p:Nat → Prop):Moved w w p:=⟨Nat.le_refl _,fun _ _ _=> rfl,fun _ h _=> h⟩
theorem Moved.set (h:Moved w w1 p) (g i:Nat) (u:Value) (hg:p g ∨ w.heap.size ≤ g):Moved w (w1.setCell ⟨g,i,none⟩ u) p:=by
  have hs:(w1.setCell ⟨g,i,none⟩ u).heap.size=w1.heap.size:=by simp [World.setCell]
  refine ⟨by rw [hs];exact h.1,fun j hj hp=> ?_,fun w0 hb h0=> ?_⟩
  · refine (Below.heap_setCell w1 ⟨g,i,none⟩ u j ?_).trans (h.2.1 j hj hp)
    intro e
    rcases hg with hg|hg
    · exact hp (by rw [e];exact hg)
    · exact absurd hj (by rw [e];show ¬ g < w.heap.size;omega)
  · refine bwS (h.2.2 w0 hb h0) ?_
    rcases hg with hg|hg
    · exact Nat.le_of_not_lt fun hlt=> h0 g hlt hg
    · exact Nat.le_trans hb.size hg
theorem Moved.alloc (h:Moved w w1 p) (o:Obj):Moved w (w1.alloc o) p:=
  ⟨Nat.le_trans h.1 (by show w1.heap.size ≤ (w1.heap.push o).size;simp),fun i hi hp=> (Below.heap_alloc w1 o i (Nat.lt_of_lt_of_le hi h.1)).trans (h.2.1 i hi hp),fun w0 hb h0=> bwA (h.2.2 w0 hb h0) o⟩
theorem Moved.drew (h:Moved w w1 p):Moved w w1.drew p:=⟨h.1,h.2.1,fun w0 hb h0=> bwD (h.2.2 w0 hb h0)⟩
theorem Moved.drewN (h:Moved w w1 p) (n:Nat):Moved w (w1.drewN n) p:=⟨h.1,h.2.1,fun w0 hb h0=> bwN (h.2.2 w0 hb h0) n⟩
theorem Moved.trans (h:Moved w w1 p) (k:Moved w1 w2 p):Moved w w2 p:=
  ⟨Nat.le_trans h.1 k.1,fun i hi hp=> (k.2.1 i (Nat.lt_of_lt_of_le hi h.1) hp).trans (h.2.1 i hi hp),fun w0 hb h0=> k.2.2 w0 (h.2.2 w0 hb h0) h0⟩
theorem Moved.trans_new (h:Moved w w1 p) (k:Moved w1 w2 q) (hq:∀ i,q i → p i ∨ w.heap.size ≤ i):Moved w w2 p:=
  ⟨Nat.le_trans h.1 k.1,fun i hi hp=> (k.2.1 i (Nat.lt_of_lt_of_le hi h.1) (fun hqi=> by
      rcases hq i hqi with h1|h1
      · exact hp h1
      · omega)).trans (h.2.1 i hi hp),
    fun w0 hb h0=> k.2.2 w0 (h.2.2 w0 hb h0) (fun i hi hqi=> by
      rcases hq i hqi with h1|h1
      · exact h0 i hi h1
      · exact absurd (Nat.le_trans hb.size h1) (by omega))⟩
theorem Arr.moved {g:Nat} {T:TypeId} {k:IntKind} {xs:List Int} (h:Arr w g T k xs) (m:Moved w w1 p) (hp:¬ p g):Arr w1 g T k xs:=(m.2.1 g h.lt hp).trans h
theorem Moved.below (h:Moved w w1 p) (hp:∀ i,i < w.heap.size → ¬ p i):Below w.heap.size w w1:=h.2.2 w (Below.refl _ w) hp
end
end Go.Proofs.Ytlogocmojnhpbaa.Print
end
section
namespace Go.Proofs.Ytlogocmojnhpbaa.Print
open Go.RowKit Go.Proofs.YtlogocmojnhpbaaW.PrintWords
set_option linter.unusedVariables false
set_option linter.unusedSimpArgs false
def rotL (x n:Int):Int:=Go.bits .or .u64 (IntKind.u64.wrap (x * 2 ^ n.toNat)) (x / 2 ^ (64 - n).toNat)
theorem and_63 (n:Int) (h0:0 ≤ n) (h1:n < 64):Go.bits .and .u64 n 63=n:=by
  have e6:(2:Int) ^ 6=64:=by decide
  have h:=bits_mask .u64 6 (by decide) (fun n h0 h1=> by rw [e6] at h1;simp only [IntKind.wrap,IntKind.bits,IntKind.signed];simp;omega) 6 (by decide) n h0 (by rw [e6];omega)
  rw [e6] at h
  rw [show (63:Int)=64 - 1 by decide,h]
  omega
set_option maxHeartbeats 4000000 in
theorem rot.calls (x n:Int) (w:World) (h0:0 ≤ n) (h1:n < 64):
    Calls Try.prog 141 #[.int .u64 x,.int .i64 n] w fun e w'=> e= .returned (.int .u64 (rotL x n)) ∧ Drawn0 w w':=by
  have e0:IntKind.u64.wrap n=n:=by simp only [IntKind.wrap,IntKind.bits,IntKind.signed];simp;omega
  have e1:=and_63 n h0 h1
  have e2:IntKind.u64.wrap (64 - n)=64 - n:=by simp only [IntKind.wrap,IntKind.bits,IntKind.signed];simp;omega
  have c0:decide (0 ≤ n)=true:=decide_eq_true h0
  have c1:decide (0 ≤ 64 - n)=true:=decide_eq_true (by omega)
  go_enter Try.func141,Try.ntmps141
  go_wp2
  go_ret
  exact ⟨rfl,Drawn0.refl _⟩
def turnL (x n:Int):Int:=if n=0 then x else rotL x n
set_option maxHeartbeats 4000000 in
theorem turn.calls (x n:Int) (w:World) (h0:0 ≤ n) (h1:n < 64):
    Calls Try.prog 140 #[.int .u64 x,.int .u64 n] w fun e w'=> e= .returned (.int .u64 (turnL x n)) ∧ Drawn0 w w':=by
  unfold turnL
  by_cases hn:n=0
  · rw [if_pos hn]
    subst hn
    go_enter Try.func140,Try.ntmps140
    go_wp2
    go_ret
    exact ⟨rfl,Drawn0.refl _⟩
  · rw [if_neg hn]
    have d0:(n==0)=false:=beq_eq_false_iff_ne.2 hn
    have d1:decide (n=0)=false:=decide_eq_false hn
    have e2:IntKind.u64.wrap (64 - n)=64 - n:=by simp only [IntKind.wrap,IntKind.bits,IntKind.signed];simp;omega
    have c0:decide (0 ≤ n)=true:=decide_eq_true h0
    have c1:decide (0 ≤ 64 - n)=true:=decide_eq_true (by omega)
    clear hn
    go_enter Try.func140,Try.ntmps140
    go_wp2
    go_ret
    exact ⟨rfl,Drawn0.refl _⟩
end Go.Proofs.Ytlogocmojnhpbaa.Print
end
section
namespace Go.Proofs.Ytlogocmojnhpbaa.Print
open Go.RowKit Go.Proofs.YtlogocmojnhpbaaW.PrintWords
theorem idx_arr {P:Program} {t e:TypeId} {n:Nat} (h:P.underlying t=some (.array n e)) (hs:∀ w,(sizeOf e).run P w= .ok 1 w) (ha:∀ w,(isAgg e).run P w= .ok false w) (k:IntKind) (xs:List Int) (hl:xs.length=n) (j:Nat) (w:World) (hj:j < n):
    (Instr.index t (.agg (nums k xs).toArray) (.int .i64 (j:Int))).run P w= .ok (.int k (xs.getD j 0)) w:=by
  have h1:(0:Int) ≤ (j:Int) ∧ (j:Int) < (n:Int):=by omega
  simp [Instr.index,run_underlying h,asIntOf,h1,go_sem]
  rw [if_pos hj,hs]
  simp only [Result.andThen_ok]
  rw [ha]
  simp [nums,List.getElem?_eq_getElem (show j < xs.length by omega)]
theorem size92 (w:World):(sizeOf 92).run Try.prog w= .ok 1 w:=by
  simp [sizeOf,go_sem]
  rfl
theorem agg92 (w:World):(isAgg 92).run Try.prog w= .ok false w:=by
  simp [isAgg,go_sem]
end Go.Proofs.Ytlogocmojnhpbaa.Print
end
section
namespace Go.Proofs.Ytlogocmojnhpbaa.Print
open Go.RowKit Go.Proofs.YtlogocmojnhpbaaW.PrintWords
set_option linter.unusedVariables false
set_option linter.unusedSimpArgs false
def xorU (a b:Int):Int:=Go.bits .xor .u64 a b
def notU (a b:Int):Int:=Go.bits .andNot .u64 a b
def kShifts:List Int:= [0,1,62,28,27,36,44,6,55,20,3,10,43,25,39,41,45,15,21,8,18,2,61,56,14]
def kConsts:List Int:= [1,32898,9223372036854808714,9223372039002292224,32907,2147483649,9223372039002292353,9223372036854808585,138,136,2147516425,2147483658,2147516555,9223372036854775947,9223372036854808713,9223372036854808579,9223372036854808578,9223372036854775936,32778,9223372039002259466,9223372039002292353,9223372036854808704,2147483649,9223372039002292232]
def kSums (s:List Int):Nat → List Int
  |0=> List.replicate 5 0
  |k + 1=> (kSums s k).set (k % 5) (xorU ((kSums s k).getD (k % 5) 0) (s.getD k 0))
theorem kSums_length (s:List Int) (k:Nat):(kSums s k).length=5:=by
  induction k with
  |zero=> rfl
  |succ k ih=> simp [kSums,ih]
def kLane (s c:List Int) (k:Nat):Int:=xorU (s.getD k 0) (xorU (c.getD ((k + 4) % 5) 0) (rotL (c.getD ((k + 1) % 5) 0) 1))
def kMoved (s c:List Int):Nat → List Int
  |0=> List.replicate 25 0
  |k + 1=> (kMoved s c k).set (k / 5 + 5 * ((2 * (k % 5) + 3 * (k / 5)) % 5)) (rotL (kLane s c k) (kShifts.getD k 0))
theorem kMoved_length (s c:List Int) (k:Nat):(kMoved s c k).length=25:=by
  induction k with
  |zero=> rfl
  |succ k ih=> simp [kMoved,ih]
def kChi (m s:List Int):Nat → List Int
  |0=> s
  |k + 1=> (kChi m s k).set k (xorU (m.getD k 0) (notU (m.getD (k - k % 5 + (k + 2) % 5) 0) (m.getD (k - k % 5 + (k + 1) % 5) 0)))
theorem kChi_length (m s:List Int) (k:Nat):(kChi m s k).length=s.length:=by
  induction k with
  |zero=> rfl
  |succ k ih=> simp [kChi,ih]
def kMix (s:List Int):List Int:=kChi (kMoved s (kSums s 25) 25) s 25
def kRound (s:List Int) (c:Int):List Int:=(kMix s).set 0 (xorU ((kMix s).getD 0 0) c)
def kPerm (s:List Int):Nat → List Int
  |0=> s
  |r + 1=> kRound (kPerm s r) (kConsts.getD r 0)
theorem kPerm_length (s:List Int) (r:Nat):(kPerm s r).length=s.length:=by
  induction r with
  |zero=> rfl
  |succ r ih=> simp [kPerm,kRound,kMix,kChi_length,ih]
def Only (w w':World) (g:Nat):Prop:=KeepBut w w' g none ∧ ∀ w0:World,Below w0.heap.size w0 w → w0.heap.size ≤ g → Below w0.heap.size w0 w'
theorem kShifts_all:kShifts.all (fun x=> decide (0 ≤ x) && decide (x < 64))=true:=by decide +kernel
theorem kShifts_bd (k:Nat):0 ≤ kShifts.getD k 0 ∧ kShifts.getD k 0 < 64:=by
  rw [List.getD_eq_getElem?_getD]
  by_cases h:k < kShifts.length
  · rw [List.getElem?_eq_getElem h]
    have:=List.all_eq_true.1 kShifts_all _ (List.getElem_mem h)
    simpa using this
  · rw [List.getElem?_eq_none (by omega)]
    simp
def codeLoops:Code → List Code
  |.loop c=> .loop c::codeLoops c
  |.seq a b=> codeLoops a ++ codeLoops b
  |.block _ c=> codeLoops c
  |.scope c=> codeLoops c
  |.cond _ a b=> codeLoops a ++ codeLoops b
  |_=> []
noncomputable def nthLoop (c:Option Code) (n:Nat):Code:=(codeLoops (c.getD .skip)).getD n .skip
end Go.Proofs.Ytlogocmojnhpbaa.Print
end
section
namespace Go.Proofs.Ytlogocmojnhpbaa.Print
open Go.RowKit Go.Proofs.YtlogocmojnhpbaaW.PrintWords
set_option linter.unusedVariables false
set_option linter.unusedSimpArgs false
set_option maxHeartbeats 8000000 in
set_option maxRecDepth 100000 in
theorem permI.sums (g gs:Nat) (s:List Int) (wr:World) {u1 u2 u3 u4 u5 u7 u8 u9 u10 u11 u12 u13 u14 u15 u16 u17 u18 u19 u20 u21 u22 u23 u24 u25 u28 u29 u30 u31 u32 u33 u34 u35 u36 u37 u38 u39 u40 u41 u42 u43 u44 u45 u46 u47 u48 u49 u50 u51 u52 u53 u54 u55 u56 u57 u58 u59 u60 u61 u62 u63 u64 u65 u66 u67 u68 u69 u70 u71 u72 u73 u74 u75 u76 u77 u78 u79 u80 u81 u82 u83 u84 u85 u86 u87 u88 u89 u90 u91 u92 u93 u94 u95 u96 u97 u98 u99 u100 u101 u102 u103 u104 u105 u106 u107 u108 u109 u110 u111 u112 u113 u114 u115 u116 u117 u118 u119 u120 u121 u122 u123:Value} {Q:Exit → Act → World → Prop} (hs:s.length=25) (hne:gs ≠ g) (hb:Arr wr g 96 .u64 s) (hc:Arr wr gs 149 .u64 (kSums s 0))
    (hexit:∀ (a':Act) (w':World),Arr w' gs 149 .u64 (kSums s 25) → Moved wr w' (fun i=> i=gs) → (∃ z8 z9 z27 z28 z29 z30 z31 z32 z33 z34 z35 z36 z37 z38 z39 z40:Value,a'=⟨List.toArray (Value.pointer (some ⟨g,0,none⟩)::u1::u2::u3::u4::u5::Value.pointer (some ⟨gs,0,none⟩)::u7::z8::z9::u10::u11::u12::u13::u14::u15::u16::u17::u18::u19::u20::u21::u22::u23::u24::u25::Value.pointer (some ⟨g,0,none⟩)::z27::z28::z29::z30::z31::z32::z33::z34::z35::z36::z37::z38::z39::z40::u41::u42::u43::u44::u45::u46::u47::u48::u49::u50::u51::u52::u53::u54::u55::u56::u57::u58::u59::u60::u61::u62::u63::u64::u65::u66::u67::u68::u69::u70::u71::u72::u73::u74::u75::u76::u77::u78::u79::u80::u81::u82::u83::u84::u85::u86::u87::u88::u89::u90::u91::u92::u93::u94::u95::u96::u97::u98::u99::u100::u101::u102::u103::u104::u105::u106::u107::u108::u109::u110::u111::u112::u113::u114::u115::u116::u117::u118::u119::u120::u121::u122::u123:: []), []⟩) → Q (.exit 2) a' w'):
    Code.wp Try.prog (nthLoop Try.f85.body 1) Q ⟨List.toArray (Value.pointer (some ⟨g,0,none⟩)::u1::u2::u3::u4::u5::Value.pointer (some ⟨gs,0,none⟩)::u7::u8::u9::u10::u11::u12::u13::u14::u15::u16::u17::u18::u19::u20::u21::u22::u23::u24::u25::Value.pointer (some ⟨g,0,none⟩)::Value.int .i64 0::u28::u29::u30::u31::u32::u33::u34::u35::u36::u37::u38::u39::u40::u41::u42::u43::u44::u45::u46::u47::u48::u49::u50::u51::u52::u53::u54::u55::u56::u57::u58::u59::u60::u61::u62::u63::u64::u65::u66::u67::u68::u69::u70::u71::u72::u73::u74::u75::u76::u77::u78::u79::u80::u81::u82::u83::u84::u85::u86::u87::u88::u89::u90::u91::u92::u93::u94::u95::u96::u97::u98::u99::u100::u101::u102::u103::u104::u105::u106::u107::u108::u109::u110::u111::u112::u113::u114::u115::u116::u117::u118::u119::u120::u121::u122::u123:: []), []⟩ wr:=by
  conv=> arg 2;whnf
  have HB:=Aside0.mk hb
  have HC:=Aside0.mk hc
  have HX:=Aside0.mk hexit
  clear hb hc hexit
  go_loopg [27] 25 (fun gg s27 w'=> ∃ k:Nat,k ≤ 25 ∧ 25 - k ≤ gg ∧ s27= .int .i64 k ∧ Aside0 (Arr w' gs 149 .u64 (kSums s k)) ∧ Aside0 (Moved wr w' (fun i=> i=gs)))
  case atStart=> exact ⟨0,by omega,by omega,rfl,HC,⟨Moved.refl _ _⟩⟩
  case round=>
    obtain ⟨k,hk,hg,rfl,HK,HO⟩:=hrel
    by_cases hlt:k < 25
    · have hltz:(k:Int) < 25:=by omega
      have h0z:(0:Int) ≤ (k:Int):=by omega
      have HG:=HB.out.moved HO.out (fun e=> hne e.symm)
      have q0:=HG.cell k (by omega)
      have q1:=HK.out.cell (k % 5) (by rw [kSums_length];omega)
      have f1:=HK.out.frozen (k % 5)
      clear hlt
      go_wp2
      go_quiet (fail)
      go_wp2
      go_roundg (25 - (k + 1))
      case measure=> omega
      case rel=> exact ⟨k + 1,by omega,by omega,by go_num,⟨(HK.out.drewN nq).set (k % 5) _⟩,⟨(HO.out.drewN nq).set gs _ _ (.inl rfl)⟩⟩
    · have hk25:k=25:=by omega
      subst hk25
      go_wp2
      exact HX.out _ _ HK.out HO.out ⟨_,_,_,_,_,_,_,_,_,_,_,_,_,_,_,_,rfl⟩
set_option maxHeartbeats 8000000 in
set_option maxRecDepth 100000 in
theorem permI.moved (g gh gs gm:Nat) (s c:List Int) (wr:World) {u1 u3 u4 u5 u8 u9 u10 u11 u12 u13 u14 u15 u16 u17 u18 u19 u20 u21 u22 u23 u24 u25 u26 u27 u28 u29 u30 u31 u32 u33 u34 u35 u36 u37 u38 u39 u40 u43 u44 u45 u46 u47 u48 u49 u50 u51 u52 u53 u54 u55 u56 u57 u58 u59 u60 u61 u62 u63 u64 u65 u66 u67 u68 u69 u70 u71 u72 u73 u74 u75 u76 u77 u78 u79 u80 u81 u82 u83 u84 u85 u86 u87 u88 u89 u90 u91 u92 u93 u94 u95 u96 u97 u98 u99 u100 u101 u102 u103 u104 u105 u106 u107 u108 u109 u110 u111 u112 u113 u114 u115 u116 u117 u118 u119 u120 u121 u122 u123:Value} {Q:Exit → Act → World → Prop} (hs:s.length=25) (hcl:c.length=5) (h1:gm ≠ g) (h2:gm ≠ gh) (h3:gm ≠ gs) (hb:Arr wr g 96 .u64 s) (hh:Arr wr gh 152 .i64 kShifts) (hc:Arr wr gs 149 .u64 c) (hm:Arr wr gm 96 .u64 (kMoved s c 0))
    (hexit:∀ (a':Act) (w':World),Arr w' gm 96 .u64 (kMoved s c 25) → Moved wr w' (fun i=> i=gm) → (∃ z10 z11 z12 z13 z42 z43 z44 z45 z46 z47 z48 z49 z50 z51 z52 z53 z54 z55 z56 z57 z58 z59 z60 z61 z62 z63 z64 z65 z66 z67 z68 z69 z70 z71 z72 z73 z74 z75 z76 z77 z78 z79 z80 z81:Value,a'=⟨List.toArray (Value.pointer (some ⟨g,0,none⟩)::u1::Value.pointer (some ⟨gh,0,none⟩)::u3::u4::u5::Value.pointer (some ⟨gs,0,none⟩)::Value.pointer (some ⟨gm,0,none⟩)::u8::u9::z10::z11::z12::z13::u14::u15::u16::u17::u18::u19::u20::u21::u22::u23::u24::u25::u26::u27::u28::u29::u30::u31::u32::u33::u34::u35::u36::u37::u38::u39::u40::Value.pointer (some ⟨g,0,none⟩)::z42::z43::z44::z45::z46::z47::z48::z49::z50::z51::z52::z53::z54::z55::z56::z57::z58::z59::z60::z61::z62::z63::z64::z65::z66::z67::z68::z69::z70::z71::z72::z73::z74::z75::z76::z77::z78::z79::z80::z81::u82::u83::u84::u85::u86::u87::u88::u89::u90::u91::u92::u93::u94::u95::u96::u97::u98::u99::u100::u101::u102::u103::u104::u105::u106::u107::u108::u109::u110::u111::u112::u113::u114::u115::u116::u117::u118::u119::u120::u121::u122::u123:: []), []⟩) → Q (.exit 4) a' w'):
    Code.wp Try.prog (nthLoop Try.f85.body 2) Q ⟨List.toArray (Value.pointer (some ⟨g,0,none⟩)::u1::Value.pointer (some ⟨gh,0,none⟩)::u3::u4::u5::Value.pointer (some ⟨gs,0,none⟩)::Value.pointer (some ⟨gm,0,none⟩)::u8::u9::u10::u11::u12::u13::u14::u15::u16::u17::u18::u19::u20::u21::u22::u23::u24::u25::u26::u27::u28::u29::u30::u31::u32::u33::u34::u35::u36::u37::u38::u39::u40::Value.pointer (some ⟨g,0,none⟩)::Value.int .i64 0::u43::u44::u45::u46::u47::u48::u49::u50::u51::u52::u53::u54::u55::u56::u57::u58::u59::u60::u61::u62::u63::u64::u65::u66::u67::u68::u69::u70::u71::u72::u73::u74::u75::u76::u77::u78::u79::u80::u81::u82::u83::u84::u85::u86::u87::u88::u89::u90::u91::u92::u93::u94::u95::u96::u97::u98::u99::u100::u101::u102::u103::u104::u105::u106::u107::u108::u109::u110::u111::u112::u113::u114::u115::u116::u117::u118::u119::u120::u121::u122::u123:: []), []⟩ wr:=by
  conv=> arg 2;whnf
  have HB:=Aside0.mk hb
  have HH:=Aside0.mk hh
  have HC:=Aside0.mk hc
  have HM:=Aside0.mk hm
  have HX:=Aside0.mk hexit
  clear hb hc hexit hh hm
  go_loopg [42] 25 (fun gg s42 w'=> ∃ k:Nat,k ≤ 25 ∧ 25 - k ≤ gg ∧ s42= .int .i64 k ∧ Aside0 (Arr w' gm 96 .u64 (kMoved s c k)) ∧ Aside0 (Moved wr w' (fun i=> i=gm)))
  case atStart=> exact ⟨0,by omega,by omega,rfl,HM,⟨Moved.refl _ _⟩⟩
  case round=>
    obtain ⟨k,hk,hg,rfl,HK,HO⟩:=hrel
    by_cases hlt:k < 25
    · have hltz:(k:Int) < 25:=by omega
      have h0z:(0:Int) ≤ (k:Int):=by omega
      have HG:=HB.out.moved HO.out (fun e=> h1 e.symm)
      have HG2:=HH.out.moved HO.out (fun e=> h2 e.symm)
      have HG3:=HC.out.moved HO.out (fun e=> h3 e.symm)
      have q0:=HG.cell k (by omega)
      have q1:=HG3.cell ((k + 4) % 5) (by omega)
      have q2:=HG3.cell ((k + 1) % 5) (by omega)
      have q3:=HG2.cell k (by show k < 25;omega)
      have q4:=HK.out.cell (k / 5 + 5 * ((2 * (k % 5) + 3 * (k / 5)) % 5)) (by rw [kMoved_length];omega)
      have f4:=HK.out.frozen (k / 5 + 5 * ((2 * (k % 5) + 3 * (k / 5)) % 5))
      have b3:0 ≤ kShifts.getD k 0 ∧ kShifts.getD k 0 < 64:=kShifts_bd k
      obtain ⟨sh,hsh⟩:∃ sh,sh=kShifts.getD k 0:=⟨_,rfl⟩
      rw [← hsh] at q3 b3
      have HS:=Aside0.mk hsh
      clear hsh
      clear hlt
      have a4:(0:Int) ≤ ((k:Int) + 4) % 5:=by omega
      have a5:((k:Int) + 4) % 5 < 5:=by omega
      have b5:(0:Int) ≤ ((k:Int) + 1) % 5:=by omega
      have b6:((k:Int) + 1) % 5 < 5:=by omega
      go_wp2
      go_quiet (fail)
      go_wp2
      go_quiet (first|(go_at_call 141;refine (rot.calls _ _ _ (by omega) (by omega)).mono ?_;rintro e w' ⟨rfl,⟨nd,rfl⟩⟩;first|exact ⟨rfl,_,World.drewN_drewN _ _ _⟩|exact ⟨rfl,_,Eq.trans (World.drewN_drewN _ _ _) (congrArg (World.drewN _) (Nat.add_assoc _ _ _))⟩))
      go_wp2_with (go_at_call 141;refine (rot.calls _ _ _ (by omega) (by omega)).mono ?_;rintro e w1 ⟨rfl,⟨nd,rfl⟩⟩)
      go_roundg (25 - (k + 1))
      case measure=> omega
      case rel=> exact ⟨k + 1,by omega,by omega,by go_num,⟨by rw [HS.out];exact (HK.out.drewN _).set (k / 5 + 5 * ((2 * (k % 5) + 3 * (k / 5)) % 5)) _⟩,⟨(HO.out.drewN _).set gm _ _ (.inl rfl)⟩⟩
    · have hk25:k=25:=by omega
      subst hk25
      go_wp2
      exact HX.out _ _ HK.out HO.out ⟨_,_,_,_,_,_,_,_,_,_,_,_,_,_,_,_,_,_,_,_,_,_,_,_,_,_,_,_,_,_,_,_,_,_,_,_,_,_,_,_,_,_,_,_,rfl⟩
set_option maxHeartbeats 8000000 in
set_option maxRecDepth 100000 in
theorem permI.chi (g gm:Nat) (s m:List Int) (V:Value) (wr:World) {u1 u2 u3 u4 u5 u6 u8 u9 u10 u11 u12 u13 u14 u15 u16 u17 u18 u19 u20 u21 u22 u23 u24 u25 u26 u27 u28 u29 u30 u31 u32 u33 u34 u35 u36 u37 u38 u39 u40 u41 u42 u43 u44 u45 u46 u47 u48 u49 u50 u51 u52 u53 u54 u55 u56 u57 u58 u59 u60 u61 u62 u63 u64 u65 u66 u67 u68 u69 u70 u71 u72 u73 u74 u75 u76 u77 u78 u79 u80 u81 u84 u85 u86 u87 u88 u89 u90 u91 u92 u93 u94 u95 u96 u97 u98 u99 u100 u101 u102 u103 u104 u105 u106 u107 u108 u109 u110 u111 u112 u113 u114 u115 u116 u117 u118 u119 u120 u121 u122 u123:Value} {Q:Exit → Act → World → Prop} (hs:s.length=25) (hml:m.length=25) (h1:gm ≠ g) (hV:∀ (j:Nat) (w:World),j < 25 → (Instr.index 96 V (.int .i64 (j:Int))).run Try.prog w= .ok (.int .u64 (m.getD j 0)) w) (hb:Arr wr g 96 .u64 (kChi m s 0)) (hm:Arr wr gm 96 .u64 m)
    (hexit:∀ (a':Act) (w':World),Arr w' g 96 .u64 (kChi m s 25) → Moved wr w' (fun i=> i=g) → (∃ z14 z15 z16 z17 z83 z84 z85 z86 z87 z88 z89 z90 z91 z92 z93 z94 z95 z96 z97 z98 z99 z100 z101 z102 z103 z104 z105 z106 z107 z108 z109 z110 z111 z112 z113 z114:Value,a'=⟨List.toArray (Value.pointer (some ⟨g,0,none⟩)::u1::u2::u3::u4::u5::u6::Value.pointer (some ⟨gm,0,none⟩)::u8::u9::u10::u11::u12::u13::z14::z15::z16::z17::u18::u19::u20::u21::u22::u23::u24::u25::u26::u27::u28::u29::u30::u31::u32::u33::u34::u35::u36::u37::u38::u39::u40::u41::u42::u43::u44::u45::u46::u47::u48::u49::u50::u51::u52::u53::u54::u55::u56::u57::u58::u59::u60::u61::u62::u63::u64::u65::u66::u67::u68::u69::u70::u71::u72::u73::u74::u75::u76::u77::u78::u79::u80::u81::V::z83::z84::z85::z86::z87::z88::z89::z90::z91::z92::z93::z94::z95::z96::z97::z98::z99::z100::z101::z102::z103::z104::z105::z106::z107::z108::z109::z110::z111::z112::z113::z114::u115::u116::u117::u118::u119::u120::u121::u122::u123:: []), []⟩) → Q (.exit 6) a' w'):
    Code.wp Try.prog (nthLoop Try.f85.body 3) Q ⟨List.toArray (Value.pointer (some ⟨g,0,none⟩)::u1::u2::u3::u4::u5::u6::Value.pointer (some ⟨gm,0,none⟩)::u8::u9::u10::u11::u12::u13::u14::u15::u16::u17::u18::u19::u20::u21::u22::u23::u24::u25::u26::u27::u28::u29::u30::u31::u32::u33::u34::u35::u36::u37::u38::u39::u40::u41::u42::u43::u44::u45::u46::u47::u48::u49::u50::u51::u52::u53::u54::u55::u56::u57::u58::u59::u60::u61::u62::u63::u64::u65::u66::u67::u68::u69::u70::u71::u72::u73::u74::u75::u76::u77::u78::u79::u80::u81::V::Value.int .i64 0::u84::u85::u86::u87::u88::u89::u90::u91::u92::u93::u94::u95::u96::u97::u98::u99::u100::u101::u102::u103::u104::u105::u106::u107::u108::u109::u110::u111::u112::u113::u114::u115::u116::u117::u118::u119::u120::u121::u122::u123:: []), []⟩ wr:=by
  conv=> arg 2;whnf
  have HB:=Aside0.mk hb
  have HM:=Aside0.mk hm
  have HV:=Aside0.mk hV
  have HX:=Aside0.mk hexit
  clear hb hexit hm hV
  go_loopg [83] 25 (fun gg s83 w'=> ∃ k:Nat,k ≤ 25 ∧ 25 - k ≤ gg ∧ s83= .int .i64 k ∧ Aside0 (Arr w' g 96 .u64 (kChi m s k)) ∧ Aside0 (Moved wr w' (fun i=> i=g)))
  case atStart=> exact ⟨0,by omega,by omega,rfl,HB,⟨Moved.refl _ _⟩⟩
  case round=>
    obtain ⟨k,hk,hg,rfl,HK,HO⟩:=hrel
    by_cases hlt:k < 25
    · have hltz:(k:Int) < 25:=by omega
      have h0z:(0:Int) ≤ (k:Int):=by omega
      have HG:=HM.out.moved HO.out (fun e=> h1 e)
      have q0:=HK.out.cell k (by rw [kChi_length];omega)
      have f0:=HK.out.frozen k
      have q1:=HG.cell (k - k % 5 + (k + 2) % 5) (by omega)
      have q2:=HG.cell (k - k % 5 + (k + 1) % 5) (by omega)
      have hv:=fun w=> HV.out k w hlt
      clear hlt
      go_wp2
      have a1:IntKind.i64.wrap ((k:Int) % 5 + 2)=(k:Int) % 5 + 2:=by rw [IntKind.wrap_i64];omega
      have a2:((k:Int) % 5 + 2).tmod 5=((k:Int) + 2) % 5:=by rw [Int.tmod_eq_emod_of_nonneg (by omega)];omega
      have a3:IntKind.i64.wrap (((k:Int) + 2) % 5)=((k:Int) + 2) % 5:=by rw [IntKind.wrap_i64];omega
      have a4:IntKind.i64.wrap ((k:Int) - (k:Int) % 5 + ((k:Int) + 2) % 5)=(k:Int) - (k:Int) % 5 + ((k:Int) + 2) % 5:=by rw [IntKind.wrap_i64];omega
      have a5:(0:Int) ≤ (k:Int) - (k:Int) % 5 + ((k:Int) + 2) % 5:=by omega
      have a6:(k:Int) - (k:Int) % 5 + ((k:Int) + 2) % 5 < 25:=by omega
      have a7:((k:Int) - (k:Int) % 5 + ((k:Int) + 2) % 5).toNat=k - k % 5 + (k + 2) % 5:=by omega
      have b1:IntKind.i64.wrap ((k:Int) % 5 + 1)=(k:Int) % 5 + 1:=by rw [IntKind.wrap_i64];omega
      have b2:((k:Int) % 5 + 1).tmod 5=((k:Int) + 1) % 5:=by rw [Int.tmod_eq_emod_of_nonneg (by omega)];omega
      have b3:IntKind.i64.wrap (((k:Int) + 1) % 5)=((k:Int) + 1) % 5:=by rw [IntKind.wrap_i64];omega
      have b4:IntKind.i64.wrap ((k:Int) - (k:Int) % 5 + ((k:Int) + 1) % 5)=(k:Int) - (k:Int) % 5 + ((k:Int) + 1) % 5:=by rw [IntKind.wrap_i64];omega
      have b5:(0:Int) ≤ (k:Int) - (k:Int) % 5 + ((k:Int) + 1) % 5:=by omega
      have b6:(k:Int) - (k:Int) % 5 + ((k:Int) + 1) % 5 < 25:=by omega
      have b7:((k:Int) - (k:Int) % 5 + ((k:Int) + 1) % 5).toNat=k - k % 5 + (k + 1) % 5:=by omega
      refine wp_region_still_tail 21 (by kernel_rfl) (by kernel_rfl) ?_
      show wpStill _ _ (World.drew _) (fun a'=> wpList _ _ _ _ a' (World.drew _)) _ _
      simp only [List.take_succ_cons,List.take_zero,List.drop_succ_cons,List.drop_zero]
      repeat still_step
      refine wpStill_nil ?_
      clear a1 a2 a3 a4 a5 a6 a7 b1 b2 b3 b4 b5 b6 b7
      go_wp2
      go_roundg (25 - (k + 1))
      case measure=> omega
      case rel=> exact ⟨k + 1,by omega,by omega,by go_num,⟨(HK.out.drew).set k _⟩,⟨(HO.out.drew).set g _ _ (.inl rfl)⟩⟩
    · have hk25:k=25:=by omega
      subst hk25
      go_wp2
      exact HX.out _ _ HK.out HO.out ⟨_,_,_,_,_,_,_,_,_,_,_,_,_,_,_,_,_,_,_,_,_,_,_,_,_,_,_,_,_,_,_,_,_,_,_,_,rfl⟩
end Go.Proofs.Ytlogocmojnhpbaa.Print
end
section
namespace Go.Proofs.Ytlogocmojnhpbaa.Print
open Go.RowKit Go.Proofs.YtlogocmojnhpbaaW.PrintWords
set_option linter.unusedVariables false
set_option linter.unusedSimpArgs false
def z5:Array Value:=(nums .u64 (List.replicate 5 0)).toArray
def z25:Array Value:=(nums .u64 (List.replicate 25 0)).toArray
theorem arr_new (w:World) (T:TypeId) (k:IntKind) (xs:List Int):Arr (w.alloc (.cells (nums k xs).toArray T)) w.heap.size T k xs:=blk_new w _
set_option maxHeartbeats 8000000 in
set_option maxRecDepth 100000 in
theorem permI.rounds (g gh:Nat) (s:List Int) (C:Value) (wr':World) {u1 u3 u4 u5 u6 u7 u8 u9 u10 u11 u12 u13 u14 u15 u16 u17 u18 u19 u22 u23 u24 u25 u26 u27 u28 u29 u30 u31 u32 u33 u34 u35 u36 u37 u38 u39 u40 u41 u42 u43 u44 u45 u46 u47 u48 u49 u50 u51 u52 u53 u54 u55 u56 u57 u58 u59 u60 u61 u62 u63 u64 u65 u66 u67 u68 u69 u70 u71 u72 u73 u74 u75 u76 u77 u78 u79 u80 u81 u82 u83 u84 u85 u86 u87 u88 u89 u90 u91 u92 u93 u94 u95 u96 u97 u98 u99 u100 u101 u102 u103 u104 u105 u106 u107 u108 u109 u110 u111 u112 u113 u114 u115 u116 u117 u118 u119 u120 u121 u122 u123:Value} {Q:Exit → Act → World → Prop} (hs:s.length=25) (h1:gh ≠ g) (hC:∀ (j:Nat) (w:World),j < 24 → (Instr.index 145 C (.int .i64 (j:Int))).run Try.prog w= .ok (.int .u64 (kConsts.getD j 0)) w) (hb:Arr wr' g 96 .u64 s) (hh:Arr wr' gh 152 .i64 kShifts)
    (hexit:∀ (a':Act) (w':World),Arr w' g 96 .u64 (kPerm s 24) → Moved wr' w' (fun i=> i=g) → (∃ z5 z6 z7 z8 z9 z10 z11 z12 z13 z14 z15 z16 z17 z21 z22 z23 z24 z25 z26 z27 z28 z29 z30 z31 z32 z33 z34 z35 z36 z37 z38 z39 z40 z41 z42 z43 z44 z45 z46 z47 z48 z49 z50 z51 z52 z53 z54 z55 z56 z57 z58 z59 z60 z61 z62 z63 z64 z65 z66 z67 z68 z69 z70 z71 z72 z73 z74 z75 z76 z77 z78 z79 z80 z81 z82 z83 z84 z85 z86 z87 z88 z89 z90 z91 z92 z93 z94 z95 z96 z97 z98 z99 z100 z101 z102 z103 z104 z105 z106 z107 z108 z109 z110 z111 z112 z113 z114 z115 z116 z117 z118 z119 z120 z121 z122 z123:Value,a'=⟨List.toArray (Value.pointer (some ⟨g,0,none⟩)::u1::Value.pointer (some ⟨gh,0,none⟩)::u3::u4::z5::z6::z7::z8::z9::z10::z11::z12::z13::z14::z15::z16::z17::u18::u19::C::z21::z22::z23::z24::z25::z26::z27::z28::z29::z30::z31::z32::z33::z34::z35::z36::z37::z38::z39::z40::z41::z42::z43::z44::z45::z46::z47::z48::z49::z50::z51::z52::z53::z54::z55::z56::z57::z58::z59::z60::z61::z62::z63::z64::z65::z66::z67::z68::z69::z70::z71::z72::z73::z74::z75::z76::z77::z78::z79::z80::z81::z82::z83::z84::z85::z86::z87::z88::z89::z90::z91::z92::z93::z94::z95::z96::z97::z98::z99::z100::z101::z102::z103::z104::z105::z106::z107::z108::z109::z110::z111::z112::z113::z114::z115::z116::z117::z118::z119::z120::z121::z122::z123:: []), []⟩) → Q (.exit 0) a' w'):
    Code.wp Try.prog (nthLoop Try.f85.body 0) Q ⟨List.toArray (Value.pointer (some ⟨g,0,none⟩)::u1::Value.pointer (some ⟨gh,0,none⟩)::u3::u4::u5::u6::u7::u8::u9::u10::u11::u12::u13::u14::u15::u16::u17::u18::u19::C::Value.int .i64 0::u22::u23::u24::u25::u26::u27::u28::u29::u30::u31::u32::u33::u34::u35::u36::u37::u38::u39::u40::u41::u42::u43::u44::u45::u46::u47::u48::u49::u50::u51::u52::u53::u54::u55::u56::u57::u58::u59::u60::u61::u62::u63::u64::u65::u66::u67::u68::u69::u70::u71::u72::u73::u74::u75::u76::u77::u78::u79::u80::u81::u82::u83::u84::u85::u86::u87::u88::u89::u90::u91::u92::u93::u94::u95::u96::u97::u98::u99::u100::u101::u102::u103::u104::u105::u106::u107::u108::u109::u110::u111::u112::u113::u114::u115::u116::u117::u118::u119::u120::u121::u122::u123:: []), []⟩ wr':=by
  conv=> arg 2;whnf
  have HB:=Aside0.mk hb
  have HH:=Aside0.mk hh
  have HC:=Aside0.mk hC
  have HX:=Aside0.mk hexit
  clear hb hexit hh hC
  go_loopg [21] 24 (fun gg s21 w'=> ∃ k:Nat,k ≤ 24 ∧ 24 - k ≤ gg ∧ s21= .int .i64 k ∧ Aside0 (Arr w' g 96 .u64 (kPerm s k)) ∧ Aside0 (Moved wr' w' (fun i=> i=g)))
  case atStart=> exact ⟨0,by omega,by omega,rfl,HB,⟨Moved.refl _ _⟩⟩
  case round=>
    obtain ⟨k,hk,hg,rfl,HK,HO⟩:=hrel
    by_cases hlt:k < 24
    · have hltz:(k:Int) < 24:=by omega
      have h0z:(0:Int) ≤ (k:Int):=by omega
      have HG:=HH.out.moved HO.out (fun e=> h1 e)
      have hc:=fun w=> HC.out k w hlt
      obtain ⟨c,hcc⟩:∃ c,c=kConsts.getD k 0:=⟨_,rfl⟩
      rw [← hcc] at hc
      have HCC:=Aside0.mk hcc
      clear hlt hcc
      go_upto_region 5 with fail
      apply wp_region_lit
      refine wpList_buildTo rfl 149 _ rfl (some 24) rfl z5 (by kernel_rfl) ?_
      refine wpList_buildTo rfl 96 _ rfl (some 25) rfl z25 (by kernel_rfl) ?_
      refine Go.Great.wpList_allocTo rfl (some 6) rfl (.pointer (some ⟨wr.heap.size,0,none⟩)) (.cells z5 149) (by kernel_rfl) ?_
      refine Go.Great.wpList_allocTo rfl (some 7) rfl (.pointer (some ⟨(wr.alloc (.cells z5 149)).heap.size,0,none⟩)) (.cells z25 96) (by kernel_rfl) ?_
      refine wpList_store_rowTo rfl 149 _ _ rfl rfl wr.heap.size z5 (by kernel_rfl) (by kernel_rfl) 149 z5 (blk_alloc (blk_new _ _) _) (by kernel_rfl) rfl (by kernel_rfl) ?_
      rw [setRow_self _ _ _ _ _ (blk_alloc (blk_new _ _) _)]
      refine wpList_store_rowTo rfl 96 _ _ rfl rfl (wr.alloc (.cells z5 149)).heap.size z25 (by kernel_rfl) (by kernel_rfl) 96 z25 (blk_new _ _) (by kernel_rfl) rfl (by kernel_rfl) ?_
      rw [setRow_self _ _ _ _ _ (blk_new _ _)]
      refine wpList_frame (a':=⟨List.toArray (Value.pointer (some ⟨g,0,none⟩)::u1::Value.pointer (some ⟨gh,0,none⟩)::u3::u4::Value.int .u64 c::Value.pointer (some ⟨wr.heap.size,0,none⟩)::Value.pointer (some ⟨(wr.alloc (Obj.cells z5 149)).heap.size,0,none⟩)::u8::u9::u10::u11::u12::u13::u14::u15::u16::u17::u18::u19::C::Value.int .i64 (k:Int)::Value.bool true::Value.int .u64 c::Value.agg z5::Value.agg z25::u26::u27::u28::u29::u30::u31::u32::u33::u34::u35::u36::u37::u38::u39::u40::u41::u42::u43::u44::u45::u46::u47::u48::u49::u50::u51::u52::u53::u54::u55::u56::u57::u58::u59::u60::u61::u62::u63::u64::u65::u66::u67::u68::u69::u70::u71::u72::u73::u74::u75::u76::u77::u78::u79::u80::u81::u82::u83::u84::u85::u86::u87::u88::u89::u90::u91::u92::u93::u94::u95::u96::u97::u98::u99::u100::u101::u102::u103::u104::u105::u106::u107::u108::u109::u110::u111::u112::u113::u114::u115::u116::u117::u118::u119::u120::u121::u122::u123:: []), []⟩) (by kernel_rfl) ?_
      apply wpList_nil
      have A1:Arr ((wr.alloc (.cells z5 149)).alloc (.cells z25 96)) wr.heap.size 149 .u64 (kSums (kPerm s k) 0):=blk_alloc (blk_new _ _) _
      have A2:Arr ((wr.alloc (.cells z5 149)).alloc (.cells z25 96)) (wr.alloc (.cells z5 149)).heap.size 96 .u64 (kMoved (kPerm s k) (kSums (kPerm s k) 25) 0):=blk_new _ _
      have AG:Arr ((wr.alloc (.cells z5 149)).alloc (.cells z25 96)) g 96 .u64 (kPerm s k):=(HK.out.alloc _).alloc _
      have AH:Arr ((wr.alloc (.cells z5 149)).alloc (.cells z25 96)) gh 152 .i64 kShifts:=(HG.alloc _).alloc _
      have MV:=(HO.out.alloc (.cells z5 149)).alloc (.cells z25 96)
      have g1:g < wr.heap.size:=HK.out.lt
      have g2:gh < wr.heap.size:=HG.lt
      have g3:(wr.alloc (.cells z5 149)).heap.size=wr.heap.size + 1:=by show (wr.heap.push _).size=_;simp
      have g4:wr'.heap.size ≤ wr.heap.size:=HO.out.1
      generalize (wr.alloc (.cells z5 149)).alloc (.cells z25 96)=W1 at A1 A2 AG AH MV ⊢
      generalize (wr.alloc (.cells z5 149)).heap.size=gm at A2 g3 ⊢
      generalize wr.heap.size=gs at A1 g1 g2 g3 g4 ⊢
      have hl:(kPerm s k).length=25:=by rw [kPerm_length];exact hs
      clear HK HG HO
      have A1:=Aside0.mk A1
      have A2:=Aside0.mk A2
      have AG:=Aside0.mk AG
      have AH:=Aside0.mk AH
      have MV:=Aside0.mk MV
      have n1:gs ≠ g:=by omega
      have n2:gm ≠ g:=by omega
      have n3:gm ≠ gh:=by omega
      have n4:gm ≠ gs:=by omega
      have n5:gs ≠ gh:=by omega
      have o1:wr'.heap.size ≤ gs:=g4
      have o2:wr'.heap.size ≤ gm:=by omega
      clear g1 g2 g3 g4
      go_wp2
      refine permI.sums g gs (kPerm s k) W1 hl n1 AG.out A1.out ?_
      intro a2 W2 S1 m1 hz
      obtain ⟨y8,y9,y27,y28,y29,y30,y31,y32,y33,y34,y35,y36,y37,y38,y39,y40,rfl⟩:=hz
      have AG:=Aside0.mk (AG.out.moved m1 (fun e=> n1 e.symm))
      have AH:=Aside0.mk (AH.out.moved m1 (fun e=> n5 e.symm))
      have A2:=Aside0.mk (A2.out.moved m1 (fun e=> n4 e))
      have MV:=Aside0.mk (MV.out.trans_new m1 (fun i e=> .inr (e ▸ o1)))
      have S1:=Aside0.mk S1
      clear m1 A1
      go_wp2
      refine permI.moved g gh gs gm (kPerm s k) (kSums (kPerm s k) 25) W2 hl (kSums_length _ _) n2 n3 n4 AG.out AH.out S1.out A2.out ?_
      intro a3 W3 S2 m2 hz
      obtain ⟨x10,x11,x12,x13,x42,x43,x44,x45,x46,x47,x48,x49,x50,x51,x52,x53,x54,x55,x56,x57,x58,x59,x60,x61,x62,x63,x64,x65,x66,x67,x68,x69,x70,x71,x72,x73,x74,x75,x76,x77,x78,x79,x80,x81,rfl⟩:=hz
      have AG:=Aside0.mk (AG.out.moved m2 (fun e=> n2 e.symm))
      have MV:=Aside0.mk (MV.out.trans_new m2 (fun i e=> .inr (e ▸ o2)))
      have S2:=Aside0.mk S2
      clear m2 A2 AH S1
      go_upto_region 18 with fail
      apply wp_region_lit
      refine wpList_load_row rfl 96 _ rfl gm rfl 96 _ (0,0) _ S2.out Try.underlying96 rfl (by kernel_rfl) ?_
      have hml:(kMoved (kPerm s k) (kSums (kPerm s k) 25) 25).length=25:=kMoved_length _ _ _
      have hV:=fun (j:Nat) (w:World) (hj:j < 25)=> idx_arr Try.underlying96 size92 agg92 .u64 (kMoved (kPerm s k) (kSums (kPerm s k) 25) 25) hml j w hj
      generalize Value.agg (nums .u64 (kMoved (kPerm s k) (kSums (kPerm s k) 25) 25)).toArray=V at hV ⊢
      refine wpList_frame (a':=⟨List.toArray (Value.pointer (some ⟨g,0,none⟩)::u1::Value.pointer (some ⟨gh,0,none⟩)::u3::u4::Value.int .u64 c::Value.pointer (some ⟨gs,0,none⟩)::Value.pointer (some ⟨gm,0,none⟩)::y8::y9::x10::x11::x12::x13::u14::u15::u16::u17::u18::u19::C::Value.int .i64 (k:Int)::Value.bool true::Value.int .u64 c::Value.agg z5::Value.agg z25::Value.pointer (some ⟨g,0,none⟩)::y27::y28::y29::y30::y31::y32::y33::y34::y35::y36::y37::y38::y39::y40::Value.pointer (some ⟨g,0,none⟩)::x42::x43::x44::x45::x46::x47::x48::x49::x50::x51::x52::x53::x54::x55::x56::x57::x58::x59::x60::x61::x62::x63::x64::x65::x66::x67::x68::x69::x70::x71::x72::x73::x74::x75::x76::x77::x78::x79::x80::x81::V::u83::u84::u85::u86::u87::u88::u89::u90::u91::u92::u93::u94::u95::u96::u97::u98::u99::u100::u101::u102::u103::u104::u105::u106::u107::u108::u109::u110::u111::u112::u113::u114::u115::u116::u117::u118::u119::u120::u121::u122::u123:: []), []⟩) (by kernel_rfl) ?_
      go_wp2
      refine permI.chi g gm (kPerm s k) _ V W3 hl hml n2 hV AG.out S2.out ?_
      intro a4 W4 S3 m3 hz
      obtain ⟨v14,v15,v16,v17,v83,v84,v85,v86,v87,v88,v89,v90,v91,v92,v93,v94,v95,v96,v97,v98,v99,v100,v101,v102,v103,v104,v105,v106,v107,v108,v109,v110,v111,v112,v113,v114,rfl⟩:=hz
      have MV:=Aside0.mk (MV.out.trans_new m3 (fun i e=> .inl e))
      have hl4:(kMix (kPerm s k)).length=25:=by unfold kMix;rw [kChi_length];exact hl
      have S3':Arr W4 g 96 .u64 (kMix (kPerm s k)):=S3
      have q0:=S3'.cell 0 (by omega)
      have f0:=S3'.frozen 0
      obtain ⟨v0,hv0⟩:∃ v,v=(kMix (kPerm s k)).getD 0 0:=⟨_,rfl⟩
      rw [← hv0] at q0
      have HV0:=Aside0.mk hv0
      clear hv0 hl4
      have S3:=Aside0.mk S3'
      clear m3 AG S3' S2 hV
      go_wp2
      refine wp_region_still_tail 8 (by kernel_rfl) (by kernel_rfl) ?_
      show wpStill _ _ (World.drew _) (fun a'=> wpList _ _ _ _ a' (World.drew _)) _ _
      simp only [List.take_succ_cons,List.take_zero,List.drop_succ_cons,List.drop_zero]
      repeat still_step
      refine wpStill_nil ?_
      go_wp2
      go_roundg (24 - (k + 1))
      case measure=> omega
      case rel=> exact ⟨k + 1,by omega,by omega,by go_num,⟨by rw [HV0.out,HCC.out];exact (S3.out.set 0 _).drew⟩,⟨(MV.out.set g _ _ (.inl rfl)).drew⟩⟩
    · have hk25:k=24:=by omega
      subst hk25
      go_wp2
      exact HX.out _ _ HK.out HO.out ⟨_,_,_,_,_,_,_,_,_,_,_,_,_,_,_,_,_,_,_,_,_,_,_,_,_,_,_,_,_,_,_,_,_,_,_,_,_,_,_,_,_,_,_,_,_,_,_,_,_,_,_,_,_,_,_,_,_,_,_,_,_,_,_,_,_,_,_,_,_,_,_,_,_,_,_,_,_,_,_,_,_,_,_,_,_,_,_,_,_,_,_,_,_,_,_,_,_,_,_,_,_,_,_,_,_,_,_,_,_,_,_,_,_,_,_,_,rfl⟩
end Go.Proofs.Ytlogocmojnhpbaa.Print
end
section
namespace Go.Proofs.Ytlogocmojnhpbaa.Print
open Go.RowKit Go.Proofs.YtlogocmojnhpbaaW.PrintWords
set_option linter.unusedVariables false
set_option linter.unusedSimpArgs false
def zShifts:Array Value:=(nums .i64 kShifts).toArray
def zConsts:Array Value:=(nums .u64 kConsts).toArray
def n25:Array Value:=(nums .i64 (List.replicate 25 0)).toArray
def n24:Array Value:=(nums .u64 (List.replicate 24 0)).toArray
theorem size3 (w:World):(sizeOf 3).run Try.prog w= .ok 1 w:=by
  simp [sizeOf,go_sem]
  rfl
theorem setRow_new (w:World) (c c':Array Value) (t:TypeId):(w.alloc (.cells c t)).setRow w.heap.size c'=w.alloc (.cells c' t):=World.setRow_alloc_new w c c' t
set_option maxHeartbeats 8000000 in
set_option maxRecDepth 100000 in
theorem permI.calls (g:Nat) (s:List Int) (w:World) (hs:s.length=25) (hb:Arr w g 96 .u64 s):
    Calls Try.prog 85 #[.pointer (some ⟨g,0,none⟩)] w fun e w'=> e= .returned (.tuple #[]) ∧ Arr w' g 96 .u64 (kPerm s 24) ∧ Moved w w' (fun i=> i=g):=by
  have HB:=Aside0.mk hb
  have hlt:=hb.lt
  clear hb
  go_enter Try.func85,Try.ntmps85
  go_upto_region 0 with fail
  apply wp_region_lit
  refine wpList_buildTo rfl 152 _ rfl (some 18) rfl zShifts (by kernel_rfl) ?_
  refine Go.Great.wpList_allocTo rfl (some 2) rfl (.pointer (some ⟨w.heap.size,0,none⟩)) (.cells n25 152) (by kernel_rfl) ?_
  refine wpList_store_rowTo rfl 152 _ _ rfl rfl w.heap.size zShifts (by kernel_rfl) (by kernel_rfl) 152 n25 (blk_new _ _) (by kernel_rfl) rfl (by kernel_rfl) ?_
  rw [setRow_new]
  refine wpList_frame (a':=⟨List.toArray (Value.pointer (some ⟨g,0,none⟩)::undef::Value.pointer (some ⟨w.heap.size,0,none⟩)::undef::undef::undef::undef::undef::undef::undef::undef::undef::undef::undef::undef::undef::undef::undef::Value.agg zShifts::undef::undef::undef::undef::undef::undef::undef::undef::undef::undef::undef::undef::undef::undef::undef::undef::undef::undef::undef::undef::undef::undef::undef::undef::undef::undef::undef::undef::undef::undef::undef::undef::undef::undef::undef::undef::undef::undef::undef::undef::undef::undef::undef::undef::undef::undef::undef::undef::undef::undef::undef::undef::undef::undef::undef::undef::undef::undef::undef::undef::undef::undef::undef::undef::undef::undef::undef::undef::undef::undef::undef::undef::undef::undef::undef::undef::undef::undef::undef::undef::undef::undef::undef::undef::undef::undef::undef::undef::undef::undef::undef::undef::undef::undef::undef::undef::undef::undef::undef::undef::undef::undef::undef::undef::undef:: []), []⟩) (by kernel_rfl) ?_
  apply wpList_nil
  go_upto_region 1 with fail
  apply wp_region_lit
  refine wpList_buildTo rfl 145 _ rfl (some 19) rfl zConsts (by kernel_rfl) ?_
  refine Go.Great.wpList_allocTo rfl (some 3) rfl (.pointer (some ⟨(w.alloc (.cells zShifts 152)).heap.size,0,none⟩)) (.cells n24 145) (by kernel_rfl) ?_
  refine wpList_store_rowTo rfl 145 _ _ rfl rfl (w.alloc (.cells zShifts 152)).heap.size zConsts (by kernel_rfl) (by kernel_rfl) 145 n24 (blk_new _ _) (by kernel_rfl) rfl (by kernel_rfl) ?_
  rw [setRow_new]
  refine wpList_frame (a':=⟨List.toArray (Value.pointer (some ⟨g,0,none⟩)::undef::Value.pointer (some ⟨w.heap.size,0,none⟩)::Value.pointer (some ⟨(w.alloc (.cells zShifts 152)).heap.size,0,none⟩)::undef::undef::undef::undef::undef::undef::undef::undef::undef::undef::undef::undef::undef::undef::Value.agg zShifts::Value.agg zConsts::undef::undef::undef::undef::undef::undef::undef::undef::undef::undef::undef::undef::undef::undef::undef::undef::undef::undef::undef::undef::undef::undef::undef::undef::undef::undef::undef::undef::undef::undef::undef::undef::undef::undef::undef::undef::undef::undef::undef::undef::undef::undef::undef::undef::undef::undef::undef::undef::undef::undef::undef::undef::undef::undef::undef::undef::undef::undef::undef::undef::undef::undef::undef::undef::undef::undef::undef::undef::undef::undef::undef::undef::undef::undef::undef::undef::undef::undef::undef::undef::undef::undef::undef::undef::undef::undef::undef::undef::undef::undef::undef::undef::undef::undef::undef::undef::undef::undef::undef::undef::undef::undef::undef::undef:: []), []⟩) (by kernel_rfl) ?_
  apply wpList_nil
  have A1:Arr ((w.alloc (.cells zShifts 152)).alloc (.cells zConsts 145)) w.heap.size 152 .i64 kShifts:=blk_alloc (blk_new _ _) _
  have A2:Arr ((w.alloc (.cells zShifts 152)).alloc (.cells zConsts 145)) (w.alloc (.cells zShifts 152)).heap.size 145 .u64 kConsts:=blk_new _ _
  have AG:Arr ((w.alloc (.cells zShifts 152)).alloc (.cells zConsts 145)) g 96 .u64 s:=(HB.out.alloc _).alloc _
  have MV:Moved w ((w.alloc (.cells zShifts 152)).alloc (.cells zConsts 145)) (fun i=> i=g):=((Moved.refl _ _).alloc _).alloc _
  generalize (w.alloc (.cells zShifts 152)).alloc (.cells zConsts 145)=W1 at A1 A2 AG MV ⊢
  generalize (w.alloc (.cells zShifts 152)).heap.size=gc at A2 ⊢
  have hne:w.heap.size ≠ g:=by omega
  generalize w.heap.size=gh at A1 hne ⊢
  clear hlt HB
  go_upto_region 2 with fail
  apply wp_region_lit
  refine wpList_load_row rfl 145 _ rfl gc rfl 145 _ (0,0) _ A2 Try.underlying145 rfl (by kernel_rfl) ?_
  have hC:=fun (j:Nat) (w:World) (hj:j < 24)=> idx_arr Try.underlying145 size92 agg92 .u64 kConsts rfl j w hj
  generalize Value.agg (nums .u64 kConsts).toArray=C at hC ⊢
  refine wpList_frame (a':=⟨List.toArray (Value.pointer (some ⟨g,0,none⟩)::undef::Value.pointer (some ⟨gh,0,none⟩)::Value.pointer (some ⟨gc,0,none⟩)::undef::undef::undef::undef::undef::undef::undef::undef::undef::undef::undef::undef::undef::undef::Value.agg zShifts::Value.agg zConsts::C::undef::undef::undef::undef::undef::undef::undef::undef::undef::undef::undef::undef::undef::undef::undef::undef::undef::undef::undef::undef::undef::undef::undef::undef::undef::undef::undef::undef::undef::undef::undef::undef::undef::undef::undef::undef::undef::undef::undef::undef::undef::undef::undef::undef::undef::undef::undef::undef::undef::undef::undef::undef::undef::undef::undef::undef::undef::undef::undef::undef::undef::undef::undef::undef::undef::undef::undef::undef::undef::undef::undef::undef::undef::undef::undef::undef::undef::undef::undef::undef::undef::undef::undef::undef::undef::undef::undef::undef::undef::undef::undef::undef::undef::undef::undef::undef::undef::undef::undef::undef::undef::undef::undef:: []), []⟩) (by kernel_rfl) ?_
  have MV:=Aside0.mk MV
  have hC:=Aside0.mk hC
  have AG:=Aside0.mk AG
  have A1:=Aside0.mk A1
  clear A2
  go_wp2
  refine permI.rounds g gh s C W1 hs hne hC.out AG.out A1.out ?_
  intro a2 W2 S1 m1 hz
  obtain ⟨v5,hz⟩:=hz
  obtain ⟨v6,hz⟩:=hz
  obtain ⟨v7,hz⟩:=hz
  obtain ⟨v8,hz⟩:=hz
  obtain ⟨v9,hz⟩:=hz
  obtain ⟨v10,hz⟩:=hz
  obtain ⟨v11,hz⟩:=hz
  obtain ⟨v12,hz⟩:=hz
  obtain ⟨v13,hz⟩:=hz
  obtain ⟨v14,hz⟩:=hz
  obtain ⟨v15,hz⟩:=hz
  obtain ⟨v16,hz⟩:=hz
  obtain ⟨v17,hz⟩:=hz
  obtain ⟨v21,hz⟩:=hz
  obtain ⟨v22,hz⟩:=hz
  obtain ⟨v23,hz⟩:=hz
  obtain ⟨v24,hz⟩:=hz
  obtain ⟨v25,hz⟩:=hz
  obtain ⟨v26,hz⟩:=hz
  obtain ⟨v27,hz⟩:=hz
  obtain ⟨v28,hz⟩:=hz
  obtain ⟨v29,hz⟩:=hz
  obtain ⟨v30,hz⟩:=hz
  obtain ⟨v31,hz⟩:=hz
  obtain ⟨v32,hz⟩:=hz
  obtain ⟨v33,hz⟩:=hz
  obtain ⟨v34,hz⟩:=hz
  obtain ⟨v35,hz⟩:=hz
  obtain ⟨v36,hz⟩:=hz
  obtain ⟨v37,hz⟩:=hz
  obtain ⟨v38,hz⟩:=hz
  obtain ⟨v39,hz⟩:=hz
  obtain ⟨v40,hz⟩:=hz
  obtain ⟨v41,hz⟩:=hz
  obtain ⟨v42,hz⟩:=hz
  obtain ⟨v43,hz⟩:=hz
  obtain ⟨v44,hz⟩:=hz
  obtain ⟨v45,hz⟩:=hz
  obtain ⟨v46,hz⟩:=hz
  obtain ⟨v47,hz⟩:=hz
  obtain ⟨v48,hz⟩:=hz
  obtain ⟨v49,hz⟩:=hz
  obtain ⟨v50,hz⟩:=hz
  obtain ⟨v51,hz⟩:=hz
  obtain ⟨v52,hz⟩:=hz
  obtain ⟨v53,hz⟩:=hz
  obtain ⟨v54,hz⟩:=hz
  obtain ⟨v55,hz⟩:=hz
  obtain ⟨v56,hz⟩:=hz
  obtain ⟨v57,hz⟩:=hz
  obtain ⟨v58,hz⟩:=hz
  obtain ⟨v59,hz⟩:=hz
  obtain ⟨v60,hz⟩:=hz
  obtain ⟨v61,hz⟩:=hz
  obtain ⟨v62,hz⟩:=hz
  obtain ⟨v63,hz⟩:=hz
  obtain ⟨v64,hz⟩:=hz
  obtain ⟨v65,hz⟩:=hz
  obtain ⟨v66,hz⟩:=hz
  obtain ⟨v67,hz⟩:=hz
  obtain ⟨v68,hz⟩:=hz
  obtain ⟨v69,hz⟩:=hz
  obtain ⟨v70,hz⟩:=hz
  obtain ⟨v71,hz⟩:=hz
  obtain ⟨v72,hz⟩:=hz
  obtain ⟨v73,hz⟩:=hz
  obtain ⟨v74,hz⟩:=hz
  obtain ⟨v75,hz⟩:=hz
  obtain ⟨v76,hz⟩:=hz
  obtain ⟨v77,hz⟩:=hz
  obtain ⟨v78,hz⟩:=hz
  obtain ⟨v79,hz⟩:=hz
  obtain ⟨v80,hz⟩:=hz
  obtain ⟨v81,hz⟩:=hz
  obtain ⟨v82,hz⟩:=hz
  obtain ⟨v83,hz⟩:=hz
  obtain ⟨v84,hz⟩:=hz
  obtain ⟨v85,hz⟩:=hz
  obtain ⟨v86,hz⟩:=hz
  obtain ⟨v87,hz⟩:=hz
  obtain ⟨v88,hz⟩:=hz
  obtain ⟨v89,hz⟩:=hz
  obtain ⟨v90,hz⟩:=hz
  obtain ⟨v91,hz⟩:=hz
  obtain ⟨v92,hz⟩:=hz
  obtain ⟨v93,hz⟩:=hz
  obtain ⟨v94,hz⟩:=hz
  obtain ⟨v95,hz⟩:=hz
  obtain ⟨v96,hz⟩:=hz
  obtain ⟨v97,hz⟩:=hz
  obtain ⟨v98,hz⟩:=hz
  obtain ⟨v99,hz⟩:=hz
  obtain ⟨v100,hz⟩:=hz
  obtain ⟨v101,hz⟩:=hz
  obtain ⟨v102,hz⟩:=hz
  obtain ⟨v103,hz⟩:=hz
  obtain ⟨v104,hz⟩:=hz
  obtain ⟨v105,hz⟩:=hz
  obtain ⟨v106,hz⟩:=hz
  obtain ⟨v107,hz⟩:=hz
  obtain ⟨v108,hz⟩:=hz
  obtain ⟨v109,hz⟩:=hz
  obtain ⟨v110,hz⟩:=hz
  obtain ⟨v111,hz⟩:=hz
  obtain ⟨v112,hz⟩:=hz
  obtain ⟨v113,hz⟩:=hz
  obtain ⟨v114,hz⟩:=hz
  obtain ⟨v115,hz⟩:=hz
  obtain ⟨v116,hz⟩:=hz
  obtain ⟨v117,hz⟩:=hz
  obtain ⟨v118,hz⟩:=hz
  obtain ⟨v119,hz⟩:=hz
  obtain ⟨v120,hz⟩:=hz
  obtain ⟨v121,hz⟩:=hz
  obtain ⟨v122,hz⟩:=hz
  obtain ⟨v123,hz⟩:=hz
  subst hz
  have S1:=Aside0.mk S1
  have MV:=Aside0.mk (MV.out.trans m1)
  clear m1
  go_wp2
  first|go_end0|refine bodyPost_ret (results_none rfl _ _ _) rfl ?_
  exact ⟨rfl,S1.out,MV.out⟩
end Go.Proofs.Ytlogocmojnhpbaa.Print
end
section
namespace Go.Proofs.Ytlogocmojnhpbaa.Print
open Go.RowKit Go.Proofs.YtlogocmojnhpbaaW.PrintWords
set_option linter.unusedVariables false
set_option linter.unusedSimpArgs false
theorem turn.still (x n:Int) (w:World) (h0:0 ≤ n) (h1:n < 64):
    Calls Try.prog 140 #[.int .u64 x,.int .u64 n] w fun e w'=> e= .returned (.int .u64 (turnL x n)) ∧ w'=w:=by
  unfold turnL
  by_cases hn:n=0
  · rw [if_pos hn]
    subst hn
    go_enter Try.func140,Try.ntmps140
    go_wp2
    go_ret
    exact ⟨rfl,rfl⟩
  · rw [if_neg hn]
    have d0:(n==0)=false:=beq_eq_false_iff_ne.2 hn
    have d1:decide (n=0)=false:=decide_eq_false hn
    have e2:IntKind.u64.wrap (64 - n)=64 - n:=by simp only [IntKind.wrap,IntKind.bits,IntKind.signed];simp;omega
    have c0:decide (0 ≤ n)=true:=decide_eq_true h0
    have c1:decide (0 ≤ 64 - n)=true:=decide_eq_true (by omega)
    clear hn
    go_enter Try.func140,Try.ntmps140
    go_wp2
    go_ret
    exact ⟨rfl,rfl⟩
def andU (a b:Int):Int:=Go.bits .and .u64 a b
def flipU (a:Int):Int:=Go.bits .xor .u64 IntKind.u64.max a
def sSums (a:List Int):Nat → List Int
  |0=> List.replicate 5 0
  |k + 1=> (sSums a k).set k (xorU (xorU (xorU (xorU (a.getD k 0) (a.getD (k + 5) 0)) (a.getD (k + 10) 0)) (a.getD (k + 15) 0)) (a.getD (k + 20) 0))
theorem sSums_length (a:List Int) (k:Nat):(sSums a k).length=5:=by
  induction k with
  |zero=> rfl
  |succ k ih=> simp [sSums,ih]
def sTheta (c a:List Int):Nat → List Int
  |0=> a
  |k + 1=> (sTheta c a k).set k (xorU ((sTheta c a k).getD k 0) (xorU (c.getD ((k + 4) % 5) 0) (turnL (c.getD ((k + 1) % 5) 0) 1)))
theorem sTheta_length (c a:List Int) (k:Nat):(sTheta c a k).length=a.length:=by
  induction k with
  |zero=> rfl
  |succ k ih=> simp [sTheta,ih]
def sMoveIn (a b:List Int) (x:Nat):Nat → List Int
  |0=> b
  |y + 1=> (sMoveIn a b x y).set (y + 5 * ((2 * x + 3 * y) % 5)) (turnL (a.getD (x + 5 * y) 0) (kShifts.getD (x + 5 * y) 0))
theorem sMoveIn_length (a b:List Int) (x k:Nat):(sMoveIn a b x k).length=b.length:=by
  induction k with
  |zero=> rfl
  |succ k ih=> simp [sMoveIn,ih]
def sMoved (a:List Int):Nat → List Int
  |0=> List.replicate 25 0
  |x + 1=> sMoveIn a (sMoved a x) x 5
theorem sMoved_length (a:List Int) (k:Nat):(sMoved a k).length=25:=by
  induction k with
  |zero=> rfl
  |succ k ih=> simp [sMoved,sMoveIn_length,ih]
def sChiIn (b a:List Int) (x:Nat):Nat → List Int
  |0=> a
  |y + 1=> (sChiIn b a x y).set (x + 5 * y) (xorU (b.getD (x + 5 * y) 0) (andU (flipU (b.getD ((x + 1) % 5 + 5 * y) 0)) (b.getD ((x + 2) % 5 + 5 * y) 0)))
theorem sChiIn_length (b a:List Int) (x k:Nat):(sChiIn b a x k).length=a.length:=by
  induction k with
  |zero=> rfl
  |succ k ih=> simp [sChiIn,ih]
def sChi (b a:List Int):Nat → List Int
  |0=> a
  |x + 1=> sChiIn b (sChi b a x) x 5
theorem sChi_length (b a:List Int) (k:Nat):(sChi b a k).length=a.length:=by
  induction k with
  |zero=> rfl
  |succ k ih=> simp [sChi,sChiIn_length,ih]
def sMix (a:List Int):List Int:=sChi (sMoved (sTheta (sSums a 5) a 25) 5) (sTheta (sSums a 5) a 25) 5
def sRound (a:List Int) (c:Int):List Int:=(sMix a).set 0 (xorU ((sMix a).getD 0 0) c)
def sPerm (a:List Int):Nat → List Int
  |0=> a
  |r + 1=> sRound (sPerm a r) (kConsts.getD r 0)
theorem sMix_length (a:List Int):(sMix a).length=a.length:=by simp [sMix,sChi_length,sTheta_length]
theorem sPerm_length (a:List Int) (r:Nat):(sPerm a r).length=a.length:=by
  induction r with
  |zero=> rfl
  |succ r ih=> simp [sPerm,sRound,sMix_length,ih]
end Go.Proofs.Ytlogocmojnhpbaa.Print
end
section
namespace Go.Proofs.Ytlogocmojnhpbaa.Print
open Go.RowKit Go.Proofs.YtlogocmojnhpbaaW.PrintWords
set_option linter.unusedVariables false
set_option linter.unusedSimpArgs false
set_option maxHeartbeats 8000000 in
set_option maxRecDepth 100000 in
theorem permS.sums (g gs:Nat) (a:List Int) (wr:World) {u0 u2 u3 u4 u5 u8 u9 u10 u11 u12 u13 u14 u15 u16 u17 u18 u19 u20 u21 u22 u23 u24 u25 u26 u27 u28 u29 u30 u31 u32 u33 u34 u35 u36 u37 u38 u39 u40 u41 u42 u43 u44 u45 u46 u47 u48 u49 u50 u51 u52 u53 u54 u55 u56 u57 u58 u59 u60 u61 u62 u63 u64 u65 u66 u67 u68 u69 u70 u71 u72 u73 u74 u75 u76 u77 u78 u79 u80 u81 u82 u83 u84 u85 u86 u87 u88 u89 u90 u91 u92 u93 u94 u95 u96 u97 u98 u99 u100 u101 u102 u103 u104 u105 u106 u107 u108 u109 u110 u111 u112 u113 u114 u115 u116 u117 u118 u119 u120 u121 u122 u123 u124 u125 u126 u127 u128 u129 u130 u131 u132 u133 u134 u135 u136 u137 u138 u139 u140 u141 u142 u143 u144 u145 u146 u147 u148:Value} {Q:Exit → Act → World → Prop} (ha:a.length=25) (hne:gs ≠ g) (hb:Arr wr g 93 .u64 a) (hc:Arr wr gs 149 .u64 (sSums a 0))
    (hexit:∀ (a':Act) (w':World),Arr w' gs 149 .u64 (sSums a 5) → Moved wr w' (fun i=> i=gs) → (∃ z7 z21 z22 z23 z24 z25 z26 z27 z28 z29 z30 z31 z32 z33 z34 z35 z36 z37 z38 z39 z40 z41 z42 z43 z44 z45 z46 z47 z48 z49:Value,a'=⟨List.toArray (u0::Value.pointer (some ⟨g,0,none⟩)::u2::u3::u4::u5::Value.pointer (some ⟨gs,0,none⟩)::z7::u8::u9::u10::u11::u12::u13::u14::u15::u16::u17::u18::u19::u20::z21::z22::z23::z24::z25::z26::z27::z28::z29::z30::z31::z32::z33::z34::z35::z36::z37::z38::z39::z40::z41::z42::z43::z44::z45::z46::z47::z48::z49::u50::u51::u52::u53::u54::u55::u56::u57::u58::u59::u60::u61::u62::u63::u64::u65::u66::u67::u68::u69::u70::u71::u72::u73::u74::u75::u76::u77::u78::u79::u80::u81::u82::u83::u84::u85::u86::u87::u88::u89::u90::u91::u92::u93::u94::u95::u96::u97::u98::u99::u100::u101::u102::u103::u104::u105::u106::u107::u108::u109::u110::u111::u112::u113::u114::u115::u116::u117::u118::u119::u120::u121::u122::u123::u124::u125::u126::u127::u128::u129::u130::u131::u132::u133::u134::u135::u136::u137::u138::u139::u140::u141::u142::u143::u144::u145::u146::u147::u148:: []), []⟩) → Q (.exit 2) a' w'):
    Code.wp Try.prog (nthLoop Try.f81.body 1) Q ⟨List.toArray (u0::Value.pointer (some ⟨g,0,none⟩)::u2::u3::u4::u5::Value.pointer (some ⟨gs,0,none⟩)::Value.int .i64 0::u8::u9::u10::u11::u12::u13::u14::u15::u16::u17::u18::u19::u20::u21::u22::u23::u24::u25::u26::u27::u28::u29::u30::u31::u32::u33::u34::u35::u36::u37::u38::u39::u40::u41::u42::u43::u44::u45::u46::u47::u48::u49::u50::u51::u52::u53::u54::u55::u56::u57::u58::u59::u60::u61::u62::u63::u64::u65::u66::u67::u68::u69::u70::u71::u72::u73::u74::u75::u76::u77::u78::u79::u80::u81::u82::u83::u84::u85::u86::u87::u88::u89::u90::u91::u92::u93::u94::u95::u96::u97::u98::u99::u100::u101::u102::u103::u104::u105::u106::u107::u108::u109::u110::u111::u112::u113::u114::u115::u116::u117::u118::u119::u120::u121::u122::u123::u124::u125::u126::u127::u128::u129::u130::u131::u132::u133::u134::u135::u136::u137::u138::u139::u140::u141::u142::u143::u144::u145::u146::u147::u148:: []), []⟩ wr:=by
  conv=> arg 2;whnf
  have HB:=Aside0.mk hb
  have HC:=Aside0.mk hc
  have HX:=Aside0.mk hexit
  clear hb hc hexit
  go_loopg [7] 5 (fun gg s7 w'=> ∃ k:Nat,k ≤ 5 ∧ 5 - k ≤ gg ∧ s7= .int .i64 k ∧ Aside0 (Arr w' gs 149 .u64 (sSums a k)) ∧ Aside0 (Moved wr w' (fun i=> i=gs)))
  case atStart=> exact ⟨0,by omega,by omega,rfl,HC,⟨Moved.refl _ _⟩⟩
  case round=>
    obtain ⟨k,hk,hg,rfl,HK,HO⟩:=hrel
    by_cases hlt:k < 5
    · have hltz:(k:Int) < 5:=by omega
      have h0z:(0:Int) ≤ (k:Int):=by omega
      have HG:=HB.out.moved HO.out (fun e=> hne e.symm)
      have q0:=HG.cell k (by omega)
      have q1:=HG.cell (k + 5) (by omega)
      have q2:=HG.cell (k + 10) (by omega)
      have q3:=HG.cell (k + 15) (by omega)
      have q4:=HG.cell (k + 20) (by omega)
      have q5:=HK.out.cell k (by rw [sSums_length];omega)
      have f5:=HK.out.frozen k
      clear hlt
      go_wp2
      have l0:(k:Int) < 25:=by omega
      have m5:IntKind.i64.wrap ((k:Int) + 5)=(k:Int) + 5:=by rw [IntKind.wrap_i64];omega
      have l5:(k:Int) + 5 < 25:=by omega
      have z5:(0:Int) ≤ (k:Int) + 5:=by omega
      have t5:((k:Int) + 5).toNat=k + 5:=by omega
      have m10:IntKind.i64.wrap ((k:Int) + 10)=(k:Int) + 10:=by rw [IntKind.wrap_i64];omega
      have l10:(k:Int) + 10 < 25:=by omega
      have z10:(0:Int) ≤ (k:Int) + 10:=by omega
      have t10:((k:Int) + 10).toNat=k + 10:=by omega
      have m15:IntKind.i64.wrap ((k:Int) + 15)=(k:Int) + 15:=by rw [IntKind.wrap_i64];omega
      have l15:(k:Int) + 15 < 25:=by omega
      have z15:(0:Int) ≤ (k:Int) + 15:=by omega
      have t15:((k:Int) + 15).toNat=k + 15:=by omega
      have m20:IntKind.i64.wrap ((k:Int) + 20)=(k:Int) + 20:=by rw [IntKind.wrap_i64];omega
      have l20:(k:Int) + 20 < 25:=by omega
      have z20:(0:Int) ≤ (k:Int) + 20:=by omega
      have t20:((k:Int) + 20).toNat=k + 20:=by omega
      refine wp_region_still_tail 25 (by kernel_rfl) (by kernel_rfl) ?_
      show wpStill _ _ (World.drew _) (fun a'=> wpList _ _ _ _ a' (World.drew _)) _ _
      simp only [List.take_succ_cons,List.take_zero,List.drop_succ_cons,List.drop_zero]
      repeat still_step
      refine wpStill_nil ?_
      clear l0 m5 l5 z5 t5 m10 l10 z10 t10 m15 l15 z15 t15 m20 l20 z20 t20
      go_wp2
      go_roundg (5 - (k + 1))
      case measure=> omega
      case rel=> exact ⟨k + 1,by omega,by omega,by go_num,⟨(HK.out.drew).set k _⟩,⟨(HO.out.drew).set gs _ _ (.inl rfl)⟩⟩
    · have hk25:k=5:=by omega
      subst hk25
      go_wp2
      exact HX.out _ _ HK.out HO.out ⟨_,_,_,_,_,_,_,_,_,_,_,_,_,_,_,_,_,_,_,_,_,_,_,_,_,_,_,_,_,_,rfl⟩
end Go.Proofs.Ytlogocmojnhpbaa.Print
end
