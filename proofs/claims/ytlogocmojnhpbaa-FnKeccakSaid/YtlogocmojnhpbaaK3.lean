-- Packed by a program of this session (slim.py): contracts that many laws share; Lean checks it.
import Derived.Test.YtlogocmojnhpbaaP0
import Derived.Test.YtlogocmojnhpbaaK0
import Derived.Test.YtlogocmojnhpbaaK2
import Derived.Test.YtlogocmojnhpbaaP0
import Derived.Great.BuildSlice
import Derived.Great.Walk
import Derived.Deep.WholeRow
section
namespace Go.Proofs.Ytlogocmojnhpbaa.Print
open Go.RowKit Go.Proofs.YtlogocmojnhpbaaW.PrintWords Go.Proofs.YtlogocmojnhpbaaW.PrintLast
set_option linter.unusedVariables false
set_option linter.unusedSimpArgs false
def iPermute (s:ByteArray):ByteArray × Int:=if (s.size:Int) > 65536 then (⟨#[]⟩,2) else if (s.size:Int)=200 then (strOfNums (kText (kPerm (kLanes (bytesOf s) s.size) 24) 200),0) else (⟨#[]⟩,8)
set_option maxHeartbeats 8000000 in
theorem isLongI.calls (s:ByteArray) (w:World):Calls Try.prog 83 #[.string s] w fun e w'=> e= .returned (.bool (decide ((s.size:Int) > 65536))) ∧ w'=w:=by
  go_enter Try.func83,Try.ntmps83
  go_wp2
  go_ret
  exact ⟨rfl,rfl⟩
set_option maxHeartbeats 8000000 in
set_option maxRecDepth 100000 in
theorem permuteI.calls (s:ByteArray) (w:World):
    Calls Try.prog 22 #[.string s] w fun e w'=> e= .returned (.tuple #[.string (iPermute s).1,.int .i64 (iPermute s).2]) ∧ Below w.heap.size w w':=by
  have L0:=isLongI.calls s
  unfold iPermute
  by_cases h1:(s.size:Int) > 65536
  · rw [if_pos h1]
    rw [decide_eq_true h1] at L0
    have L0:=Aside0.mk L0
    clear h1
    go_enter Try.func22,Try.ntmps22
    go_wp2_with (go_at_call 83;refine (L0.out _).mono ?_;rintro e w1 ⟨rfl,rfl⟩)
    refine bodyPost_ret (results_tmp2 rfl _ _ _) rfl ?_
    exact ⟨rfl,Below.refl _ _⟩
  · rw [if_neg h1]
    rw [decide_eq_false h1] at L0
    have L0:=Aside0.mk L0
    clear h1
    by_cases h2:(s.size:Int)=200
    · rw [if_pos h2]
      have d2:((s.size:Int)==200)=true:=beq_iff_eq.2 h2
      have d3:((s.size:Int) !=200)=false:=by rw [bne,d2];rfl
      have d4:decide ((s.size:Int)=200)=true:=decide_eq_true h2
      have hl:s.size ≤ 200:=by omega
      have hsz:s.size ≤ 9223372036854775807:=by omega
      clear h2
      go_enter Try.func22,Try.ntmps22
      go_upto_region 5 with (go_at_call 83;refine (L0.out _).mono ?_;rintro e w1 ⟨rfl,rfl⟩)
      have hcv:=fun W=> print_bytes (P:=Try.prog) 9 25 5 Try.underlying9 Try.underlying25 Try.underlying5 s W
      have hrd:=bytes_reads w1 5 s hsz
      have hbl:=bytes_below (Below.refl w1.heap.size w1) (Nat.le_refl _) 5 s
      have hlen:(bytesOf s).length=s.size:=bytesOf_length s
      have hC:Kd.C (Kd.int .u8) (Lib.bytesWorld w1 5 s) (some ⟨w1.heap.size,0,none⟩) (bytesOf s).length (bytesOf s):=by
        rw [hlen]
        exact Kd.C_of_reads (d:=(0:Int)) hrd
      have L1:=lanesI.calls (some ⟨w1.heap.size,0,none⟩) (grownCap w1 s.size 0 5) (bytesOf s) _ hC (by rw [hlen];exact hl)
      rw [hlen] at L1
      have hps:(nums .u64 (kLanes (bytesOf s) s.size)).toArray.size=25:=by simp [nums,kLanes_length]
      have hone:(nums .u64 (kLanes (bytesOf s) s.size)).toArray.all (·.oneCell')=true:=by simp [nums,Value.oneCell']
      have hP:(nums .u64 (kLanes (bytesOf s) s.size)).toArray=(nums .u64 (kLanes (bytesOf s) s.size)).toArray:=rfl
      generalize hPP:(nums .u64 (kLanes (bytesOf s) s.size)).toArray=P1 at L1 hps hone
      have hst:∀ W2:World,(storeVar 96 ⟨W2.heap.size,0,none⟩ (.agg P1)).run Try.prog (W2.alloc (.cells #[Value.int .u64 0,Value.int .u64 0,Value.int .u64 0,Value.int .u64 0,Value.int .u64 0,Value.int .u64 0,Value.int .u64 0,Value.int .u64 0,Value.int .u64 0,Value.int .u64 0,Value.int .u64 0,Value.int .u64 0,Value.int .u64 0,Value.int .u64 0,Value.int .u64 0,Value.int .u64 0,Value.int .u64 0,Value.int .u64 0,Value.int .u64 0,Value.int .u64 0,Value.int .u64 0,Value.int .u64 0,Value.int .u64 0,Value.int .u64 0,Value.int .u64 0] 96))= .ok () (W2.alloc (.cells P1 96)):=by
        intro W2
        have h:=run_storeVar_row (P:=Try.prog) (W2.alloc (.cells #[Value.int .u64 0,Value.int .u64 0,Value.int .u64 0,Value.int .u64 0,Value.int .u64 0,Value.int .u64 0,Value.int .u64 0,Value.int .u64 0,Value.int .u64 0,Value.int .u64 0,Value.int .u64 0,Value.int .u64 0,Value.int .u64 0,Value.int .u64 0,Value.int .u64 0,Value.int .u64 0,Value.int .u64 0,Value.int .u64 0,Value.int .u64 0,Value.int .u64 0,Value.int .u64 0,Value.int .u64 0,Value.int .u64 0,Value.int .u64 0,Value.int .u64 0] 96)) W2.heap.size 96 96 #[Value.int .u64 0,Value.int .u64 0,Value.int .u64 0,Value.int .u64 0,Value.int .u64 0,Value.int .u64 0,Value.int .u64 0,Value.int .u64 0,Value.int .u64 0,Value.int .u64 0,Value.int .u64 0,Value.int .u64 0,Value.int .u64 0,Value.int .u64 0,Value.int .u64 0,Value.int .u64 0,Value.int .u64 0,Value.int .u64 0,Value.int .u64 0,Value.int .u64 0,Value.int .u64 0,Value.int .u64 0,Value.int .u64 0,Value.int .u64 0,Value.int .u64 0] P1 (blk_new _ _) (by rw [hps];kernel_rfl) (by rw [hps];rfl) hone
        rw [setRow_new] at h
        exact h
      have HP:=Aside0.mk hPP
      clear hPP hP
      have hst2:=hst
      simp [storeVar,go_sem,hps] at hst2
      have L1:=Aside0.mk L1
      have hkl:=kLanes_length (bytesOf s) s.size
      clear hst
      go_wp2_with (first|(go_at_call 84;refine L1.out.mono ?_;rintro e w2 ⟨rfl,hb2⟩)|(go_at_call 85;refine (permI.calls _ (kLanes (bytesOf s) s.size) _ hkl (by unfold Arr;rw [HP.out];exact blk_new _ _)).mono ?_;rintro e w3 ⟨rfl,S3,M3⟩)|(go_at_call 86;refine (textI.calls _ (kPerm (kLanes (bytesOf s) s.size) 24) _ (by rw [kPerm_length];exact hkl) S3).mono ?_;rintro e w4 ⟨v4,rfl,hR,hb4⟩;have hcv2:=own_string (P:=Try.prog) Try.underlying25 Try.underlying5 Try.underlying9 (Kd.own_of_R hR)))
      refine bodyPost_ret (results_tmp2 rfl _ _ _) rfl ?_
      have b2:=below_step hbl hb2
      have b3:=bwA b2 (.cells P1 96)
      have b4:=M3.2.2 _ b3 (fun i hi e=> by have:=b2.size;omega)
      exact ⟨rfl,below_step b4 hb4⟩
    · rw [if_neg h2]
      have d2:((s.size:Int)==200)=false:=beq_eq_false_iff_ne.2 h2
      have d3:((s.size:Int) !=200)=true:=by rw [bne,d2];rfl
      have d4:decide ((s.size:Int)=200)=false:=decide_eq_false h2
      clear h2
      go_enter Try.func22,Try.ntmps22
      go_wp2_with (go_at_call 83;refine (L0.out _).mono ?_;rintro e w1 ⟨rfl,rfl⟩)
      refine bodyPost_ret (results_tmp2 rfl _ _ _) rfl ?_
      exact ⟨rfl,Below.refl _ _⟩
end Go.Proofs.Ytlogocmojnhpbaa.Print
end
section
namespace Go.Proofs.Ytlogocmojnhpbaa.Print
open Go.RowKit Go.Proofs.YtlogocmojnhpbaaW.PrintWords Go.Proofs.YtlogocmojnhpbaaW.PrintLast
set_option linter.unusedVariables false
set_option linter.unusedSimpArgs false
def sPermute (s:ByteArray):ByteArray × Int:=if (s.size:Int) > 65536 then (⟨#[]⟩,2) else if (s.size:Int)=200 then (strOfNums (kText (sPerm (kLanes (bytesOf s) s.size) 24) 200),0) else (⟨#[]⟩,8)
set_option maxHeartbeats 8000000 in
set_option maxRecDepth 100000 in
theorem permuteS.calls (s:ByteArray) (w:World):
    Calls Try.prog 21 #[.string s] w fun e w'=> e= .returned (.tuple #[.string (sPermute s).1,.int .i64 (sPermute s).2]) ∧ Below w.heap.size w w':=by
  unfold sPermute
  by_cases h1:(s.size:Int) > 65536
  · rw [if_pos h1]
    have d1:decide ((65536:Int) < (s.size:Int))=true:=decide_eq_true h1
    clear h1
    go_enter Try.func21,Try.ntmps21
    go_wp2
    refine bodyPost_ret (results_tmp2 rfl _ _ _) rfl ?_
    exact ⟨rfl,Below.refl _ _⟩
  · rw [if_neg h1]
    have d1:decide ((65536:Int) < (s.size:Int))=false:=decide_eq_false h1
    clear h1
    by_cases h2:(s.size:Int)=200
    · rw [if_pos h2]
      have d2:((s.size:Int)==200)=true:=beq_iff_eq.2 h2
      have d3:((s.size:Int) !=200)=false:=by rw [bne,d2];rfl
      have d4:decide ((s.size:Int)=200)=true:=decide_eq_true h2
      have L1:=Aside0.mk (lanesS.calls s w (by omega))
      have L2:=fun W=> permS.calls (kLanes (bytesOf s) s.size) W (kLanes_length _ _)
      have L3:=fun W=> textS.calls (sPerm (kLanes (bytesOf s) s.size) 24) 200 W (by rw [sPerm_length];exact kLanes_length _ _) (Nat.le_refl _)
      generalize kText (sPerm (kLanes (bytesOf s) s.size) 24) 200=T at L3 ⊢
      generalize (nums .u64 (sPerm (kLanes (bytesOf s) s.size) 24)).toArray=P2 at L2 L3
      generalize (nums .u64 (kLanes (bytesOf s) s.size)).toArray=P1 at L1 L2
      have L2:=Aside0.mk L2
      have L3:=Aside0.mk L3
      clear h2
      go_enter Try.func21,Try.ntmps21
      go_wp2_with (first|(go_at_call 82;refine L1.out.mono ?_;rintro e w1 ⟨rfl,hb1⟩)|(go_at_call 81;refine (L2.out _).mono ?_;rintro e w2 ⟨rfl,hb2⟩)|(go_at_call 80;refine (L3.out _).mono ?_;rintro e w3 ⟨rfl,hb3⟩))
      refine bodyPost_ret (results_tmp2 rfl _ _ _) rfl ?_
      exact ⟨rfl,below_step (below_step hb1 hb2) hb3⟩
    · rw [if_neg h2]
      have d2:((s.size:Int)==200)=false:=beq_eq_false_iff_ne.2 h2
      have d3:((s.size:Int) !=200)=true:=by rw [bne,d2];rfl
      have d4:decide ((s.size:Int)=200)=false:=decide_eq_false h2
      clear h2
      go_enter Try.func21,Try.ntmps21
      go_wp2
      refine bodyPost_ret (results_tmp2 rfl _ _ _) rfl ?_
      exact ⟨rfl,Below.refl _ _⟩
end Go.Proofs.Ytlogocmojnhpbaa.Print
end
section
namespace Go.Proofs.Ytlogocmojnhpbaa.Print
open Go.RowKit Go.Proofs.YtlogocmojnhpbaaW.PrintWords Go.Proofs.YtlogocmojnhpbaaW.PrintLast
theorem kLanes_in (xs:List Int) (i:Nat):AllU (kLanes xs i):=by
  induction i with
  |zero=>
    intro x hx
    obtain rfl:=List.eq_of_mem_replicate hx
    exact ⟨by decide,by decide⟩
  |succ i ih=> exact ih.set (i / 8) (bitsU_in _ _ _)
theorem permute_eq (s:ByteArray):iPermute s=sPermute s:=by
  unfold iPermute sPermute
  rw [perm_eq (kLanes_length _ _) (kLanes_in _ _)]
end Go.Proofs.Ytlogocmojnhpbaa.Print
end
section
namespace Go.Proofs.Ytlogocmojnhpbaa.Print
open Go.RowKit Go.Proofs.YtlogocmojnhpbaaW.PrintWords Go.Proofs.YtlogocmojnhpbaaW.PrintLast
def spec_Permute.f (a0:ByteArray):Option (ByteArray × Int):=some (sPermute a0)
def impl_Permute.f (a0:ByteArray):Option (ByteArray × Int):=some (sPermute a0)
theorem spec_Permute.calls (a0:ByteArray) (r1:ByteArray) (r2:Int) (w:World) (h:spec_Permute.f a0=some (r1,r2)):
    Calls Try.prog 21 #[.string a0] w fun e w'=> e= .returned (.tuple #[.string r1,.int .i64 r2]) ∧ Below w.heap.size w w':=by
  have h2:=permuteS.calls a0 w
  rw [Option.some.inj h] at h2
  exact h2
theorem impl_Permute.calls (a0:ByteArray) (r1:ByteArray) (r2:Int) (w:World) (h:impl_Permute.f a0=some (r1,r2)):
    Calls Try.prog 22 #[.string a0] w fun e w'=> e= .returned (.tuple #[.string r1,.int .i64 r2]) ∧ Below w.heap.size w w':=by
  have h2:=permuteI.calls a0 w
  rw [permute_eq,Option.some.inj h] at h2
  exact h2
end Go.Proofs.Ytlogocmojnhpbaa.Print
end
section
namespace Go.Proofs.Ytlogocmojnhpbaa.Print
open Go.RowKit Go.Proofs.YtlogocmojnhpbaaW.PrintWords Go.Proofs.YtlogocmojnhpbaaW.PrintLast
def kGap (n:Nat):Nat:=(136 - n % 136) % 136
theorem kGap_whole (n:Nat):(n + kGap n) % 136=0:=by unfold kGap;omega
theorem kGap_lt (n:Nat):kGap n < 136:=by unfold kGap;omega
theorem kGap_part {n k:Nat} (h:k < kGap n):(n + k) % 136 ≠ 0:=by unfold kGap at h;omega
def kFill (m:List Int) (k:Nat):List Int:=m ++ List.replicate k 0
theorem kFill_length (m:List Int) (k:Nat):(kFill m k).length=m.length + k:=by simp [kFill]
theorem kFill_succ (m:List Int) (k:Nat):kFill m k ++ [0]=kFill m (k + 1):=by simp [kFill,List.replicate_succ']
theorem kFill_zero (m:List Int):kFill m 0=m:=by simp [kFill]
def kMark (m:List Int):List Int:=m.set (m.length - 1) (Go.bits .or .u8 (m.getD (m.length - 1) 0) 128)
theorem kMark_length (m:List Int):(kMark m).length=m.length:=by simp [kMark]
def kPad (xs:List Int):List Int:=kMark (kFill (xs ++ [1]) (kGap (xs.length + 1)))
theorem kPad_length (xs:List Int):(kPad xs).length=xs.length + 1 + kGap (xs.length + 1):=by simp [kPad,kMark_length,kFill_length]
theorem kPad_whole (xs:List Int):(kPad xs).length % 136=0:=by rw [kPad_length];exact kGap_whole _
def kXor (a x:List Int):Nat → List Int
  |0=> a
  |i + 1=> (kXor a x i).set i (xorU ((kXor a x i).getD i 0) (x.getD i 0))
theorem kXor_length (a x:List Int) (i:Nat):(kXor a x i).length=a.length:=by
  induction i with
  |zero=> rfl
  |succ i ih=> simp [kXor,ih]
theorem kXor_in {a x:List Int} (h:AllU a) (i:Nat):AllU (kXor a x i):=by
  induction i with
  |zero=> exact h
  |succ i ih=> exact ih.set i (bitsU_in _ _ _)
def kBlock (m:List Int) (i:Nat):List Int:=(m.drop (136 * i)).take 136
theorem kBlock_length {m:List Int} {i n:Nat} (h:m.length=136 * n) (hi:i < n):(kBlock m i).length=136:=by
  simp [kBlock,h]
  omega
def kSp (m:List Int):Nat → List Int
  |0=> List.replicate 25 0
  |i + 1=> kPerm (kXor (kSp m i) (kLanes (kBlock m i) 136) 25) 24
theorem kSp_length (m:List Int) (i:Nat):(kSp m i).length=25:=by
  induction i with
  |zero=> simp [kSp]
  |succ i ih=> rw [kSp,kPerm_length,kXor_length,ih]
theorem all_zero25:AllU (List.replicate 25 0):=by
  intro x hx
  obtain rfl:=List.eq_of_mem_replicate hx
  exact ⟨by decide,by decide⟩
theorem kSp_in (m:List Int) (i:Nat):AllU (kSp m i):=by
  induction i with
  |zero=> exact all_zero25
  |succ i ih=> exact kPerm_in (kXor_in ih 25) 24
theorem kSp_spec (m:List Int) (i:Nat):kSp m (i + 1)=sPerm (kXor (kSp m i) (kLanes (kBlock m i) 136) 25) 24:=by
  rw [kSp,perm_eq (by rw [kXor_length,kSp_length]) (kXor_in (kSp_in m i) 25)]
def kHash (xs:List Int):List Int:=kText (kSp (kPad xs) ((kPad xs).length / 136)) 32
theorem kHash_length (xs:List Int):(kHash xs).length=32:=kText_length _ _
theorem kText_take (s:List Int) {i n:Nat} (h:i ≤ n):(kText s n).take i=kText s i:=by
  induction n with
  |zero=>
    obtain rfl:i=0:=by omega
    rfl
  |succ n ih=>
    by_cases e:i=n + 1
    · subst e
      rw [List.take_of_length_le (by rw [kText_length];omega)]
    · rw [kText,List.take_append_of_le_length (by rw [kText_length];omega),ih (by omega)]
end Go.Proofs.Ytlogocmojnhpbaa.Print
end
section
namespace Go.Proofs.Ytlogocmojnhpbaa.Print
open Go.RowKit Go.Proofs.YtlogocmojnhpbaaW.PrintWords Go.Proofs.YtlogocmojnhpbaaW.PrintLast
def InB (x:Int):Prop:=0 ≤ x ∧ x < 256
def AllB (l:List Int):Prop:=∀ x ∈ l,InB x
theorem AllB.getD {l:List Int} (h:AllB l) (i:Nat):InB (l.getD i 0):=by
  rw [List.getD_eq_getElem?_getD]
  cases e:l[i]? with
  |none=> exact ⟨by decide,by decide⟩
  |some v=> exact h v (List.mem_of_getElem? e)
theorem AllB.set {l:List Int} (h:AllB l) (i:Nat) {v:Int} (hv:InB v):AllB (l.set i v):=by
  intro x hx
  rcases List.mem_or_eq_of_mem_set hx with hx|rfl
  · exact h x hx
  · exact hv
def bit (x:Int) (p:Nat):Bool:=x.toNat.testBit p
theorem bit_ext {a b:Int} (ha:0 ≤ a) (hb:0 ≤ b) (h:∀ p,bit a p=bit b p):a=b:=by
  have:a.toNat=b.toNat:=Nat.eq_of_testBit_eq h
  omega
theorem bit_high {a:Int} (ha:InU a) {p:Nat} (hp:64 ≤ p):bit a p=false:=by
  unfold bit
  refine Nat.testBit_lt_two_pow (Nat.lt_of_lt_of_le (m:=2 ^ 64) ?_ (Nat.pow_le_pow_right (by decide) hp))
  unfold InU at ha
  omega
theorem bit_highB {a:Int} (ha:InB a) {p:Nat} (hp:8 ≤ p):bit a p=false:=by
  unfold bit
  refine Nat.testBit_lt_two_pow (Nat.lt_of_lt_of_le (m:=2 ^ 8) ?_ (Nat.pow_le_pow_right (by decide) hp))
  unfold InB at ha
  omega
theorem nat_ofInt {a:Int} (h:InU a):(BitVec.ofInt 64 a).toNat=a.toNat:=by
  have:=toNat_ofInt h
  omega
theorem or_nat {a b:Int} (ha:InU a) (hb:InU b):Go.bits .or .u64 a b=((a.toNat|||b.toNat:Nat):Int):=by
  unfold Go.bits
  show IntKind.u64.wrap (((BitVec.ofInt 64 a|||BitVec.ofInt 64 b).toNat:Nat):Int)=_
  rw [bvU,BitVec.toNat_or,nat_ofInt ha,nat_ofInt hb]
theorem xor_nat {a b:Int} (ha:InU a) (hb:InU b):xorU a b=((a.toNat ^^^ b.toNat:Nat):Int):=by
  unfold xorU Go.bits
  show IntKind.u64.wrap (((BitVec.ofInt 64 a ^^^ BitVec.ofInt 64 b).toNat:Nat):Int)=_
  rw [bvU,BitVec.toNat_xor,nat_ofInt ha,nat_ofInt hb]
theorem bit_or {a b:Int} (ha:InU a) (hb:InU b) (p:Nat):bit (Go.bits .or .u64 a b) p=(bit a p||bit b p):=by
  rw [or_nat ha hb]
  simp [bit,Nat.testBit_or]
theorem bit_xor {a b:Int} (ha:InU a) (hb:InU b) (p:Nat):bit (xorU a b) p=(bit a p ^^ bit b p):=by
  rw [xor_nat ha hb]
  simp [bit,Nat.testBit_xor]
theorem bit_up {x:Int} (hx:InB x) (k p:Nat) (hk:k < 8):bit (IntKind.u64.wrap (IntKind.u64.wrap x * 2 ^ (8 * k))) p=(decide (p / 8=k) && bit x (p % 8)):=by
  have h0:IntKind.u64.wrap x=x:=wrapU_id (by unfold InB at hx;unfold InU;omega)
  obtain ⟨n,rfl⟩:=Int.eq_ofNat_of_zero_le hx.1
  have hn:n < 256:=by have:=hx.2;omega
  have hpow:(2:Nat) ^ (8 * k) ≤ 2 ^ 56:=Nat.pow_le_pow_right (by decide) (by omega)
  have hlt:n * 2 ^ (8 * k) < 18446744073709551616:=by
    have h1:n * 2 ^ (8 * k) ≤ 255 * 2 ^ 56:=Nat.mul_le_mul (by omega) hpow
    omega
  have e1:((n:Int) * 2 ^ (8 * k))=((n * 2 ^ (8 * k):Nat):Int):=by simp
  rw [h0,e1,wrapU_id ⟨by omega,by omega⟩]
  unfold bit
  rw [Int.toNat_natCast,Int.toNat_natCast,Nat.testBit_mul_two_pow]
  by_cases h8:p / 8=k
  · have h9:8 * k ≤ p:=by omega
    have h10:p - 8 * k=p % 8:=by omega
    simp [h8,h9,h10]
  · by_cases h9:8 * k ≤ p
    · have h10:n.testBit (p - 8 * k)=false:=Nat.testBit_lt_two_pow (Nat.lt_of_lt_of_le (m:=2 ^ 8) (by omega) (Nat.pow_le_pow_right (by decide) (by omega)))
      simp [h8,h9,h10]
    · simp [h8,h9]
theorem lane_in (xs:List Int) (i l:Nat):InU ((kLanes xs i).getD l 0):=(kLanes_in xs i).getD l
theorem lane_bit {xs:List Int} (h:AllB xs) (i l p:Nat) (hi:i ≤ 200) (hl:l < 25) (hp:p < 64):bit ((kLanes xs i).getD l 0) p=(decide (8 * l + p / 8 < i) && bit (xs.getD (8 * l + p / 8) 0) (p % 8)):=by
  induction i with
  |zero=>
    have e0:(kLanes xs 0).getD l 0=0:=by
      show (List.replicate 25 (0:Int)).getD l 0=0
      rw [List.getD_eq_getElem?_getD,List.getElem?_replicate,if_pos hl]
      rfl
    rw [e0]
    simp [bit]
  |succ i ih=>
    have ih:=ih (by omega)
    have hlen:=kLanes_length xs i
    rw [kLanes]
    by_cases e:l=i / 8
    · subst e
      rw [List.getD_eq_getElem?_getD,List.getElem?_set_self (by omega),Option.getD_some,bit_or (lane_in _ _ _) (wrapU_in _),ih,bit_up (h.getD i) _ _ (by omega)]
      by_cases e2:p / 8=i % 8
      · have e3:8 * (i / 8) + p / 8=i:=by omega
        simp [e2]
        have e4:8 * (i / 8) + i % 8=i:=by omega
        simp [e4]
      · have e5:(8 * (i / 8) + p / 8 < i + 1) ↔ (8 * (i / 8) + p / 8 < i):=by omega
        simp [e2,e5]
    · rw [List.getD_eq_getElem?_getD,List.getElem?_set_ne (by omega),← List.getD_eq_getElem?_getD,ih]
      have e5:(8 * l + p / 8 < i + 1) ↔ (8 * l + p / 8 < i):=by omega
      simp [e5]
theorem text_get (s:List Int) (n j:Nat) (hj:j < n):(kText s n).getD j 0=s.getD (j / 8) 0 / 2 ^ (8 * (j % 8)) % 256:=by
  induction n with
  |zero=> omega
  |succ n ih=>
    rw [kText,List.getD_eq_getElem?_getD]
    by_cases e:j=n
    · subst e
      rw [List.getElem?_append_right (by rw [kText_length];omega),kText_length,Nat.sub_self]
      rfl
    · rw [List.getElem?_append_left (by rw [kText_length];omega),← List.getD_eq_getElem?_getD,ih (by omega)]
theorem text_in (s:List Int) (n:Nat):AllB (kText s n):=by
  induction n with
  |zero=> intro x hx;cases hx
  |succ n ih=>
    intro x hx
    rw [kText] at hx
    rcases List.mem_append.1 hx with hx|hx
    · exact ih x hx
    · rw [List.mem_singleton.1 hx]
      unfold InB
      omega
theorem text_bit {s:List Int} (h:AllU s) (n j p:Nat) (hj:j < n) (hp:p < 8):bit ((kText s n).getD j 0) p=bit (s.getD (j / 8) 0) (8 * (j % 8) + p):=by
  rw [text_get s n j hj]
  have hs:=h.getD (j / 8)
  generalize s.getD (j / 8) 0=x at hs ⊢
  obtain ⟨m,rfl⟩:=Int.eq_ofNat_of_zero_le hs.1
  have e1:((m:Int) / 2 ^ (8 * (j % 8)) % 256)=((m / 2 ^ (8 * (j % 8)) % 2 ^ 8:Nat):Int):=by simp
  rw [e1]
  unfold bit
  rw [Int.toNat_natCast,Int.toNat_natCast,Nat.testBit_mod_two_pow,Nat.testBit_div_two_pow]
  simp [hp,Nat.add_comm]
def kXor8 (a x:List Int):Nat → List Int
  |0=> a
  |i + 1=> (kXor8 a x i).set i (Go.bits .xor .u8 ((kXor8 a x i).getD i 0) (x.getD i 0))
theorem kXor8_length (a x:List Int) (i:Nat):(kXor8 a x i).length=a.length:=by
  induction i with
  |zero=> rfl
  |succ i ih=> simp [kXor8,ih]
theorem xor8_nat {a b:Int} (ha:InB a) (hb:InB b):Go.bits .xor .u8 a b=((a.toNat ^^^ b.toNat:Nat):Int) ∧ InB (Go.bits .xor .u8 a b):=by
  have hn:∀ {a:Int},InB a → (BitVec.ofInt 8 a).toNat=a.toNat:=by
    intro a h
    unfold InB at h
    rw [BitVec.toNat_ofInt]
    omega
  have hw:∀ x:BitVec 8,IntKind.u8.wrap (x.toNat:Int)=(x.toNat:Int):=by
    intro x
    have e:IntKind.u8.wrap (x.toNat:Int)=(x.toNat:Int) % 256:=by simp [IntKind.wrap,IntKind.bits,IntKind.signed]
    have:=x.isLt
    rw [e];omega
  have e:Go.bits .xor .u8 a b=(((BitVec.ofInt 8 a ^^^ BitVec.ofInt 8 b).toNat:Nat):Int):=by
    unfold Go.bits
    show IntKind.u8.wrap (((BitVec.ofInt 8 a ^^^ BitVec.ofInt 8 b).toNat:Nat):Int)=_
    rw [hw]
  refine ⟨by rw [e,BitVec.toNat_xor,hn ha,hn hb],?_⟩
  rw [e]
  have:=(BitVec.ofInt 8 a ^^^ BitVec.ofInt 8 b).isLt
  unfold InB
  omega
theorem kXor8_in {a x:List Int} (h:AllB a) (hx:AllB x) (i:Nat):AllB (kXor8 a x i):=by
  induction i with
  |zero=> exact h
  |succ i ih=> exact ih.set i (xor8_nat (ih.getD i) (hx.getD i)).2
theorem kXor8_get {a x:List Int} (h:AllB a) (hx:AllB x) (k:Nat) (hk:k ≤ a.length) (j p:Nat):bit ((kXor8 a x k).getD j 0) p=(bit (a.getD j 0) p ^^ (decide (j < k) && bit (x.getD j 0) p)):=by
  induction k with
  |zero=> simp [kXor8]
  |succ k ih=>
    have ih:=ih (by omega)
    rw [kXor8]
    by_cases e:j=k
    · subst e
      have hlen:=kXor8_length a x j
      rw [List.getD_eq_getElem?_getD,List.getElem?_set_self (by omega),Option.getD_some,(xor8_nat ((kXor8_in h hx j).getD j) (hx.getD j)).1]
      have:bit ((((kXor8 a x j).getD j 0).toNat ^^^ (x.getD j 0).toNat:Nat):Int) p=(bit ((kXor8 a x j).getD j 0) p ^^ bit (x.getD j 0) p):=by simp [bit,Nat.testBit_xor]
      rw [this,ih]
      simp
    · rw [List.getD_eq_getElem?_getD,List.getElem?_set_ne (by omega),← List.getD_eq_getElem?_getD,ih]
      have e5:(j < k + 1) ↔ (j < k):=by omega
      simp [e5]
theorem kXor_get {a x:List Int} (h:AllU a) (hx:AllU x) (k:Nat) (hk:k ≤ a.length) (j p:Nat):bit ((kXor a x k).getD j 0) p=(bit (a.getD j 0) p ^^ (decide (j < k) && bit (x.getD j 0) p)):=by
  induction k with
  |zero=> simp [kXor]
  |succ k ih=>
    have ih:=ih (by omega)
    rw [kXor]
    by_cases e:j=k
    · subst e
      have hlen:=kXor_length a x j
      rw [List.getD_eq_getElem?_getD,List.getElem?_set_self (by omega),Option.getD_some,bit_xor ((kXor_in h j).getD j) (hx.getD j),ih]
      simp
    · rw [List.getD_eq_getElem?_getD,List.getElem?_set_ne (by omega),← List.getD_eq_getElem?_getD,ih]
      have e5:(j < k + 1) ↔ (j < k):=by omega
      simp [e5]
theorem get_getD (l:List Int) (i:Nat) (h:i < l.length):l[i]=l.getD i 0:=by simp [List.getD_eq_getElem?_getD,h]
theorem lanes_xor {s B:List Int} (hs:s.length=25) (h:AllU s) (hB:AllB B):kLanes (kXor8 (kText s 200) B 136) 200=kXor s (kLanes B 136) 25:=by
  apply List.ext_getElem
  · rw [kLanes_length,kXor_length,hs]
  · intro l h1 h2
    have hl:l < 25:=by rw [kLanes_length] at h1;exact h1
    rw [get_getD _ _ h1,get_getD _ _ h2]
    have hT:=text_in s 200
    have i1:=lane_in (kXor8 (kText s 200) B 136) 200 l
    have i2:=(kXor_in (x:=kLanes B 136) h 25).getD l
    refine bit_ext i1.1 i2.1 fun p=> ?_
    by_cases hp:p < 64
    · rw [lane_bit (kXor8_in hT hB 136) 200 l p (by omega) hl hp,kXor8_get hT hB 136 (by rw [kText_length];omega),text_bit h 200 _ _ (by omega) (by omega),kXor_get h (kLanes_in _ _) 25 (by omega),lane_bit hB 136 l p (by omega) hl hp]
      have e3:(8 * l + p / 8) / 8=l:=by omega
      have e4:8 * ((8 * l + p / 8) % 8) + p % 8=p:=by omega
      have e5:8 * l + p / 8 < 200:=by omega
      rw [e3,e4]
      simp [e5,hl]
    · rw [bit_high i1 (by omega),bit_high i2 (by omega)]
end Go.Proofs.Ytlogocmojnhpbaa.Print
end
section
namespace Go.Proofs.Ytlogocmojnhpbaa.Print
open Go.RowKit Go.Proofs.YtlogocmojnhpbaaW.PrintWords
set_option linter.unusedVariables false
set_option linter.unusedSimpArgs false
def MRow (w:World) (g cap:Nat) (xs:List Int):Prop:=
  ∃ (cur:Array Value) (fz:Nat × Nat),w.heap[g]?=some (.cells cur 5 fz) ∧ (cap ≤ fz.1 ∨ fz.2=0) ∧ xs.length ≤ cap ∧ cap ≤ maxLen ∧ cur.size=cap ∧ cur.toList.take xs.length=nums .u8 xs
theorem addr_at (g o j:Nat):(⟨g,o,none⟩:Addr).add j=⟨g,o + j,none⟩:=by unfold Addr.add;split <;> simp_all
section
variable {w w1 w':World} {g cap base:Nat} {xs:List Int} {p:Nat → Prop}
theorem MRow.lt (h:MRow w g cap xs):g < w.heap.size:=by
  obtain ⟨cur,fz,hg,_⟩:=h
  exact blk_lt hg
theorem MRow.step (h:MRow w g cap xs) (hb:w1.heap[g]?=w.heap[g]?):MRow w1 g cap xs:=by
  obtain ⟨cur,fz,hg,r⟩:=h
  exact ⟨cur,fz,hb.trans hg,r⟩
theorem MRow.moved (h:MRow w g cap xs) (m:Moved w w1 p) (hp:¬ p g):MRow w1 g cap xs:=h.step (m.2.1 g h.lt hp)
theorem MRow.below (h:MRow w g cap xs) (hb:Below w.heap.size w w1):MRow w1 g cap xs:=h.step (hb.block g h.lt)
theorem MRow.alloc (h:MRow w g cap xs) (o:Obj):MRow (w.alloc o) g cap xs:=h.below (bwA (Below.refl _ _) o)
theorem MRow.cell (h:MRow w g cap xs) (j:Nat) (hj:j < xs.length):w.cell? ⟨g,j,none⟩=some (.int .u8 (xs.getD j 0)):=by
  obtain ⟨cur,fz,hg,_,h1,_,h2,h3⟩:=h
  have hc:w.cell? ⟨g,j,none⟩=cur[j]?:=by simp [World.cell?,hg]
  have h4:(cur.toList.take xs.length)[j]?=cur[j]?:=by rw [List.getElem?_take,if_pos hj];simp
  rw [hc,← h4,h3]
  simp [nums,List.getD_eq_getElem?_getD,List.getElem?_eq_getElem hj]
theorem MRow.free (h:MRow w g cap xs) (j:Nat) (hj:j < cap):w.frozen? ⟨g,j,none⟩=false:=by
  obtain ⟨cur,fz,hg,h0,_⟩:=h
  obtain ⟨lo,hi⟩:=fz
  simp only [World.frozen?,hg,Bool.and_eq_false_iff,decide_eq_false_iff_not]
  simp only at h0
  rcases h0 with h0|h0
  · left;omega
  · right;omega
theorem MRow.set (h:MRow w g cap xs) (j:Nat) (v:Int) (hj:j < xs.length):MRow (w.setCell ⟨g,j,none⟩ (.int .u8 v)) g cap (xs.set j v):=by
  obtain ⟨cur,fz,hg,h0,h1,h2,h3,h4⟩:=h
  refine ⟨cur.setIfInBounds j (.int .u8 v),fz,?_,h0,by simpa using h1,h2,by simpa using h3,?_⟩
  · simp [World.setCell,Array.getElem?_modify,hg]
  · rw [List.length_set,Array.toList_setIfInBounds,List.take_set,h4]
    simp [nums,List.map_set]
theorem MRow.snoc (h:MRow w g cap xs) (v:Int) (hj:xs.length < cap):MRow (w.setCell ⟨g,xs.length,none⟩ (.int .u8 v)) g cap (xs ++ [v]):=by
  obtain ⟨cur,fz,hg,h0,h1,h2,h3,h4⟩:=h
  refine ⟨cur.setIfInBounds xs.length (.int .u8 v),fz,?_,h0,by simp;omega,h2,by simpa using h3,?_⟩
  · simp [World.setCell,Array.getElem?_modify,hg]
  · have hl:xs.length < cur.toList.length:=by simpa [h3] using hj
    rw [List.length_append,List.length_singleton,Array.toList_setIfInBounds,List.take_set,List.take_succ_eq_append_getElem hl,h4,nums_append]
    rw [List.set_append_right _ _ (by simp [nums])]
    simp [nums]
theorem MRow.reads (h:MRow w g cap xs):(Kd.int .u8).C w (some ⟨g,0,none⟩) xs.length xs:=by
  have hm:xs.length ≤ 9223372036854775807:=by
    obtain ⟨cur,fz,hg,h0,h1,h2,_⟩:=h
    unfold maxLen at h2
    omega
  refine Kd.C_of_reads (d:=(0:Int)) ⟨rfl,hm,fun hn=> ⟨_,rfl,fun j hj=> ?_⟩⟩
  have:=h.cell j hj
  rw [addr_at,Nat.zero_add]
  exact this
theorem MRow.part (h:MRow w g cap xs) (o n:Nat) (hn:o + n ≤ xs.length):(Kd.int .u8).C w (some ⟨g,o,none⟩) n ((xs.drop o).take n):=by
  have hm:xs.length ≤ 9223372036854775807:=by
    obtain ⟨cur,fz,hg,h0,h1,h2,_⟩:=h
    unfold maxLen at h2
    omega
  refine Kd.C_of_reads (d:=(0:Int)) ⟨by simp;omega,by omega,fun h0=> ⟨_,rfl,fun j hj=> ?_⟩⟩
  have h2:=h.cell (o + j) (by omega)
  have e:((xs.drop o).take n).getD j 0=xs.getD (o + j) 0:=by
    simp only [List.getD_eq_getElem?_getD]
    rw [List.getElem?_take,if_pos hj,List.getElem?_drop]
  rw [e,addr_at]
  exact h2
end
theorem MRow.of_bytes (w:World) (s:ByteArray) (hs:s.size ≤ 9223372036854775807):MRow (Lib.bytesWorld w 5 s) w.heap.size (grownCap w s.size 0 5) (bytesOf s):=by
  have hge:=grownCap_ge w s.size 0 5
  have hle:=grownCap_le_maxLen w s.size 0 5 (by unfold maxLen;exact hs)
  have hsz:(Lib.bytesCells w 5 s).size=grownCap w s.size 0 5:=by
    unfold Lib.bytesCells
    have:s.data.size=s.size:=rfl
    simp
    omega
  refine ⟨Lib.bytesCells w 5 s,_,Lib.bytesWorld_at_new w 5 s,.inl (by rw [hsz];exact Nat.le_refl _),by rw [bytesOf_length];exact hge,hle,hsz,?_⟩
  rw [bytesOf_length]
  unfold Lib.bytesCells
  have hl:(s.data.map fun b=> Value.int .u8 b.toNat).toList.length=s.size:=by simp
  rw [Array.toList_append,List.take_append_of_le_length (by omega),List.take_of_length_le (by omega)]
  simp [nums,bytesOf]
theorem MRow.of_R {w:World} {base:Nat} {ok:Nat → Prop} {v:Value} {xs:List Int} (h:(Kd.int .u8).R 5 w base ok v xs) (hp:0 < xs.length):∃ g cap,v= .slice (some ⟨g,0,none⟩) xs.length cap ∧ base ≤ g ∧ MRow w g cap xs:=by
  have ho:=Kd.own_of_R (enc:=Value.int .u8) (h1:=fun _=> rfl) h
  rcases ho.2 with ⟨_,h0⟩|⟨g,c,cur,rfl,hb,hg,h1,h2,h3,h4⟩
  · omega
  · exact ⟨g,c,rfl,hb,cur,(0,0),hg,.inr rfl,h1,h2,by simpa using h3,by simpa [encs,nums] using h4⟩
theorem grown_set (W:World) (g i:Nat) (v:Value):W.grownBy (W.setCell ⟨g,i,none⟩ v) (some g):=⟨rfl,rfl,rfl,by simp [World.setCell],fun k _ hk=> Below.heap_setCell _ _ _ _ (fun e=> hk (by simp [e]))⟩
theorem m_run (W:World) (g cap base:Nat) (xs:List Int) (p:Int) (ty:TypeId) (hM:MRow W g cap xs) (hb:base ≤ g) (hbase:base ≤ W.heap.size) (hl:xs.length + 1 ≤ 140737488355328):
    ∃ g1 cap1 w1,(Builtin.append_ #[25,25] ty #[.slice (some ⟨g,0,none⟩) xs.length cap,.slice (some ⟨W.heap.size,0,none⟩) 1 1]).run Try.prog (W.alloc (.cells #[.int .u8 p] 5))= .ok (.slice (some ⟨g1,0,none⟩) (xs.length + 1) cap1) w1 ∧ MRow w1 g1 cap1 (xs ++ [p]) ∧ base ≤ g1 ∧ (W.alloc (.cells #[.int .u8 p] 5)).grownBy w1 (some g):=by
  obtain ⟨i,hi,hzz⟩:∃ i,Try.prog.info? 5=some i ∧ (i.zero=some (.int .u8 0) ∧ i.size=1 ∧ i.bytes=1):=by
    have:=info5
    obtain ⟨i,hi,hz⟩:=Option.map_eq_some_iff.1 this
    simp only [Prod.mk.injEq] at hz
    exact ⟨i,hi,hz⟩
  obtain ⟨hz,hs,hby⟩:=hzz
  have hM1:=hM.alloc (.cells #[.int .u8 p] 5)
  have hbox:(W.alloc (.cells #[.int .u8 p] 5)).cell? ⟨W.heap.size,0,none⟩=some (.int .u8 p):=blk_cell (blk_new W _) 0
  have hnews:∀ j u, [Value.int .u8 p][j]?=some u → (W.alloc (.cells #[.int .u8 p] 5)).cell? ((⟨W.heap.size,0,none⟩:Addr).add j)=some u:=by
    intro j u hu
    cases j with
    |zero=>
      have:Value.int .u8 p=u:=by simpa using hu
      subst this
      rw [addr_at]
      exact hbox
    |succ j=> simp at hu
  have hbase1:base ≤ (W.alloc (.cells #[.int .u8 p] 5)).heap.size:=Nat.le_trans hbase (bwA (Below.refl _ W) _).size
  generalize hW:W.alloc (.cells #[.int .u8 p] 5)=W1 at hM1 hnews hbase1 ⊢
  generalize W.heap.size=b at hnews ⊢
  have hf:=run_firstCells_some (P:=Try.prog) W1 1 1 ⟨b,0,none⟩ 1 1 [.int .u8 p] (by simp) hnews
  by_cases hroom:xs.length + 1 ≤ cap
  · refine ⟨g,cap,_,?_,hM1.snoc p (by omega),hb,grown_set W1 g xs.length _⟩
    have hfro:=hM1.free xs.length (by omega)
    obtain ⟨cur,fz,hg,h0,h1,h2,h3,h4⟩:=hM1
    have hcell:W1.cell? ⟨g,xs.length,none⟩=some (cur[xs.length]'(by omega)):=by simp [World.cell?,hg,show xs.length < cur.size by omega]
    have hst:(storeCells ⟨g,xs.length,none⟩ [.int .u8 p] 0).run Try.prog W1= .ok () (W1.setCell ⟨g,xs.length,none⟩ (.int .u8 p)):=by
      have hadd:(⟨g,xs.length,none⟩:Addr).add 0=⟨g,xs.length,none⟩:=by simp [Addr.add]
      have:=run_store Try.prog W1 ⟨g,xs.length,none⟩ (.int .u8 p) .plain rfl
      simp only [storeCells,Sem.run_bind,hadd]
      rw [this,hcell]
      simp [hfro]
    simp [Builtin.append_,run_underlying Try.underlying25,sizeOf,typeInfo,hi,hs,Builtin.lenOf,hroom,hf,Addr.add_lit,hst]
  · have holds:∀ j u,(nums .u8 xs)[j]?=some u → W1.cell? ((⟨g,0,none⟩:Addr).add j)=some u:=by
      intro j u hu
      obtain ⟨hlt,hx⟩:=List.getElem?_eq_some_iff.1 hu
      have hlt':j < xs.length:=by simpa [nums] using hlt
      have h5:=hM1.cell j hlt'
      rw [← hx,addr_at,Nat.zero_add,h5]
      simp [nums,List.getD_eq_getElem?_getD,List.getElem?_eq_getElem hlt']
    have hr:=run_append_grow (P:=Try.prog) W1 25 ty 5 i (.int .u8 0) Try.underlying25 hi hz ⟨g,0,none⟩ xs.length cap (nums .u8 xs) (by simp [nums,hs]) holds ⟨b,0,none⟩ 1 1 [.int .u8 p] (by simp [hs]) hnews (by omega) (by omega) (by rw [hby];exact growslice_fits (by omega) (by omega))
    have hge:=grownCap_ge W1 (xs.length + 1) cap 5
    have hcm2:grownCap W1 (xs.length + 1) cap 5 ≤ maxLen:=grownCap_le_maxLen W1 (xs.length + 1) cap 5 (by unfold maxLen;omega)
    refine ⟨_,_,_,hr,⟨_,(0,0),heap_alloc_new W1.drew _,.inr rfl,by simpa using hge,hcm2,?_,?_⟩,hbase1,⟨rfl,rfl,rfl,by simp,fun k hk _=> heap_alloc_old W1.drew _ hk⟩⟩
    · have hz1:(Value.int IntKind.u8 0).cells.size=1:=rfl
      simp only [Array.size_append,List.size_toArray,size_zeroCells,hz1]
      simp [nums]
      omega
    · simp only [Array.toList_append,List.append_assoc]
      rw [← List.append_assoc,List.take_append_of_le_length (by simp [nums]),List.take_of_length_le (by simp [nums]),nums_append]
      simp [nums]
section
variable {ops:Array Oper} {rest:List Oper} {o:Oper} {a:Act} {Q:Exit → Act → World → Prop}
theorem M_append {w0 W:World} (base:Nat) (hgd:o.guard=none) (s x:Operand) (ho:o.op= .call {callee:= .builtin .append,args:= #[s,x],argTypes:= #[25,25]})
    (g cap n:Nat) (xs:List Int) (p:Int) (hn:xs.length=n) (hs:a.eval s= .slice (some ⟨g,0,none⟩) n cap) (hx:a.eval x= .slice (some ⟨W.heap.size,0,none⟩) 1 1)
    (hM:MRow W g cap xs) (hb:base ≤ g) (HB:Below base w0 W) (hbase:base ≤ W.heap.size) (hl:n + 1 ≤ 140737488355328)
    (h:∀ g1 cap1 w1,MRow w1 g1 cap1 (xs ++ [p]) → base ≤ g1 → Below base w0 w1 → wpList Try.prog ops Q rest (a.put o.dst (.slice (some ⟨g1,0,none⟩) (n + 1) cap1)) w1):
    wpList Try.prog ops Q (o::rest) a (W.alloc (.cells #[.int .u8 p] 5)):=by
  subst hn
  refine wpList_plain hgd fun K hK=> ?_
  obtain ⟨g1,cap1,w1,hr,h2,h3,h4⟩:=m_run W g cap base xs p o.type hM hb hbase hl
  unfold Oper.wp execOp
  simp only [ho,resolve,invoke,builtin,Sem.run_bind,Sem.run_pure,Result.andThen_ok,List.map_toArray,List.map_cons,List.map_nil,hs,hx,hr]
  refine hK _ _ ?_
  exact h g1 cap1 w1 h2 h3 ((HB.alloc hbase _).grown h4 (by simp;omega) (fun k hk=> by injection hk with hk;omega))
end
end Go.Proofs.Ytlogocmojnhpbaa.Print
end
section
namespace Go.Proofs.Ytlogocmojnhpbaa.Print
open Go.RowKit Go.Proofs.YtlogocmojnhpbaaW.PrintWords Go.Proofs.YtlogocmojnhpbaaW.PrintLast
set_option linter.unusedVariables false
set_option linter.unusedSimpArgs false
theorem strOfNums_size (l:List Int):(strOfNums l).size=l.length:=by simp [strOfNums,ByteArray.size]
theorem bytesOf_strOfNums {l:List Int} (h:AllB l):bytesOf (strOfNums l)=l:=by
  unfold bytesOf strOfNums
  apply List.ext_getElem
  · simp
  · intro i h1 h2
    have hb:=h _ (List.getElem_mem h2)
    unfold InB at hb
    simp
    omega
theorem bytesOf_in (s:ByteArray):AllB (bytesOf s):=by
  intro x hx
  unfold bytesOf at hx
  obtain ⟨b,_,rfl⟩:=List.mem_map.1 hx
  have:=b.toNat_lt
  unfold InB
  omega
theorem strOfNums_bytesOf (s:ByteArray):strOfNums (bytesOf s)=s:=by
  have e:((fun n:Int=> UInt8.ofNat n.toNat) ∘ fun b:UInt8=> (b.toNat:Int))=id:=funext fun b=> by simp
  unfold bytesOf strOfNums
  apply ByteArray.ext
  rw [List.map_map,e,List.map_id]
theorem AllB.append {a b:List Int} (ha:AllB a) (hb:AllB b):AllB (a ++ b):=by
  intro x hx
  rcases List.mem_append.1 hx with h|h
  · exact ha x h
  · exact hb x h
theorem AllB.drop {a:List Int} (ha:AllB a) (n:Nat):AllB (a.drop n):=fun x hx=> ha x (List.mem_of_mem_drop hx)
theorem AllB.take {a:List Int} (ha:AllB a) (n:Nat):AllB (a.take n):=fun x hx=> ha x (List.mem_of_mem_take hx)
theorem AllB.replicate (n:Nat):AllB (List.replicate n 0):=by
  intro x hx
  rw [List.eq_of_mem_replicate hx]
  exact ⟨by decide,by decide⟩
theorem or8_in (a b:Int):InB (Go.bits .or .u8 a b):=by
  unfold Go.bits
  have e:∀ n:Int,IntKind.u8.wrap n=n % 256:=fun n=> by simp [IntKind.wrap,IntKind.bits,IntKind.signed]
  rw [e]
  unfold InB
  omega
theorem kMark_in {m:List Int} (h:AllB m):AllB (kMark m):=h.set _ (or8_in _ _)
theorem kFill_in {m:List Int} (h:AllB m) (k:Nat):AllB (kFill m k):=h.append (AllB.replicate k)
theorem one_in:AllB [1]:=by
  intro x hx
  rw [List.mem_singleton.1 hx]
  exact ⟨by decide,by decide⟩
theorem kPad_in {xs:List Int} (h:AllB xs):AllB (kPad xs):=kMark_in (kFill_in (h.append one_in) _)
theorem kBlock_in {m:List Int} (h:AllB m) (i:Nat):AllB (kBlock m i):=(h.drop _).take _
theorem Moved.of_below {w w1:World} {p:Nat → Prop} (h:Below w.heap.size w w1):Moved w w1 p:=⟨h.size,fun i hi _=> h.block i hi,fun w0 hb h0=> below_step hb h⟩
theorem Moved.setRow {w w1:World} {p:Nat → Prop} (h:Moved w w1 p) (g:Nat) (c:Array Value) (hg:p g ∨ w.heap.size ≤ g):Moved w (w1.setRow g c) p:=by
  have hs:(w1.setRow g c).heap.size=w1.heap.size:=by simp
  refine ⟨by rw [hs];exact h.1,fun i hi hp=> (setRow_other w1 g i c ?_).trans (h.2.1 i hi hp),fun w0 hb h0=> below_setRow (h.2.2 w0 hb h0) ?_ c⟩
  · rintro rfl
    rcases hg with hg|hg
    · exact hp hg
    · omega
  · rcases hg with hg|hg
    · exact Nat.le_of_not_lt fun hlt=> h0 g hlt hg
    · exact Nat.le_trans hb.size hg
theorem slice_block (g L cap q:Nat) (hq:q + 136 ≤ L) (hc:L ≤ cap) (w:World):(Instr.slice 25 (.slice (some ⟨g,0,none⟩) L cap) (some (.int .i64 (q:Int))) (some (.int .i64 ((q:Int) + 136))) none).run Try.prog w= .ok (.slice (some ⟨g,q,none⟩) 136 (cap - q)) w:=by
  obtain ⟨i,hi,hzz⟩:∃ i,Try.prog.info? 5=some i ∧ i.size=1:=by
    have:=info5
    obtain ⟨i,hi,hz⟩:=Option.map_eq_some_iff.1 this
    simp only [Prod.mk.injEq] at hz
    exact ⟨i,hi,hz.2.1⟩
  rw [cut_mid (P:=Try.prog) 25 5 .i64 .i64 Try.underlying25 hi 1 hzz (some ⟨g,0,none⟩) L cap (q:Int) ((q:Int) + 136) (by omega) (by omega) (by omega) hc w]
  have h1:((q:Int)).toNat=q:=by omega
  have h2:((q:Int) + 136).toNat=q + 136:=by omega
  rw [h1,h2,if_neg (by omega),Option.map_some,addr_at]
  simp
section
variable {P:Program} {ops:Array Oper} {rest:List Oper} {o:Oper} {a:Act} {w:World} {Q:Exit → Act → World → Prop}
theorem wpList_callStep (hg:o.guard=none) (d:Option Tmp) (hd:o.dst=d) (f:FuncId) (args:Array Value) (hrun:(execOp a.eval o).run P w= .ok (.enter f args) w) {Post:Ending → World → Prop} (hc:Calls P f args w Post)
    (h:∀ e w1,Post e w1 → ∃ v,e= .returned v ∧ wpList P ops Q rest (a.put d v) w1):wpList P ops Q (o::rest) a w:=by
  subst hd
  refine wpList_plain hg fun K hK=> ?_
  unfold Oper.wp
  rw [hrun,Oper.upon_enter]
  refine hc.mono fun e w1 hp=> ?_
  obtain ⟨v,rfl,hw⟩:=h e w1 hp
  exact hK _ _ hw
end
end Go.Proofs.Ytlogocmojnhpbaa.Print
end
section
namespace Go.Proofs.Ytlogocmojnhpbaa.Print
open Go.RowKit Go.Proofs.YtlogocmojnhpbaaW.PrintWords Go.Proofs.YtlogocmojnhpbaaW.PrintLast
set_option linter.unusedVariables false
set_option linter.unusedSimpArgs false
set_option maxHeartbeats 8000000 in
set_option maxRecDepth 100000 in
theorem hashS.fill (m:List Int) (g0 cap0 n0:Nat) (w wr:World) {u0 u1 u2 u4 u5 u6 u7 u8 u9 u10 u11 u12 u13 u14 u15 u16 u17 u18 u19 u20 u21 u22 u23 u24 u25 u26 u27 u28 u29 u30 u31 u32 u33 u34 u35 u36 u37 u38 u39 u40 u41 u42 u43 u44 u45 u46 u47 u48 u49 u50 u51 u52 u53 u54 u55 u56:Value} {Q:Exit → Act → World → Prop} (hn0:m.length=n0) (hl:m.length + 136 ≤ 140737488355328) (hr:MRow wr g0 cap0 m) (hg0:w.heap.size ≤ g0) (hb:Below w.heap.size w wr)
    (hexit:∀ (a':Act) (w':World) (g cap n:Nat),n=m.length + kGap m.length → MRow w' g cap (kFill m (kGap m.length)) → w.heap.size ≤ g → Below w.heap.size w w' → (∃ z12 z13 z14 z15 z16 z17 z18:Value,a'=⟨List.toArray (u0::u1::u2::Value.slice (some ⟨g,0,none⟩) n cap::u4::u5::u6::u7::u8::u9::u10::u11::z12::z13::z14::z15::z16::z17::z18::u19::u20::u21::u22::u23::u24::u25::u26::u27::u28::u29::u30::u31::u32::u33::u34::u35::u36::u37::u38::u39::u40::u41::u42::u43::u44::u45::u46::u47::u48::u49::u50::u51::u52::u53::u54::u55::u56:: []), []⟩) → Q (.exit 0) a' w'):
    Code.wp Try.prog (nthLoop Try.f87.body 0) Q ⟨List.toArray (u0::u1::u2::Value.slice (some ⟨g0,0,none⟩) n0 cap0::u4::u5::u6::u7::u8::u9::u10::u11::u12::u13::u14::u15::u16::u17::u18::u19::u20::u21::u22::u23::u24::u25::u26::u27::u28::u29::u30::u31::u32::u33::u34::u35::u36::u37::u38::u39::u40::u41::u42::u43::u44::u45::u46::u47::u48::u49::u50::u51::u52::u53::u54::u55::u56:: []), []⟩ wr:=by
  conv=> arg 2;whnf
  have HN0:=Aside0.mk hn0
  have HR:=Aside0.mk hr
  have HG0:=Aside0.mk hg0
  have HB:=Aside0.mk hb
  have HX:=Aside0.mk hexit
  clear hn0 hr hg0 hb hexit
  go_loopg [3] (kGap m.length) (fun gg s3 w'=> ∃ (k g cap n:Nat),k ≤ kGap m.length ∧ kGap m.length - k ≤ gg ∧ s3= .slice (some ⟨g,0,none⟩) n cap ∧ Aside0 (n=m.length + k) ∧ Aside0 (MRow w' g cap (kFill m k)) ∧ Aside0 (w.heap.size ≤ g) ∧ Aside0 (Below w.heap.size w w'))
  case atStart=> exact ⟨0,g0,cap0,n0,by omega,by omega,rfl,⟨HN0.out.symm⟩,⟨by rw [kFill_zero];exact HR.out⟩,HG0,HB⟩
  case round=>
    obtain ⟨k,g,cap,n,hk,hg,rfl,HN,HK,HG,HO⟩:=hrel
    have hgap:=kGap_lt m.length
    have hnb:n ≤ 140737488355328:=by have:=HN.out;omega
    have LM:Aside0 (n + 1 ≤ 140737488355328 ∨ k=kGap m.length):=⟨by have:=HN.out;omega⟩
    have t1:((n:Int)).tmod 136=(n:Int) % 136:=Int.tmod_eq_emod_of_nonneg (by omega)
    have t2:IntKind.i64.wrap ((n:Int) % 136)=(n:Int) % 136:=by rw [IntKind.wrap_i64];omega
    by_cases hlt:k < kGap m.length
    · have d1:((n:Int) % 136==0)=false:=by
        have:=kGap_part hlt
        have:=HN.out
        exact beq_eq_false_iff_ne.2 (by omega)
      have d2:((n:Int) % 136 !=0)=true:=by rw [bne,d1];rfl
      have HS:=fun (W:World) (hW:wr.heap.size ≤ W.heap.size)=> hW
      clear hgap HS
      go_wp2_with (first|((with_reducible refine gate_builtin (b:= .append) (xs:= #[.tmp 16,.tmp 17]) rfl ?_);at_builtin;refine M_append (w0:=w) w.heap.size rfl (.tmp 16) (.tmp 17) rfl g cap n (kFill m k) 0 (by rw [kFill_length];exact HN.out.symm) rfl rfl ?aM HG.out ?aB ?aS (by have:=LM.out;omega) ?_;(case aM=> exact HK.out);(case aB=> exact HO.out);(case aS=> exact below_size HO.out);intro g1 cap1 w10 hm hg1 hb1;rw [kFill_succ] at hm;have n0_:=Aside0.mk hm;have n1_:=Aside0.mk hg1;have n2_:=Aside0.mk hb1;clear hm hg1 hb1))
      go_roundg (kGap m.length - (k + 1))
      case measure=> omega
      case rel=> exact ⟨k + 1,_,_,_,by omega,by omega,rfl,⟨by have:=HN.out;omega⟩,n0_,n1_,n2_⟩
    · have e:k=kGap m.length:=by omega
      subst e
      have d1:((n:Int) % 136==0)=true:=by
        have:=kGap_whole m.length
        have:=HN.out
        exact beq_iff_eq.2 (by omega)
      have d2:((n:Int) % 136 !=0)=false:=by rw [bne,d1];rfl
      go_wp2
      exact HX.out _ _ g cap n HN.out HK.out HG.out HO.out ⟨_,_,_,_,_,_,_,rfl⟩
set_option maxHeartbeats 8000000 in
set_option maxRecDepth 100000 in
theorem hashI.fill (m:List Int) (g0 cap0 n0:Nat) (w wr:World) {u0 u1 u2 u4 u5 u6 u7 u8 u9 u10 u11 u12 u13 u14 u15 u16 u17 u18 u19 u20 u21 u22 u23 u24 u25 u26 u27 u28 u29 u30 u31 u32 u33 u34 u35 u36 u37 u38 u39 u40 u41 u42 u43 u44 u45 u46 u47 u48 u49 u50 u51 u52 u53 u54 u55 u56 u57 u58 u59 u60 u61:Value} {Q:Exit → Act → World → Prop} (hn0:m.length=n0) (hl:m.length + 136 ≤ 140737488355328) (hr:MRow wr g0 cap0 m) (hg0:w.heap.size ≤ g0) (hb:Below w.heap.size w wr)
    (hexit:∀ (a':Act) (w':World) (g cap n:Nat),n=m.length + kGap m.length → MRow w' g cap (kFill m (kGap m.length)) → w.heap.size ≤ g → Below w.heap.size w w' → (∃ z23 z24 z25 z26 z27 z28 z29:Value,a'=⟨List.toArray (u0::u1::u2::Value.slice (some ⟨g,0,none⟩) n cap::u4::u5::u6::u7::u8::u9::u10::u11::u12::u13::u14::u15::u16::u17::u18::u19::u20::u21::u22::z23::z24::z25::z26::z27::z28::z29::u30::u31::u32::u33::u34::u35::u36::u37::u38::u39::u40::u41::u42::u43::u44::u45::u46::u47::u48::u49::u50::u51::u52::u53::u54::u55::u56::u57::u58::u59::u60::u61:: []), []⟩) → Q (.exit 2) a' w'):
    Code.wp Try.prog (nthLoop Try.f88.body 1) Q ⟨List.toArray (u0::u1::u2::Value.slice (some ⟨g0,0,none⟩) n0 cap0::u4::u5::u6::u7::u8::u9::u10::u11::u12::u13::u14::u15::u16::u17::u18::u19::u20::u21::u22::u23::u24::u25::u26::u27::u28::u29::u30::u31::u32::u33::u34::u35::u36::u37::u38::u39::u40::u41::u42::u43::u44::u45::u46::u47::u48::u49::u50::u51::u52::u53::u54::u55::u56::u57::u58::u59::u60::u61:: []), []⟩ wr:=by
  conv=> arg 2;whnf
  have HN0:=Aside0.mk hn0
  have HR:=Aside0.mk hr
  have HG0:=Aside0.mk hg0
  have HB:=Aside0.mk hb
  have HX:=Aside0.mk hexit
  clear hn0 hr hg0 hb hexit
  go_loopg [3] (kGap m.length) (fun gg s3 w'=> ∃ (k g cap n:Nat),k ≤ kGap m.length ∧ kGap m.length - k ≤ gg ∧ s3= .slice (some ⟨g,0,none⟩) n cap ∧ Aside0 (n=m.length + k) ∧ Aside0 (MRow w' g cap (kFill m k)) ∧ Aside0 (w.heap.size ≤ g) ∧ Aside0 (Below w.heap.size w w'))
  case atStart=> exact ⟨0,g0,cap0,n0,by omega,by omega,rfl,⟨HN0.out.symm⟩,⟨by rw [kFill_zero];exact HR.out⟩,HG0,HB⟩
  case round=>
    obtain ⟨k,g,cap,n,hk,hg,rfl,HN,HK,HG,HO⟩:=hrel
    have hgap:=kGap_lt m.length
    have hnb:n ≤ 140737488355328:=by have:=HN.out;omega
    have LM:Aside0 (n + 1 ≤ 140737488355328 ∨ k=kGap m.length):=⟨by have:=HN.out;omega⟩
    have t1:((n:Int)).tmod 136=(n:Int) % 136:=Int.tmod_eq_emod_of_nonneg (by omega)
    have t2:IntKind.i64.wrap ((n:Int) % 136)=(n:Int) % 136:=by rw [IntKind.wrap_i64];omega
    by_cases hlt:k < kGap m.length
    · have d1:((n:Int) % 136==0)=false:=by
        have:=kGap_part hlt
        have:=HN.out
        exact beq_eq_false_iff_ne.2 (by omega)
      have d2:((n:Int) % 136 !=0)=true:=by rw [bne,d1];rfl
      have HS:=fun (W:World) (hW:wr.heap.size ≤ W.heap.size)=> hW
      clear hgap HS
      go_wp2_with (first|((with_reducible refine gate_builtin (b:= .append) (xs:= #[.tmp 27,.tmp 28]) rfl ?_);at_builtin;refine M_append (w0:=w) w.heap.size rfl (.tmp 27) (.tmp 28) rfl g cap n (kFill m k) 0 (by rw [kFill_length];exact HN.out.symm) rfl rfl ?aM HG.out ?aB ?aS (by have:=LM.out;omega) ?_;(case aM=> exact HK.out);(case aB=> exact HO.out);(case aS=> exact below_size HO.out);intro g1 cap1 w10 hm hg1 hb1;rw [kFill_succ] at hm;have n0_:=Aside0.mk hm;have n1_:=Aside0.mk hg1;have n2_:=Aside0.mk hb1;clear hm hg1 hb1))
      go_roundg (kGap m.length - (k + 1))
      case measure=> omega
      case rel=> exact ⟨k + 1,_,_,_,by omega,by omega,rfl,⟨by have:=HN.out;omega⟩,n0_,n1_,n2_⟩
    · have e:k=kGap m.length:=by omega
      subst e
      have d1:((n:Int) % 136==0)=true:=by
        have:=kGap_whole m.length
        have:=HN.out
        exact beq_iff_eq.2 (by omega)
      have d2:((n:Int) % 136 !=0)=false:=by rw [bne,d1];rfl
      go_wp2
      exact HX.out _ _ g cap n HN.out HK.out HG.out HO.out ⟨_,_,_,_,_,_,_,rfl⟩
end Go.Proofs.Ytlogocmojnhpbaa.Print
end
section
namespace Go.Proofs.Ytlogocmojnhpbaa.Print
open Go.RowKit Go.Proofs.YtlogocmojnhpbaaW.PrintWords Go.Proofs.YtlogocmojnhpbaaW.PrintLast
set_option linter.unusedVariables false
set_option linter.unusedSimpArgs false
set_option maxHeartbeats 8000000 in
set_option maxRecDepth 100000 in
theorem hashS.xor (ga gx:Nat) (a x:List Int) (wr:World) {u0 u1 u2 u3 u5 u8 u9 u10 u11 u12 u13 u14 u15 u16 u17 u18 u19 u20 u21 u22 u23 u24 u25 u26 u27 u28 u29 u30 u31 u32 u33 u34 u35 u36 u37 u38 u39 u40 u41 u42 u43 u44 u45 u46 u47 u48 u49 u50 u51 u52 u53 u54 u55 u56:Value} {Q:Exit → Act → World → Prop} (ha:a.length=25) (hx:x.length=25) (hne:gx ≠ ga) (hb:Arr wr ga 93 .u64 a) (hc:Arr wr gx 93 .u64 x)
    (hexit:∀ (a':Act) (w':World),Arr w' ga 93 .u64 (kXor a x 25) → Moved wr w' (fun i=> i=ga) → (∃ z7 z41 z42 z43 z44 z45 z46 z47 z48 z49 z50 z51 z52:Value,a'=⟨List.toArray (u0::u1::u2::u3::Value.pointer (some ⟨ga,0,none⟩)::u5::Value.pointer (some ⟨gx,0,none⟩)::z7::u8::u9::u10::u11::u12::u13::u14::u15::u16::u17::u18::u19::u20::u21::u22::u23::u24::u25::u26::u27::u28::u29::u30::u31::u32::u33::u34::u35::u36::u37::u38::u39::u40::z41::z42::z43::z44::z45::z46::z47::z48::z49::z50::z51::z52::u53::u54::u55::u56:: []), []⟩) → Q (.exit 4) a' w'):
    Code.wp Try.prog (nthLoop Try.f87.body 2) Q ⟨List.toArray (u0::u1::u2::u3::Value.pointer (some ⟨ga,0,none⟩)::u5::Value.pointer (some ⟨gx,0,none⟩)::Value.int .i64 0::u8::u9::u10::u11::u12::u13::u14::u15::u16::u17::u18::u19::u20::u21::u22::u23::u24::u25::u26::u27::u28::u29::u30::u31::u32::u33::u34::u35::u36::u37::u38::u39::u40::u41::u42::u43::u44::u45::u46::u47::u48::u49::u50::u51::u52::u53::u54::u55::u56:: []), []⟩ wr:=by
  conv=> arg 2;whnf
  have HB:=Aside0.mk hb
  have HC:=Aside0.mk hc
  have HX:=Aside0.mk hexit
  clear hb hexit hc
  go_loopg [7] 25 (fun gg s7 w'=> ∃ k:Nat,k ≤ 25 ∧ 25 - k ≤ gg ∧ s7= .int .i64 k ∧ Aside0 (Arr w' ga 93 .u64 (kXor a x k)) ∧ Aside0 (Moved wr w' (fun i=> i=ga)))
  case atStart=> exact ⟨0,by omega,by omega,rfl,HB,⟨Moved.refl _ _⟩⟩
  case round=>
    obtain ⟨k,hk,hg,rfl,HK,HO⟩:=hrel
    by_cases hlt:k < 25
    · have hltz:(k:Int) < 25:=by omega
      have h0z:(0:Int) ≤ (k:Int):=by omega
      have HG:=HC.out.moved HO.out (fun e=> hne e)
      have q0:=HK.out.cell k (by rw [kXor_length];omega)
      have f0:=HK.out.frozen k
      have q1:=HG.cell k (by omega)
      clear hlt
      go_wp2
      refine wp_region_still_tail 8 (by kernel_rfl) (by kernel_rfl) ?_
      show wpStill _ _ (World.drew _) (fun a'=> wpList _ _ _ _ a' (World.drew _)) _ _
      simp only [List.take_succ_cons,List.take_zero,List.drop_succ_cons,List.drop_zero]
      repeat still_step
      refine wpStill_nil ?_
      go_wp2
      go_roundg (25 - (k + 1))
      case measure=> omega
      case rel=> exact ⟨k + 1,by omega,by omega,by go_num,⟨(HK.out.drew).set k _⟩,⟨(HO.out.drew).set ga _ _ (.inl rfl)⟩⟩
    · have hk25:k=25:=by omega
      subst hk25
      go_wp2
      exact HX.out _ _ HK.out HO.out ⟨_,_,_,_,_,_,_,_,_,_,_,_,_,rfl⟩
set_option maxHeartbeats 8000000 in
set_option maxRecDepth 100000 in
theorem hashI.xor (ga:Nat) (V:Value) (a x:List Int) (wr:World) {u0 u1 u2 u3 u4 u5 u7 u8 u9 u10 u11 u12 u13 u14 u15 u16 u17 u18 u19 u20 u21 u22 u23 u24 u25 u26 u27 u28 u29 u30 u31 u32 u33 u34 u35 u36 u37 u38 u39 u40 u41 u42 u43 u44 u45 u48 u49 u50 u51 u52 u53 u54 u55 u56 u57 u58 u59 u60 u61:Value} {Q:Exit → Act → World → Prop} (ha:a.length=25) (hV:∀ (j:Nat) (w:World),j < 25 → (Instr.index 96 V (.int .i64 (j:Int))).run Try.prog w= .ok (.int .u64 (x.getD j 0)) w) (hb:Arr wr ga 96 .u64 a)
    (hexit:∀ (a':Act) (w':World),Arr w' ga 96 .u64 (kXor a x 25) → Moved wr w' (fun i=> i=ga) → (∃ z7 z8 z47 z48 z49 z50 z51 z52 z53 z54 z55 z56 z57:Value,a'=⟨List.toArray (u0::u1::u2::u3::u4::u5::Value.pointer (some ⟨ga,0,none⟩)::z7::z8::u9::u10::u11::u12::u13::u14::u15::u16::u17::u18::u19::u20::u21::u22::u23::u24::u25::u26::u27::u28::u29::u30::u31::u32::u33::u34::u35::u36::u37::u38::u39::u40::u41::u42::u43::u44::u45::V::z47::z48::z49::z50::z51::z52::z53::z54::z55::z56::z57::u58::u59::u60::u61:: []), []⟩) → Q (.exit 6) a' w'):
    Code.wp Try.prog (nthLoop Try.f88.body 3) Q ⟨List.toArray (u0::u1::u2::u3::u4::u5::Value.pointer (some ⟨ga,0,none⟩)::u7::u8::u9::u10::u11::u12::u13::u14::u15::u16::u17::u18::u19::u20::u21::u22::u23::u24::u25::u26::u27::u28::u29::u30::u31::u32::u33::u34::u35::u36::u37::u38::u39::u40::u41::u42::u43::u44::u45::V::Value.int .i64 0::u48::u49::u50::u51::u52::u53::u54::u55::u56::u57::u58::u59::u60::u61:: []), []⟩ wr:=by
  conv=> arg 2;whnf
  have HB:=Aside0.mk hb
  have HV:=Aside0.mk hV
  have HX:=Aside0.mk hexit
  clear hb hexit hV
  go_loopg [47] 25 (fun gg s47 w'=> ∃ k:Nat,k ≤ 25 ∧ 25 - k ≤ gg ∧ s47= .int .i64 k ∧ Aside0 (Arr w' ga 96 .u64 (kXor a x k)) ∧ Aside0 (Moved wr w' (fun i=> i=ga)))
  case atStart=> exact ⟨0,by omega,by omega,rfl,HB,⟨Moved.refl _ _⟩⟩
  case round=>
    obtain ⟨k,hk,hg,rfl,HK,HO⟩:=hrel
    by_cases hlt:k < 25
    · have hltz:(k:Int) < 25:=by omega
      have h0z:(0:Int) ≤ (k:Int):=by omega
      have q0:=HK.out.cell k (by rw [kXor_length];omega)
      have f0:=HK.out.frozen k
      have hv:=fun w=> HV.out k w hlt
      clear hlt
      go_wp2
      go_roundg (25 - (k + 1))
      case measure=> omega
      case rel=> exact ⟨k + 1,by omega,by omega,by go_num,⟨HK.out.set k _⟩,⟨HO.out.set ga _ _ (.inl rfl)⟩⟩
    · have hk25:k=25:=by omega
      subst hk25
      go_wp2
      exact HX.out _ _ HK.out HO.out ⟨_,_,_,_,_,_,_,_,_,_,_,_,_,rfl⟩
end Go.Proofs.Ytlogocmojnhpbaa.Print
end
section
namespace Go.Proofs.Ytlogocmojnhpbaa.Print
open Go.RowKit Go.Proofs.YtlogocmojnhpbaaW.PrintWords Go.Proofs.YtlogocmojnhpbaaW.PrintLast
set_option linter.unusedVariables false
set_option linter.unusedSimpArgs false
set_option maxHeartbeats 8000000 in
set_option maxRecDepth 100000 in
theorem hashS.blocks (m:List Int) (g cap L ga nb:Nat) (wr':World) {u0 u1 u2 u6 u7 u8 u9 u10 u11 u12 u13 u14 u15 u16 u17 u18 u19 u20 u21 u22 u23 u24 u25 u26 u27 u28 u29 u30 u31 u32 u33 u34 u35 u36 u37 u38 u39 u40 u41 u42 u43 u44 u45 u46 u47 u48 u49 u50 u51 u52 u53 u54 u55 u56:Value} {Q:Exit → Act → World → Prop} (hm:m.length=L) (hnb:L=136 * nb) (hL:L ≤ 140737488355328) (hin:AllB m) (hne:g ≠ ga) (hr:MRow wr' g cap m) (hb:Arr wr' ga 93 .u64 (kSp m 0))
    (hexit:∀ (a':Act) (w':World),Arr w' ga 93 .u64 (kSp m nb) → Moved wr' w' (fun i=> i=ga) → (∃ z5 z6 z7 z28 z29 z30 z31 z32 z33 z34 z35 z36 z37 z38 z39 z40 z41 z42 z43 z44 z45 z46 z47 z48 z49 z50 z51 z52 z53 z54:Value,a'=⟨List.toArray (u0::u1::u2::Value.slice (some ⟨g,0,none⟩) L cap::Value.pointer (some ⟨ga,0,none⟩)::z5::z6::z7::u8::u9::u10::u11::u12::u13::u14::u15::u16::u17::u18::u19::u20::u21::u22::u23::u24::u25::u26::u27::z28::z29::z30::z31::z32::z33::z34::z35::z36::z37::z38::z39::z40::z41::z42::z43::z44::z45::z46::z47::z48::z49::z50::z51::z52::z53::z54::u55::u56:: []), []⟩) → Q (.exit 2) a' w'):
    Code.wp Try.prog (nthLoop Try.f87.body 1) Q ⟨List.toArray (u0::u1::u2::Value.slice (some ⟨g,0,none⟩) L cap::Value.pointer (some ⟨ga,0,none⟩)::Value.int .i64 0::u6::u7::u8::u9::u10::u11::u12::u13::u14::u15::u16::u17::u18::u19::u20::u21::u22::u23::u24::u25::u26::u27::u28::u29::u30::u31::u32::u33::u34::u35::u36::u37::u38::u39::u40::u41::u42::u43::u44::u45::u46::u47::u48::u49::u50::u51::u52::u53::u54::u55::u56:: []), []⟩ wr':=by
  conv=> arg 2;whnf
  have HM:=Aside0.mk hm
  have HNB:=Aside0.mk hnb
  have HI:=Aside0.mk hin
  have HR:=Aside0.mk hr
  have HB:=Aside0.mk hb
  have HX:=Aside0.mk hexit
  clear hm hnb hin hr hb hexit
  go_loopg [5] nb (fun gg s5 w'=> ∃ k q:Nat,k ≤ nb ∧ nb - k ≤ gg ∧ s5= .int .i64 q ∧ Aside0 (q=136 * k) ∧ Aside0 (Arr w' ga 93 .u64 (kSp m k)) ∧ Aside0 (Moved wr' w' (fun i=> i=ga)))
  case atStart=> exact ⟨0,0,by omega,by omega,rfl,⟨rfl⟩,HB,⟨Moved.refl _ _⟩⟩
  case round=>
    obtain ⟨k,q,hk,hg,rfl,HQ,HK,HO⟩:=hrel
    by_cases hlt:k < nb
    · have hq:q + 136 ≤ L:=by have:=HQ.out;have:=HNB.out;omega
      have hqz:(q:Int) < (L:Int):=by omega
      have hqw:(q:Int) + 136 ≤ 140737488355328:=by omega
      have HRW:=HR.out.moved HO.out (fun e=> hne e)
      have hcap:L ≤ cap:=by
        obtain ⟨cur,fz,_,_,h1,_⟩:=HRW
        rw [HM.out] at h1
        exact h1
      have HC:=HRW.part q 136 (by rw [HM.out];exact hq)
      have hsl:=fun w=> slice_block g L cap q hq hcap w
      have hcv:=Kd.C_string (P:=Try.prog) (dst:=9) (c:=cap - q) Try.underlying25 Try.underlying5 Try.underlying9 HC
      have hBl:kBlock m k=(m.drop q).take 136:=by rw [HQ.out];rfl
      rw [← hBl] at hcv
      have hBn:(kBlock m k).length=136:=kBlock_length (n:=nb) (by rw [HM.out];exact HNB.out) hlt
      have hBi:=bytesOf_strOfNums (kBlock_in HI.out k)
      have L1:=lanesS.calls (strOfNums (kBlock m k)) wr (by rw [strOfNums_size,hBn];omega)
      rw [hBi,strOfNums_size,hBn] at L1
      have hps:(nums .u64 (kLanes (kBlock m k) 136)).toArray.size=25:=by simp [nums,kLanes_length]
      have hone:(nums .u64 (kLanes (kBlock m k) 136)).toArray.all (·.oneCell')=true:=by simp [nums,Value.oneCell']
      generalize strOfNums (kBlock m k)=B at hcv L1
      have hPP:(nums .u64 (kLanes (kBlock m k) 136)).toArray=(nums .u64 (kLanes (kBlock m k) 136)).toArray:=rfl
      generalize hPP:(nums .u64 (kLanes (kBlock m k) 136)).toArray=P1 at L1 hps hone
      have HL1:=Aside0.mk L1
      have HP:=Aside0.mk hPP
      clear hBl hBn hBi HC hPP
      have hst:=fun W:World=> run_storeCells_new (P:=Try.prog) W 93 #[Value.int .u64 0,Value.int .u64 0,Value.int .u64 0,Value.int .u64 0,Value.int .u64 0,Value.int .u64 0,Value.int .u64 0,Value.int .u64 0,Value.int .u64 0,Value.int .u64 0,Value.int .u64 0,Value.int .u64 0,Value.int .u64 0,Value.int .u64 0,Value.int .u64 0,Value.int .u64 0,Value.int .u64 0,Value.int .u64 0,Value.int .u64 0,Value.int .u64 0,Value.int .u64 0,Value.int .u64 0,Value.int .u64 0,Value.int .u64 0,Value.int .u64 0] P1 (by rw [hps];kernel_rfl) (by rw [hps];rfl) hone
      clear L1 hone
      have hps:=Aside0.mk hps
      go_upto_region 9 with fail
      apply wp_region_lit
      go_wp2_with (go_at_call 82;refine HL1.out.mono ?_;rintro e w1 ⟨rfl,hb1⟩)
      have AX:Arr (w1.alloc (.cells P1 93)) w1.heap.size 93 .u64 (kLanes (kBlock m k) 136):=by unfold Arr;rw [HP.out];exact blk_new _ _
      have AG:Arr (w1.alloc (.cells P1 93)) ga 93 .u64 (kSp m k):=Arr.alloc ((hb1.block ga HK.out.lt).trans HK.out) _
      have MV:Moved wr' (w1.alloc (.cells P1 93)) (fun i=> i=ga):=(HO.out.trans (Moved.of_below hb1)).alloc _
      have hgx:w1.heap.size ≠ ga:=by have:=HK.out.lt;have:=hb1.size;omega
      clear hb1 HK HO hst hsl hcv HRW HP
      generalize w1.alloc (.cells P1 93)=W1 at AX AG MV ⊢
      generalize w1.heap.size=gx at AX hgx ⊢
      have hl:=kSp_length m k
      have MV:=Aside0.mk MV
      refine hashS.xor ga gx (kSp m k) (kLanes (kBlock m k) 136) W1 hl (kLanes_length _ _) hgx AG AX ?_
      intro a2 W2 S2 m2 hz
      obtain ⟨y7,hz⟩:=hz
      obtain ⟨y41,hz⟩:=hz
      obtain ⟨y42,hz⟩:=hz
      obtain ⟨y43,hz⟩:=hz
      obtain ⟨y44,hz⟩:=hz
      obtain ⟨y45,hz⟩:=hz
      obtain ⟨y46,hz⟩:=hz
      obtain ⟨y47,hz⟩:=hz
      obtain ⟨y48,hz⟩:=hz
      obtain ⟨y49,hz⟩:=hz
      obtain ⟨y50,hz⟩:=hz
      obtain ⟨y51,hz⟩:=hz
      obtain ⟨y52,hz⟩:=hz
      subst hz
      have MV:=MV.out.trans m2
      have hX:(kXor (kSp m k) (kLanes (kBlock m k) 136) 25).length=25:=by rw [kXor_length];exact hl
      have hsp:=kSp_spec m k
      generalize kXor (kSp m k) (kLanes (kBlock m k) 136) 25=X at S2 hX hsp
      clear m2 AG AX
      have hsX:(nums .u64 X).toArray.size=25:=by simp [nums,hX]
      have hsY:(nums .u64 (sPerm X 24)).toArray.size=25:=by simp [nums,sPerm_length,hX]
      have hone:(nums .u64 (sPerm X 24)).toArray.all (·.oneCell')=true:=by simp [nums,Value.oneCell']
      go_upto_region 14 with fail
      apply wp_region_lit
      refine wpList_load_row rfl 93 _ rfl ga rfl 93 _ (0,0) _ S2 Try.underlying93 rfl (by rw [hsX];kernel_rfl) ?_
      refine wpList_callStep rfl (some 54) rfl 81 #[.agg (nums .u64 X).toArray] (by kernel_rfl) (permS.calls X W2 hX) ?_
      rintro e W3 ⟨rfl,hb3⟩
      refine ⟨_,rfl,?_⟩
      have S3:Arr W3 ga 93 .u64 X:=(hb3.block ga S2.lt).trans S2
      have MV:=MV.trans (Moved.of_below (p:=fun i=> i=ga) hb3)
      refine wpList_store_rowTo rfl 93 _ _ rfl rfl ga (nums .u64 (sPerm X 24)).toArray (by kernel_rfl) (by kernel_rfl) 93 _ S3 (by rw [hsY];kernel_rfl) (by rw [hsX,hsY]) hone ?_
      have AF:Arr (W3.setRow ga (nums .u64 (sPerm X 24)).toArray) ga 93 .u64 (kSp m (k + 1)):=by rw [hsp];exact setRow_heap W3 ga _ (nums .u64 (sPerm X 24)).toArray 93 (0,0) S3
      have MV:=MV.setRow ga (nums .u64 (sPerm X 24)).toArray (.inl rfl)
      clear hsp hsX hsY hone S2 S3 hb3 hX hl
      generalize W3.setRow ga (nums .u64 (sPerm X 24)).toArray=W4 at AF MV ⊢
      refine wpList_frame (a':=⟨List.toArray (u0::u1::u2::Value.slice (some ⟨g,0,none⟩) L cap::Value.pointer (some ⟨ga,0,none⟩)::Value.int .i64 (q:Int)::Value.pointer (some ⟨gx,0,none⟩)::y7::u8::u9::u10::u11::u12::u13::u14::u15::u16::u17::u18::u19::u20::u21::u22::u23::u24::u25::u26::u27::Value.int .i64 (q:Int)::Value.slice (some ⟨g,0,none⟩) L cap::Value.int .i64 (L:Int)::Value.bool true::u32::u33::Value.slice (some ⟨g,0,none⟩) L cap::Value.int .i64 (q:Int)::Value.int .i64 (q:Int)::Value.int .i64 ((q:Int) + 136)::Value.slice (some ⟨g,q,none⟩) 136 (cap - q)::Value.string B::Value.agg P1::y41::y42::y43::y44::y45::y46::y47::y48::y49::y50::y51::y52::Value.agg (nums .u64 X).toArray::Value.agg (nums .u64 (sPerm X 24)).toArray::u55::u56:: []), []⟩) (by kernel_rfl) ?_
      apply wpList_nil
      have AF:=Aside0.mk AF
      have MV:=Aside0.mk MV
      go_wp2
      go_roundg (nb - (k + 1))
      case measure=> omega
      case rel=> exact ⟨k + 1,q + 136,by omega,by omega,by go_num,⟨by have:=HQ.out;omega⟩,AF,MV⟩
    · have e:k=nb:=by omega
      subst e
      have hq:q=L:=by have:=HQ.out;have:=HNB.out;omega
      have hqz:¬ ((q:Int) < (L:Int)):=by omega
      go_wp2
      exact HX.out _ _ HK.out HO.out ⟨_,_,_,_,_,_,_,_,_,_,_,_,_,_,_,_,_,_,_,_,_,_,_,_,_,_,_,_,_,_,rfl⟩
end Go.Proofs.Ytlogocmojnhpbaa.Print
end
