-- Packed by a program of this session (slim.py): the plain laws that FnKeccak needs.
import Derived.Test.YtlogocmojnhpbaaK0
import Derived.Test.YtlogocmojnhpbaaK1
import Derived.Test.YtlogocmojnhpbaaK2
import Derived.Test.YtlogocmojnhpbaaK3
import Derived.Test.YtlogocmojnhpbaaK4
import Derived.Test.YtlogocmojnhpbaaQFnKeccak0
import Derived.Test.YtlogocmojnhpbaaQFnKeccak1
import Derived.Test.YtlogocmojnhpbaaP0
section
namespace Go.Proofs.Ytlogocmojnhpbaa.Pure
open Go.RowKit Go.Proofs.Ytlogocmojnhpbaa.Print Go.Proofs.YtlogocmojnhpbaaW.PrintWords Go.Proofs.YtlogocmojnhpbaaW.PrintLast
theorem take_set {α:Type} (l:List α) (i:Nat) (v:α) (h:i < l.length):(l.set i v).take (i + 1)=l.take i ++ [v]:=by
  rw [List.take_succ_eq_append_getElem (by simpa using h)]
  rw [List.take_set_of_le (Nat.le_refl i)]
  simp
theorem take_map_succ {α β:Type} (f:α → β) (l:List α) (z:α) (i:Nat) (h:i < l.length):(l.map f).take (i + 1)=(l.map f).take i ++ [f (l.getD i z)]:=by
  rw [List.take_succ_eq_append_getElem (by simpa using h)]
  simp [List.getD_eq_getElem?_getD,List.getElem?_eq_getElem h]
theorem wrap_small {x:Int} (h0:-9223372036854775808 ≤ x) (h1:x ≤ 9223372036854775807):wrap64 x=x:=by unfold wrap64;omega
theorem ev_val {α:Type} {g:Nat → Option α} {a b:α} (h:Ev g a) (e:a=b):Ev g b:=e ▸ h
theorem ev_bind {α β:Type} {g:Nat → Option α} {f:Nat → α → Option β} {a:α} {r:β} (h:Ev g a) (k:Ev (fun n=> f n a) r):Ev (fun n=> (g n).bind (f n)) r:=Ev.bind h k
theorem ev_const {α:Type} {o:Option α} {r:α} (h:o=some r):Ev (fun _=> o) r:=by subst h;exact Ev.now r
theorem ev_cbind {α β:Type} {o:Option α} {f:Nat → α → Option β} {a:α} {r:β} (h:o=some a) (k:Ev (fun n=> f n a) r):Ev (fun n=> o.bind (f n)) r:=by subst h;exact k
theorem ev_pos {α:Type} {c:Prop} [Decidable c] {g f:Nat → Option α} {r:α} (h:c) (k:Ev g r):Ev (fun n=> if c then g n else f n) r:=by simpa only [if_pos h] using k
theorem ev_neg {α:Type} {c:Prop} [Decidable c] {g f:Nat → Option α} {r:α} (h:¬ c) (k:Ev f r):Ev (fun n=> if c then g n else f n) r:=by simpa only [if_neg h] using k
theorem rd_natCast (xs:List Int) (i:Nat):rd xs (i:Int)=xs.getD i 0:=by simp [rd]
end Go.Proofs.Ytlogocmojnhpbaa.Pure
end
section
namespace Go.Proofs.Ytlogocmojnhpbaa.Pure
open Go Go.RowKit Go.Proofs.Ytlogocmojnhpbaa.Print Go.Proofs.YtlogocmojnhpbaaW.PrintWords Go.Proofs.YtlogocmojnhpbaaW.PrintLast Go.Proofs.YtlogocmojnhpbaaW.PrintMore
set_option linter.unusedSimpArgs false
set_option linter.unusedVariables false
theorem hash_text_l (s:ByteArray) (hs:(s.size:Int) ≤ 1048576):∀ (k:Nat) (xs:List Int) (i:Int),0 ≤ i → impl_HashText.l0 k s xs (s.size:Int) i=spec_HashText.l0 k s xs i:=by
  intro k
  induction k with
  |zero=> intro xs i _;rfl
  |succ k ih=>
    intro xs i hi
    rw [impl_HashText.l0,spec_HashText.l0]
    by_cases h:i < (s.size:Int)
    · simp only [if_pos h,if_pos hi]
      have hx:∀ ys,(0:Int) ≤ wrap64 (i + 1) → impl_HashText.l0 k s ys (s.size:Int) (wrap64 (i + 1))=spec_HashText.l0 k s ys (wrap64 (i + 1)):=fun ys h0=> ih ys _ h0
      have h1:(0:Int) ≤ wrap64 (i + 1):=by unfold wrap64;omega
      simp only [hx _ h1]
    · simp only [if_neg h]
theorem impl_hash_text (k:Nat) (s:ByteArray) (hs:(s.size:Int) ≤ 1048576):impl_HashText.f k s=spec_HashText.f k s:=by
  unfold impl_HashText.f spec_HashText.f impl_isLong.f impl_isHash.f
  simp only [Option.bind_some,decide_eq_true_eq,beq_iff_eq]
  rw [hash_text_l s hs k [] 0 (by omega)]
theorem and15_range (b:Int) (h0:0 ≤ b) (h1:b ≤ 255):0 ≤ Go.bits .and .u8 b 15 ∧ Go.bits .and .u8 b 15 < 16:=by
  have h:=bits_mask .u8 8 (by decide) (fun n h0 h1=> by rw [show (2:Int) ^ 8=256 by decide] at h1;rw [IntKind.wrap_u8];omega) 4 (by decide) b h0 (by rw [show (2:Int) ^ 8=256 by decide];omega)
  rw [show ((2:Int) ^ 4 - 1)=15 by decide,show ((2:Int) ^ 4)=16 by decide] at h
  rw [h]
  omega
theorem hash_text_some (s:ByteArray) (hs:(s.size:Int)=32) (d:Nat):∀ (k:Nat) (xs:List Int) (i:Int),0 ≤ i → i + d=32 → d < k → (xs.length:Int)=2 * i → ∃ r,spec_HashText.l0 k s xs i=some (r,0):=by
  induction d with
  |zero=>
    intro k xs i h0 h1 hk hl
    obtain ⟨k,rfl⟩:∃ m,k=m + 1:=⟨k - 1,by omega⟩
    exact ⟨_,by rw [spec_HashText.l0,if_neg (by omega)]⟩
  |succ d ih=>
    intro k xs i h0 h1 hk hl
    obtain ⟨k,rfl⟩:∃ m,k=m + 1:=⟨k - 1,by omega⟩
    have hb:=bt_range s i
    have ha:=and15_range (bt s i) hb.1 hb.2
    rw [spec_HashText.l0,if_pos (by omega),if_pos h0,if_pos (by omega),if_pos (by omega),if_pos ha.1,if_pos ha.2]
    simp only [Option.bind_some]
    rw [if_pos (by simp;omega),show wrap64 (i + 1)=i + 1 by unfold wrap64;omega]
    exact ih k _ (i + 1) (by omega) (by omega) (by omega) (by simp;omega)
theorem byte_wfK {x:Int} (h:(Lit.int .u8 x).wf=true):0 ≤ x ∧ x ≤ 255:=by
  simp [Lit.wf,IntKind.min,IntKind.max,IntKind.signed,IntKind.bits] at h
  omega
theorem spec_keccak_f {l:List Int} (hb:AllB l) (h:¬ (l.length:Int) > 65536):spec_Keccak256.f l=some (strOfNums (kHash l)):=by
  unfold spec_Keccak256.f
  rw [if_neg h]
  unfold spec_l03Hash.f
  rw [if_pos (by rw [strOfNums_size];omega)]
  unfold hashT
  rw [bytesOf_strOfNums hb]
  rfl
theorem impl_keccak_f {l:List Int} (hb:AllB l) (h:¬ (l.length:Int) > 65536):impl_Keccak256.f l=some (strOfNums (kHash l)):=by
  unfold impl_Keccak256.f
  rw [if_pos (okBytes_of hb),if_neg h]
theorem impl_keccak_long {l:List Int} (hb:AllB l) (h:(l.length:Int) > 65536):impl_Keccak256.f l=some (⟨#[]⟩:ByteArray):=by
  unfold impl_Keccak256.f
  rw [if_pos (okBytes_of hb),if_pos h]
theorem hash_both (t:ByteArray) (h:t.size=32):∃ x,Ev (fun k=> impl_HashText.f k t) (x,0) ∧ Ev (fun k=> spec_HashText.f k t) (x,0):=by
  obtain ⟨r,hr⟩:=hash_text_some t (by omega) 32 40 [] 0 (by omega) (by omega) (by omega) (by rfl)
  have hs:spec_HashText.f 40 t=some (r,0):=by
    unfold spec_HashText.f
    rw [if_neg (by omega),if_pos (by omega)]
    exact hr
  exact ⟨r,Ev.of (k:=40) (impl_HashText.mono t) ((impl_hash_text 40 t (by omega)).trans hs),Ev.of (k:=40) (spec_HashText.mono t) hs⟩
theorem calls_f {n:Nat} (h:n ≤ 65536):impl_KeccakCalls.f (n:Int)=some (((n / 136 + 1:Nat):Int),0):=by
  unfold impl_KeccakCalls.f impl_in.f
  rw [if_pos (by omega),decide_eq_true (by omega)]
  simp only [Option.bind_some]
  rw [if_pos trivial,Int.tdiv_eq_ediv_of_nonneg (by omega),show wrap64 ((n:Int) / 136)=(n:Int) / 136 from wrap_small (by omega) (by omega),wrap_small (by omega) (by omega)]
  rfl
theorem or8_in (a b:Int):InB (Go.bits .or .u8 a b):=by
  have hw:∀ x:BitVec 8,IntKind.u8.wrap (x.toNat:Int)=(x.toNat:Int):=by
    intro x
    have e:IntKind.u8.wrap (x.toNat:Int)=(x.toNat:Int) % 256:=by simp [IntKind.wrap,IntKind.bits,IntKind.signed]
    have:=x.isLt
    rw [e];omega
  have e:Go.bits .or .u8 a b=(((BitVec.ofInt 8 a|||BitVec.ofInt 8 b).toNat:Nat):Int):=by
    unfold Go.bits
    show IntKind.u8.wrap (((BitVec.ofInt 8 a|||BitVec.ofInt 8 b).toNat:Nat):Int)=_
    rw [hw]
  rw [e]
  have:=(BitVec.ofInt 8 a|||BitVec.ofInt 8 b).isLt
  unfold InB
  omega
theorem kPad_in {l:List Int} (hb:AllB l):AllB (kPad l):=by
  unfold kPad kMark
  refine AllB.set ?_ _ (or8_in _ _)
  intro x hx
  unfold kFill at hx
  rcases List.mem_append.1 hx with hx|hx
  · rcases List.mem_append.1 hx with hx|hx
    · exact hb x hx
    · obtain rfl:x=1:=by simpa using hx
      exact ⟨by decide,by decide⟩
  · obtain rfl:=List.eq_of_mem_replicate hx
    exact ⟨by decide,by decide⟩
theorem kBlock_in {m:List Int} (hb:AllB m) (i:Nat):AllB (kBlock m i):=fun x hx=> hb x (List.mem_of_mem_drop (List.mem_of_mem_take hx))
theorem kBlock_get {m:List Int} {n i j:Nat} (h:m.length=136 * n) (hi:i < n) (hj:j < 136):(kBlock m i).getD j 0=m.getD (136 * i + j) 0:=by
  unfold kBlock
  rw [List.getD_eq_getElem?_getD,List.getD_eq_getElem?_getD,List.getElem?_take,if_pos hj,List.getElem?_drop]
theorem text_zero:kText (List.replicate 25 0) 200=List.replicate 200 0:=by decide +kernel
theorem permute_text {xs:List Int} (hb:AllB xs) (hl:xs.length=200):impl_Permute.f (strOfNums xs)=some (strOfNums (kText (sPerm (kLanes xs 200) 24) 200),0):=by
  unfold impl_Permute.f sPermute
  rw [strOfNums_size,hl,if_neg (by decide),if_pos (by decide),bytesOf_strOfNums hb]
section
variable {l m:List Int} {n:Nat}
theorem xor_l (hb:AllB m) (hm:m.length=136 * n) (hn:n ≤ 1000) {i:Nat} (hi:i < n) {z:Int} (t:ByteArray)
    (hnext:Ev (fun k=> laws_FnKeccak.l1 k l t m (kText (kSp m (i + 1)) 200) ((i + 1:Nat):Int) ((136 * (i + 1):Nat):Int)) true) (d:Nat):
    ∀ j:Nat,j + d=136 → Ev (fun k=> laws_FnKeccak.l2 k l t m (kXor8 (kText (kSp m i) 200) (kBlock m i) j) (i:Int) ((136 * i:Nat):Int) (j:Int)) true:=by
  have hx:=kXor8_in (text_in (kSp m i) 200) (kBlock_in hb i)
  have hlen:∀ j,(kXor8 (kText (kSp m i) 200) (kBlock m i) j).length=200:=fun j=> by rw [kXor8_length,kText_length]
  induction d with
  |zero=>
    intro j hj
    obtain rfl:j=136:=by omega
    have hp:=permute_text (hx 136) (hlen 136)
    rw [lanes_xor (kSp_length m i) (kSp_in m i) (kBlock_in hb i),← kSp_spec] at hp
    refine Ev.step (fun k=> by rw [laws_FnKeccak.l2,if_neg (by omega)]) (ev_cbind hp (ev_pos rfl (ev_pos (show ((strOfNums (kText (kSp m (i + 1)) 200)).size:Int)=200 by rw [strOfNums_size,kText_length];rfl) (ev_pos (show 200 ≤ 281474976710656 by decide) ?_))))
    refine Ev.congr (fun k=> ?_) hnext
    rw [bytesOf_strOfNums (text_in _ _),wrap_small (show -9223372036854775808 ≤ (i:Int) + 1 by omega) (by omega),wrap_small (show -9223372036854775808 ≤ ((136 * i:Nat):Int) + 136 by omega) (by omega),show ((136 * i:Nat):Int) + 136=((136 * (i + 1):Nat):Int) by omega]
    rfl
  |succ d ih=>
    intro j hj
    refine Ev.step (fun k=> ?_) (ih (j + 1) (by omega))
    have hl:=hlen j
    have hw:wrap64 (((136 * i:Nat):Int) + (j:Int))=((136 * i + j:Nat):Int):=by rw [wrap_small (by omega) (by omega)];omega
    rw [laws_FnKeccak.l2,if_pos (by omega),if_pos (by omega),if_pos (by omega),hw,if_pos (by omega),if_pos (by omega),rd_natCast,rd_natCast,← kBlock_get hm hi (show j < 136 by omega),Int.toNat_natCast,wrap_small (by omega) (by omega)]
    rfl
theorem blocks_l (hb:AllB m) (hm:m.length=136 * n) (hn:n ≤ 1000) (hl:l.length ≤ 65536) (hc:l.length / 136 + 1=n) (d:Nat):
    ∀ i:Nat,i + d=n → Ev (fun k=> laws_FnKeccak.l1 k l (strOfNums (kText (kSp m n) 32)) m (kText (kSp m i) 200) (i:Int) ((136 * i:Nat):Int)) true:=by
  induction d with
  |zero=>
    intro i hi
    obtain rfl:i=n:=by omega
    have e1:(32:Int) ≤ ((kText (kSp m i) 200).length:Int):=by rw [kText_length];omega
    have e2:(strOfNums ((kText (kSp m i) 200).take 32)).toList=(strOfNums (kText (kSp m i) 32)).toList:=by rw [kText_take _ (by omega)]
    refine Ev.step (f:=fun _=> some true) (fun k=> ?_) (Ev.now _)
    rw [laws_FnKeccak.l1,if_neg (by omega),calls_f hl]
    simp only [Option.bind_some]
    rw [if_pos e1,if_pos e2,if_pos trivial,hc]
    exact congrArg some (beq_self_eq_true _)
  |succ d ih=>
    intro i hi
    refine Ev.step (fun k=> by rw [laws_FnKeccak.l1,if_pos (by omega)]) ?_
    exact xor_l (z:=0) hb hm hn (show i < n by omega) _ (ih (i + 1) (by omega)) 136 0 (by omega)
theorem pad_l (hb:AllB l) (hl:l.length ≤ 65536) (d:Nat):∀ j:Nat,j + d=kGap (l.length + 1) → Ev (fun k=> laws_FnKeccak.l0 k l (strOfNums (kHash l)) (kFill (l ++ [1]) j)) true:=by
  have hgl:=kGap_lt (l.length + 1)
  have hgw:=kGap_whole (l.length + 1)
  have hlen:∀ j,(kFill (l ++ [1]) j).length=l.length + 1 + j:=fun j=> by rw [kFill_length];simp
  induction d with
  |zero=>
    intro j hj
    obtain rfl:j=kGap (l.length + 1):=by omega
    have h0:=hlen (kGap (l.length + 1))
    have hw:wrap64 (((kFill (l ++ [1]) (kGap (l.length + 1))).length:Int) - 1)=(((kFill (l ++ [1]) (kGap (l.length + 1))).length - 1:Nat):Int):=by rw [wrap_small (by omega) (by omega)];omega
    refine Ev.step (fun k=> by rw [laws_FnKeccak.l0,if_pos (by omega),hw,if_pos (by omega),if_pos (by omega),if_pos (by decide),rd_natCast,Int.toNat_natCast]) ?_
    have hp:=kPad_length l
    have hm:(kPad l).length=136 * ((kPad l).length / 136):=by have:=kPad_whole l;omega
    have h:=blocks_l (l:=l) (m:=kPad l) (n:=(kPad l).length / 136) (kPad_in hb) hm (by omega) hl (by unfold kGap at *;omega) ((kPad l).length / 136) 0 (by omega)
    refine Ev.congr (fun k=> ?_) h
    rw [show kText (kSp (kPad l) 0) 200=List.replicate 200 0 from text_zero]
    rfl
  |succ d ih=>
    intro j hj
    have h0:=hlen j
    have hk:=kGap_part (show j < kGap (l.length + 1) by omega)
    refine Ev.step (fun k=> by rw [laws_FnKeccak.l0,if_neg (by omega),if_pos (by omega),kFill_succ]) (ih (j + 1) (by omega))
end
theorem FnKeccak:laws_FnKeccak.Pure:=by
  intro l hm _ hw
  refine Ev.rounds (g:=fun k=> laws_FnKeccak.f k l) ?_
  unfold laws_FnKeccak.f
  by_cases h:(l.length:Int) > 1048576
  · exact ev_pos h (Ev.now _)
  have hb:AllB l:=fun x hx=> by have:=byte_wfK (hw x hx);unfold InB;omega
  refine ev_neg h ?_
  by_cases h2:(l.length:Int) > 65536
  · exact ev_pos h2 (ev_cbind (impl_keccak_long hb h2) (ev_val (Ev.now _) (by decide +kernel)))
  refine ev_neg h2 (ev_cbind (impl_keccak_f hb h2) ?_)
  have hsz:(strOfNums (kHash l)).size=32:=by rw [strOfNums_size,kHash_length]
  obtain ⟨x,hi,hs⟩:=hash_both (strOfNums (kHash l)) hsz
  refine ev_bind hi (ev_bind hs (ev_pos (by rw [hsz];rfl) (ev_cbind (spec_keccak_f hb h2) (ev_pos rfl (ev_pos rfl ?_)))))
  simp only [bne_self_eq_false]
  refine Ev.step (fun k=> by rw [laws_FnKeccak.j0,if_neg (by decide)]) ?_
  refine ev_cbind rfl (ev_pos (by simp;omega) (ev_cbind rfl (ev_pos (by simp;omega) ?_)))
  have hp:=pad_l hb (by omega) (kGap (l.length + 1)) 0 (by omega)
  rw [kFill_zero] at hp
  exact hp
end Go.Proofs.Ytlogocmojnhpbaa.Pure
end
