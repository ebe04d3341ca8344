-- Packed by a program of this session (slim.py): the plain laws that FnExactMerklePath needs.
import Derived.Test.YtlogocmojnhpbaaK0
import Derived.Test.YtlogocmojnhpbaaK1
import Derived.Test.YtlogocmojnhpbaaK2
import Derived.Test.YtlogocmojnhpbaaK3
import Derived.Test.YtlogocmojnhpbaaK4
import Derived.Test.YtlogocmojnhpbaaQFnExactMerklePath0
import Derived.Test.YtlogocmojnhpbaaQFnExactMerklePath1
import Derived.Test.YtlogocmojnhpbaaQFnExactMerklePath2
import Derived.Test.YtlogocmojnhpbaaQFnExactMerklePath3
import Derived.Test.YtlogocmojnhpbaaP0
section
namespace Go.Proofs.Ytlogocmojnhpbaa.Print
open Go.RowKit Go.Proofs.YtlogocmojnhpbaaW.PrintWords Go.Proofs.YtlogocmojnhpbaaW.PrintLast
def laws_FnExactMerklePath.Pure:Prop:=∀ (l0:List ByteArray) (a1:Int),l0.length ≤ 9223372036854775807 → (∀ s ∈ l0,s.size ≤ 9223372036854775807) → (Lit.int .i64 a1).wf=true → ∃ k,laws_FnExactMerklePath.f k l0 a1=some true
end Go.Proofs.Ytlogocmojnhpbaa.Print
end
section
namespace Go.Proofs.Ytlogocmojnhpbaa.Pure
open Go.RowKit Go.Proofs.Ytlogocmojnhpbaa.Print Go.Proofs.YtlogocmojnhpbaaW.PrintWords Go.Proofs.YtlogocmojnhpbaaW.PrintLast
theorem take_set {α:Type} (l:List α) (i:Nat) (v:α) (h:i < l.length):(l.set i v).take (i + 1)=l.take i ++ [v]:=by
  rw [List.take_succ_eq_append_getElem (by simpa using h)]
  rw [List.take_set_of_le (Nat.le_refl i)]
  simp
theorem take_map_succ {α β:Type} (f:α → β) (l:List α) (z:α) (i:Nat) (h:i < l.length):(l.map f).take (i + 1)=(l.map f).take i ++ [f (l.getD i z)]:=by
  rw [List.take_succ_eq_append_getElem (by simpa using h)]
  simp [List.getD_eq_getElem?_getD,List.getElem?_eq_getElem h]
theorem wrap_small {x:Int} (h0:-9223372036854775808 ≤ x) (h1:x ≤ 9223372036854775807):wrap64 x=x:=by unfold wrap64;omega
theorem ev_val {α:Type} {g:Nat → Option α} {a b:α} (h:Ev g a) (e:a=b):Ev g b:=e ▸ h
theorem ev_bind {α β:Type} {g:Nat → Option α} {f:Nat → α → Option β} {a:α} {r:β} (h:Ev g a) (k:Ev (fun n=> f n a) r):Ev (fun n=> (g n).bind (f n)) r:=Ev.bind h k
theorem ev_const {α:Type} {o:Option α} {r:α} (h:o=some r):Ev (fun _=> o) r:=by subst h;exact Ev.now r
theorem ev_cbind {α β:Type} {o:Option α} {f:Nat → α → Option β} {a:α} {r:β} (h:o=some a) (k:Ev (fun n=> f n a) r):Ev (fun n=> o.bind (f n)) r:=by subst h;exact k
theorem ev_pos {α:Type} {c:Prop} [Decidable c] {g f:Nat → Option α} {r:α} (h:c) (k:Ev g r):Ev (fun n=> if c then g n else f n) r:=by simpa only [if_pos h] using k
theorem ev_neg {α:Type} {c:Prop} [Decidable c] {g f:Nat → Option α} {r:α} (h:¬ c) (k:Ev f r):Ev (fun n=> if c then g n else f n) r:=by simpa only [if_neg h] using k
theorem rd_natCast (xs:List Int) (i:Nat):rd xs (i:Int)=xs.getD i 0:=by simp [rd]
end Go.Proofs.Ytlogocmojnhpbaa.Pure
end
section
namespace Go.Proofs.Ytlogocmojnhpbaa.Pure
open Go Go.RowKit Go.Proofs.Ytlogocmojnhpbaa.Print Go.Proofs.YtlogocmojnhpbaaW.PrintWords Go.Proofs.YtlogocmojnhpbaaW.PrintLast
set_option linter.unusedSimpArgs false
set_option linter.unusedVariables false
theorem rdT (l:List ByteArray) (i:Nat):rdOf ByteArray.empty l (i:Int)=l.getD i ByteArray.empty:=by simp [rdOf]
theorem toStringS_l (x0:List ByteArray) (hn:x0.length ≤ 1000000000) (d:Nat):∀ (acc:List ByteArray) (i:Nat),i + d=x0.length → acc.length=x0.length → acc.take i=x0.take i → Ev (fun k=> laws_toStringS.l0 k x0 acc (i:Int)) x0:=by
  induction d with
  |zero=>
    intro acc i hi hl ht
    refine Ev.step (f:=fun _=> some acc) (fun k=> by rw [laws_toStringS.l0,if_neg (by omega)]) (ev_val (Ev.now _) ?_)
    rw [List.take_of_length_le (by omega),List.take_of_length_le (by omega)] at ht
    exact ht
  |succ d ih=>
    intro acc i hi hl ht
    have h:=ih (acc.set i (x0.getD i ByteArray.empty)) (i + 1) (by omega) (by simpa using hl) (by
      rw [take_set _ _ _ (by omega),ht,List.take_succ_eq_append_getElem (show i < x0.length by omega)]
      simp [List.getD_eq_getElem?_getD,List.getElem?_eq_getElem (show i < x0.length by omega)])
    refine Ev.step (fun k=> ?_) h
    rw [laws_toStringS.l0,if_pos (by omega),if_pos (by omega),if_pos (by omega),wrap_small (by omega) (by omega),rdT]
    rfl
theorem toStringS_ev (x0:List ByteArray) (hn:x0.length ≤ 1000000000):Ev (fun k=> laws_toStringS.f k x0) x0:=by
  have h:=toStringS_l x0 hn x0.length (List.replicate x0.length (⟨#[]⟩:ByteArray)) 0 (by omega) (by simp) (by simp)
  refine Ev.congr (fun k=> ?_) h
  unfold laws_toStringS.f
  rw [if_pos (by omega),if_pos (by omega)]
  simp only [Int.toNat_natCast]
  rfl
theorem eqStringS_l (x0:List ByteArray) (hn:x0.length ≤ 1000000000) (d:Nat):∀ (i:Nat),i + d=x0.length → Ev (fun k=> laws_eqStringS.l0 k x0 x0 (i:Int)) true:=by
  induction d with
  |zero=>
    intro i hi
    exact Ev.step (f:=fun _=> some true) (fun k=> by rw [laws_eqStringS.l0,if_neg (by omega)]) (Ev.now _)
  |succ d ih=>
    intro i hi
    refine Ev.step (fun k=> ?_) (ih (i + 1) (by omega))
    rw [laws_eqStringS.l0,if_pos (by omega),if_pos (by omega),if_pos (by omega),if_pos rfl,wrap_small (by omega) (by omega)]
    rfl
theorem eqStringS_ev (x0:List ByteArray) (hn:x0.length ≤ 1000000000):Ev (fun k=> laws_eqStringS.f k x0 x0) true:=by
  refine Ev.congr (fun k=> ?_) (eqStringS_l x0 hn x0.length 0 (by omega))
  unfold laws_eqStringS.f
  rw [if_pos rfl]
  rfl
theorem szStringS_l (x0:List ByteArray) (hn:x0.length ≤ 1000000000) (hs:∀ s ∈ x0,s.size ≤ 9223372036854775807) (d:Nat):∀ (i:Nat) (a:Int),i + d=x0.length → 0 ≤ a → a ≤ 1048576 → ∃ z,Ev (fun k=> laws_szStringS.l0 k x0 a (i:Int)) z ∧ z ≤ 1048576:=by
  induction d with
  |zero=>
    intro i a hi h0 h1
    exact ⟨a,Ev.step (f:=fun _=> some a) (fun k=> by rw [laws_szStringS.l0,if_neg (by omega)]) (Ev.now _),h1⟩
  |succ d ih=>
    intro i a hi h0 h1
    have hz:(x0.getD i ByteArray.empty).size ≤ 9223372036854775807:=by
      rw [List.getD_eq_getElem?_getD,List.getElem?_eq_getElem (show i < x0.length by omega)]
      exact hs _ (List.getElem_mem _)
    have hw:wrap64 (a - ((x0.getD i ByteArray.empty).size:Int))=a - ((x0.getD i ByteArray.empty).size:Int):=wrap_small (by omega) (by omega)
    by_cases g:a - ((x0.getD i ByteArray.empty).size:Int) < 0
    · refine ⟨-1,Ev.step (f:=fun _=> some (-1)) (fun k=> ?_) (Ev.now _),by omega⟩
      rw [laws_szStringS.l0,if_pos (by omega),if_pos (by omega),rdT,hw,if_pos g]
    · obtain ⟨z,hz1,hz2⟩:=ih (i + 1) (a - ((x0.getD i ByteArray.empty).size:Int)) (by omega) (by omega) (by omega)
      refine ⟨z,Ev.step (fun k=> ?_) hz1,hz2⟩
      rw [laws_szStringS.l0,if_pos (by omega),if_pos (by omega),rdT,hw,if_neg g,wrap_small (by omega) (by omega)]
      rfl
theorem szStringS_ev {x0:List ByteArray} {a:Int} (h0:0 ≤ a) (h1:a ≤ 1048576) (hl:x0.length ≤ 9223372036854775807) (hs:∀ s ∈ x0,s.size ≤ 9223372036854775807):∃ z,Ev (fun k=> laws_szStringS.f k x0 a) z ∧ (0 ≤ z → x0.length ≤ 1048576) ∧ z ≤ 1048576:=by
  unfold laws_szStringS.f
  rw [wrap_small (by omega) (by omega)]
  by_cases g:a - (x0.length:Int) < 0
  · exact ⟨-1,ev_pos g (Ev.now _),fun h=> absurd h (by decide),by omega⟩
  · obtain ⟨z,hz,hz2⟩:=szStringS_l x0 (by omega) hs x0.length 0 (a - (x0.length:Int)) (by omega) (by omega) (by omega)
    exact ⟨z,ev_neg g hz,fun _=> by omega,hz2⟩
end Go.Proofs.Ytlogocmojnhpbaa.Pure
end
section
namespace Go.Proofs.Ytlogocmojnhpbaa.Pure
open Go.RowKit Go.Proofs.Ytlogocmojnhpbaa.Print Go.Proofs.YtlogocmojnhpbaaW.PrintWords Go.Proofs.YtlogocmojnhpbaaW.PrintLast
theorem spec_hash_f {s:ByteArray} (h:s.size ≤ 140737488350000):spec_l03Hash.f s=some (hashT s):=by unfold spec_l03Hash.f;rw [if_pos h]
theorem impl_hash_f {s:ByteArray} (h:s.size ≤ 140737488350000):impl_hashOf.f s=some (hashT s):=by unfold impl_hashOf.f;rw [if_pos h]
end Go.Proofs.Ytlogocmojnhpbaa.Pure
end
section
namespace Go.Proofs.Ytlogocmojnhpbaa.Pure
open Go.RowKit Go.Proofs.Ytlogocmojnhpbaa.Print Go.Proofs.YtlogocmojnhpbaaW.PrintWords Go.Proofs.YtlogocmojnhpbaaW.PrintLast
set_option linter.unusedSimpArgs false
set_option linter.unusedVariables false
theorem size_one (b:UInt8):(⟨#[b]⟩:ByteArray).size=1:=rfl
def leafT (s:ByteArray):ByteArray:=(⟨#[0]⟩:ByteArray) ++ s
def nodeT (a b:ByteArray):ByteArray:=((⟨#[1]⟩:ByteArray) ++ a) ++ b
theorem leafT_size (s:ByteArray):(leafT s).size=1 + s.size:=by unfold leafT;rw [ByteArray.size_append];rfl
theorem nodeT_size (a b:ByteArray):(nodeT a b).size=1 + a.size + b.size:=by unfold nodeT;rw [ByteArray.size_append,ByteArray.size_append];rfl
theorem spec_leaf_f {s:ByteArray} (h:s.size ≤ 140737488340000):spec_l04Leaf.f s=some (hashT (leafT s)):=by
  unfold spec_l04Leaf.f
  rw [if_pos (by omega)]
  show (spec_l03Hash.f (leafT s)).bind _=_
  rw [spec_hash_f (by rw [leafT_size];omega)]
  rfl
theorem impl_leafText_f {s:ByteArray} (h:s.size ≤ 140737488340000):impl_leafText.f s=some (leafT s):=by
  unfold impl_leafText.f
  rw [if_pos (by omega)]
  rfl
theorem node_one (a b:ByteArray) (ha:a.size ≤ 70368744170000) (hb:b.size ≤ 70368744170000):((⟨#[1]⟩:ByteArray) ++ a).size + b.size ≤ 9223372036854775807:=by
  rw [ByteArray.size_append,size_one]
  omega
theorem spec_node_f {a b:ByteArray} (ha:a.size ≤ 70368744170000) (hb:b.size ≤ 70368744170000):spec_l04Node.f a b=some (hashT (nodeT a b)):=by
  unfold spec_l04Node.f
  rw [if_pos (by omega),if_pos (node_one a b ha hb)]
  show (spec_l03Hash.f (nodeT a b)).bind _=_
  rw [spec_hash_f (by rw [nodeT_size];omega)]
  rfl
theorem impl_nodeText_f {a b:ByteArray} (ha:a.size ≤ 70368744170000) (hb:b.size ≤ 70368744170000):impl_nodeText.f a b=some (nodeT a b):=by
  unfold impl_nodeText.f
  rw [if_pos (by omega),if_pos (node_one a b ha hb)]
  rfl
end Go.Proofs.Ytlogocmojnhpbaa.Pure
end
section
namespace Go.Proofs.Ytlogocmojnhpbaa.Pure
open Go.RowKit Go.Proofs.Ytlogocmojnhpbaa.Print Go.Proofs.YtlogocmojnhpbaaW.PrintWords Go.Proofs.YtlogocmojnhpbaaW.PrintLast
theorem wf_i64 {x:Int} (h:(Lit.int .i64 x).wf=true):-9223372036854775808 ≤ x ∧ x ≤ 9223372036854775807:=by
  have h':IntKind.i64.min ≤ x ∧ x ≤ 9223372036854775807:=by simpa [Lit.wf] using h
  have e:IntKind.i64.min=-9223372036854775808:=by decide
  omega
def okI (a:Int):Bool:=decide (0 ≤ a ∧ a ≤ 2130706432)
theorem okI_true {a:Int} (h:okI a=true):0 ≤ a ∧ a < 2130706433:=by
  have:=of_decide_eq_true h
  omega
theorem spec_in_f (a b c:Int):spec_l01In.f a b c=some (decide (b ≤ a ∧ a ≤ c)):=by
  unfold spec_l01In.f
  by_cases h:b ≤ a
  · rw [if_pos h];simp [h]
  · rw [if_neg h];simp [h]
theorem impl_in_f (a b c:Int):impl_in.f a b c=some (decide (b ≤ a ∧ a ≤ c)):=by
  unfold impl_in.f
  by_cases h:b ≤ a
  · rw [if_pos h];simp [h]
  · rw [if_neg h];simp [h]
theorem spec_FieldOK_f (a:Int):spec_FieldOK.f a=some (okI a):=by
  unfold spec_FieldOK.f
  rw [spec_in_f];rfl
theorem impl_FieldOK_f (a:Int):impl_FieldOK.f a=some (okI a):=by
  unfold impl_FieldOK.f
  rw [impl_in_f];rfl
end Go.Proofs.Ytlogocmojnhpbaa.Pure
end
section
namespace Go.Proofs.Ytlogocmojnhpbaa.Pure
open Go Go.RowKit Go.Proofs.Ytlogocmojnhpbaa.Print Go.Proofs.YtlogocmojnhpbaaW.PrintWords Go.Proofs.YtlogocmojnhpbaaW.PrintLast Go.Proofs.YtlogocmojnhpbaaW.PrintMore
set_option linter.unusedSimpArgs false
set_option linter.unusedVariables false
def powB (n:Int):Bool:=decide (n=1 ∨ n=2 ∨ n=4 ∨ n=8 ∨ n=16 ∨ n=32 ∨ n=64 ∨ n=128 ∨ n=256)
theorem powB_exp {n:Int} (h:powB n=true):∃ j:Fin 9,n=2 ^ j.val:=by
  rcases of_decide_eq_true h with rfl|rfl|rfl|rfl|rfl|rfl|rfl|rfl|rfl
  · exact ⟨⟨0,by decide⟩,rfl⟩
  · exact ⟨⟨1,by decide⟩,rfl⟩
  · exact ⟨⟨2,by decide⟩,rfl⟩
  · exact ⟨⟨3,by decide⟩,rfl⟩
  · exact ⟨⟨4,by decide⟩,rfl⟩
  · exact ⟨⟨5,by decide⟩,rfl⟩
  · exact ⟨⟨6,by decide⟩,rfl⟩
  · exact ⟨⟨7,by decide⟩,rfl⟩
  · exact ⟨⟨8,by decide⟩,rfl⟩
theorem powB_le {n:Int} (h:powB n=true):1 ≤ n ∧ n ≤ 256:=by have:=of_decide_eq_true h;omega
theorem power_step {n c:Int} {k:Nat} (hc:c ≤ 256) (hn:n ≠ c) (hw:wrap64 (c * 2)=c * 2):spec_l04Power.l0 (k + 1) n 256 c=spec_l04Power.l0 k n 256 (c * 2):=by
  rw [spec_l04Power.l0,if_pos hc,if_neg hn,hw]
theorem power_hit {n c:Int} (hc:c ≤ 256) (hn:n=c):Ev (fun k=> spec_l04Power.l0 k n 256 c) true:=
  Ev.step (f:=fun _=> some true) (fun k=> by rw [spec_l04Power.l0,if_pos hc,if_pos hn]) (Ev.now _)
theorem spec_power_ev (n:Int):Ev (fun k=> spec_l04Power.f k n 256) (powB n):=by
  unfold spec_l04Power.f powB
  by_cases h0:n=1
  · exact ev_val (power_hit (by decide) h0) (by subst h0;rfl)
  refine Ev.step (fun k=> power_step (by decide) h0 (by decide +kernel)) ?_
  by_cases h1:n=2
  · exact ev_val (power_hit (by decide) h1) (by subst h1;rfl)
  refine Ev.step (fun k=> power_step (by decide) h1 (by decide +kernel)) ?_
  by_cases h2:n=4
  · exact ev_val (power_hit (by decide) h2) (by subst h2;rfl)
  refine Ev.step (fun k=> power_step (by decide) h2 (by decide +kernel)) ?_
  by_cases h3:n=8
  · exact ev_val (power_hit (by decide) h3) (by subst h3;rfl)
  refine Ev.step (fun k=> power_step (by decide) h3 (by decide +kernel)) ?_
  by_cases h4:n=16
  · exact ev_val (power_hit (by decide) h4) (by subst h4;rfl)
  refine Ev.step (fun k=> power_step (by decide) h4 (by decide +kernel)) ?_
  by_cases h5:n=32
  · exact ev_val (power_hit (by decide) h5) (by subst h5;rfl)
  refine Ev.step (fun k=> power_step (by decide) h5 (by decide +kernel)) ?_
  by_cases h6:n=64
  · exact ev_val (power_hit (by decide) h6) (by subst h6;rfl)
  refine Ev.step (fun k=> power_step (by decide) h6 (by decide +kernel)) ?_
  by_cases h7:n=128
  · exact ev_val (power_hit (by decide) h7) (by subst h7;rfl)
  refine Ev.step (fun k=> power_step (by decide) h7 (by decide +kernel)) ?_
  by_cases h8:n=256
  · exact ev_val (power_hit (by decide) h8) (by subst h8;rfl)
  refine Ev.step (fun k=> power_step (by decide) h8 (by decide +kernel)) ?_
  refine ev_val (Ev.step (f:=fun _=> some false) (fun k=> by rw [spec_l04Power.l0,if_neg (by decide)]) (Ev.now _)) ?_
  simp [h0,h1,h2,h3,h4,h5,h6,h7,h8]
theorem power_bits:∀ x:Fin 257,1 ≤ x.val → ((Go.bits .and .i64 (x.val:Int) (wrap64 ((x.val:Int) - 1))==0):Bool)=powB (x.val:Int):=by decide +kernel
theorem impl_power_f (n:Int):impl_isPower.f n 256=some (powB n):=by
  unfold impl_isPower.f
  simp only [impl_in_f,Option.bind_some,decide_eq_true_eq]
  by_cases h:1 ≤ n ∧ n ≤ 256
  · rw [if_pos h]
    have:=power_bits ⟨n.toNat,by omega⟩ (by show 1 ≤ n.toNat;omega)
    rw [show ((n.toNat:Nat):Int)=n by omega] at this
    rw [this]
  · rw [if_neg h]
    exact congrArg some (decide_eq_false (by omega)).symm
theorem low_bit:∀ x:Fin 256,Go.bits .and .i64 (x.val:Int) 1=(x.val:Int) % 2:=by decide +kernel
theorem and_one {x:Int} (h0:0 ≤ x) (h1:x ≤ 255):Go.bits .and .i64 x 1=x % 2:=by
  have:=low_bit ⟨x.toNat,by omega⟩
  rw [show ((x.toNat:Nat):Int)=x by omega] at this
  exact this
theorem log_bits:∀ j:Fin 9,impl_logOf.f (2 ^ j.val)=some (j.val:Int):=by decide +kernel
theorem log_pow:∀ (m:Fin 21) (j:Fin 9),(((2:Int) ^ j.val !=wrap64 (2 ^ m.val)):Bool)= !(decide ((m.val:Int)=(j.val:Int))):=by decide +kernel
theorem mn_len (n:Nat) (j:Fin 9):(((2:Int) ^ j.val !=wrap64 (2 ^ (mn 20 (n:Int)).toNat)):Bool)= !(decide ((n:Int)=(j.val:Int))):=by
  by_cases h:n ≤ 20
  · have:=log_pow ⟨n,by omega⟩ j
    rw [show (mn 20 (n:Int)).toNat=n by unfold mn;split <;> omega]
    exact this
  · have:=log_pow ⟨20,by omega⟩ j
    rw [show (mn 20 (n:Int)).toNat=20 by unfold mn;split <;> omega]
    refine this.trans ?_
    rw [decide_eq_false (show ¬ ((20:Nat):Int)=(j.val:Int) by omega),decide_eq_false (show ¬ (n:Int)=(j.val:Int) by omega)]
def stepT (i:Int) (h p:ByteArray):ByteArray:=if i % 2=1 then nodeT p h else nodeT h p
def upL:Int → List ByteArray → List ByteArray → ByteArray → List ByteArray × ByteArray
  |_, [],acc,h=> (acc,h)
  |i,p::ps,acc,h=> upL (i / 2) ps (acc ++ [stepT i h p]) (hashT (stepT i h p))
theorem upL_length (i:Int) (ps acc:List ByteArray) (h:ByteArray):(upL i ps acc h).1.length=acc.length + ps.length:=by
  induction ps generalizing i acc h with
  |nil=> rfl
  |cons p ps ih=> rw [upL,ih];simp;omega
def hashesB (l:List ByteArray):Bool:=l.all fun s=> (s.size:Int)==32
theorem hashesB_at {l:List ByteArray} (h:hashesB l=true) {i:Nat} (hi:i < l.length):(l.getD i ByteArray.empty).size=32:=by
  have:=List.all_eq_true.1 h (l.getD i ByteArray.empty) (by rw [List.getD_eq_getElem?_getD,List.getElem?_eq_getElem hi];exact List.getElem_mem hi)
  have:=eq_of_beq this
  omega
theorem drop_at {l:List ByteArray} {i:Nat} (hi:i < l.length):l.drop i=l.getD i ByteArray.empty::l.drop (i + 1):=by
  rw [List.drop_eq_getElem_cons hi,List.getD_eq_getElem?_getD,List.getElem?_eq_getElem hi]
  rfl
theorem one_small {n:Nat} (h:n ≤ 70368744170000):1 + n ≤ 9223372036854775807:=by omega
theorem acc_small {n i m:Nat} (h:n ≤ 1 + i) (h1:i < m) (h2:m ≤ 4096):n < 8796093022208:=by omega
theorem half_in {x:Int} (h0:0 ≤ x) (h1:x ≤ 255):0 ≤ x / 2 ∧ x / 2 ≤ 255:=by omega
theorem half_wrap {x:Int} (h0:0 ≤ x) (h1:x ≤ 255):wrap64 (Int.tdiv x 2)=x / 2:=by rw [Int.tdiv_eq_ediv_of_nonneg h0];exact wrap_small (by omega) (by omega)
theorem succ_wrap {i:Nat} (h:i ≤ 4096):wrap64 ((i:Int) + 1)=((i + 1:Nat):Int):=by rw [wrap_small (by omega) (by omega)];rfl
theorem hashT_small (s:ByteArray):(hashT s).size ≤ 70368744170000:=by rw [hashT_size];decide
theorem node_hash {a b:ByteArray} (ha:a.size ≤ 32) (hb:b.size ≤ 32):spec_l03Hash.f (((⟨#[1]⟩:ByteArray) ++ a) ++ b)=some (hashT (nodeT a b)):=spec_hash_f (s:=nodeT a b) (by rw [nodeT_size];omega)
theorem spec_up_step {l acc:List ByteArray} {x:Int} {h p:ByteArray} {i:Nat} (hi:i < l.length) (hn:l.length ≤ 4096) (h0:0 ≤ x) (h1:x ≤ 255) (ha:acc.length ≤ 1 + i) (hs:h.size ≤ 32) (hp:p.size ≤ 32) (hr:rdOf ByteArray.empty l (i:Int)=p) (k:Nat):
    spec_l04Up.l0 (k + 1) x l acc h (i:Int)=spec_l04Up.l0 k (x / 2) l (acc ++ [stepT x h p]) (hashT (stepT x h p)) ((i + 1:Nat):Int):=by
  have c1:(i:Int) < (l.length:Int):=by omega
  have c2:(0:Int) ≤ (i:Int):=by omega
  have b1:h.size ≤ 70368744170000:=Nat.le_trans hs (by decide)
  have b2:p.size ≤ 70368744170000:=Nat.le_trans hp (by decide)
  have e1:Int.tmod x 2=x % 2:=Int.tmod_eq_emod_of_nonneg h0
  have e2:=half_wrap h0 h1
  have e3:=succ_wrap (i:=i) (by omega)
  have e4:=acc_small ha hi hn
  rw [spec_l04Up.l0,if_pos c1,if_pos (one_small b1),if_pos c2,hr,if_pos (node_one _ _ b1 b2),e1,e2,e3]
  by_cases hx:x % 2=1
  · rw [show stepT x h p=nodeT p h from if_pos hx,if_pos hx,if_pos (one_small b2),if_pos (node_one _ _ b2 b1),if_pos e4,node_hash hp hs]
    rfl
  · rw [show stepT x h p=nodeT h p from if_neg hx,if_neg hx,if_pos e4,node_hash hs hp]
    rfl
theorem spec_up_l (l:List ByteArray) (hn:l.length ≤ 4096) (hh:hashesB l=true) (d:Nat):∀ (x:Int) (acc:List ByteArray) (h:ByteArray) (i:Nat),0 ≤ x → x ≤ 255 → acc.length ≤ 1 + i → h.size ≤ 32 → i + d=l.length →
    Ev (fun k=> spec_l04Up.l0 k x l acc h (i:Int)) (upL x (l.drop i) acc h):=by
  induction d with
  |zero=>
    intro x acc h i h0 h1 ha hs hi
    rw [List.drop_of_length_le (by omega)]
    exact Ev.step (f:=fun _=> some (acc,h)) (fun k=> by rw [spec_l04Up.l0,if_neg (by omega)]) (Ev.now _)
  |succ d ih=>
    intro x acc h i h0 h1 ha hs hi
    have hlt:i < l.length:=by omega
    have hp:=hashesB_at hh hlt
    rw [drop_at hlt,upL]
    have hb:=half_in h0 h1
    exact Ev.step (spec_up_step hlt hn h0 h1 ha hs (Nat.le_of_eq hp) (rdT l i)) (ih (x / 2) _ _ (i + 1) hb.1 hb.2 (by rw [List.length_append];exact Nat.add_le_add_right ha 1) (by rw [hashT_size];exact Nat.le_refl _) (by omega))
def wayL (i:Int) (s:ByteArray) (l:List ByteArray):List ByteArray × ByteArray:=upL i l [leafT s] (hashT (leafT s))
theorem spec_up_ev {i:Int} {s:ByteArray} {l:List ByteArray} (h0:0 ≤ i) (h1:i ≤ 255) (hs:s.size ≤ 65536) (hn:l.length ≤ 4096) (hh:hashesB l=true):Ev (fun k=> spec_l04Up.f k i s l) (wayL i s l):=by
  unfold spec_l04Up.f
  refine ev_pos (by omega) (ev_cbind (spec_leaf_f (by omega)) ?_)
  have:=spec_up_l l hn hh l.length i [leafT s] (hashT (leafT s)) 0 h0 h1 (by simp) (Nat.le_of_eq (hashT_size _)) (by omega)
  rw [List.drop_zero] at this
  exact this
theorem getD_last (acc:List ByteArray) (t:ByteArray) (n:Nat) (h:acc.length=n):(acc ++ [t]).getD n ByteArray.empty=t:=by
  subst h
  simp [List.getD_eq_getElem?_getD]
theorem impl_texts_l (l:List ByteArray) (hn:l.length ≤ 4096) (hh:hashesB l=true) (x:Int) (h0:0 ≤ x) (h1:x ≤ 255) (d:Nat):∀ (acc:List ByteArray) (t:ByteArray) (i:Nat),acc.length=i → t.size ≤ 70368744170000 → i + d=l.length →
    Ev (fun k=> impl_texts.l0 k x (acc ++ [t]) l (l.length:Int) (i:Int)) (upL (x / 2 ^ i) (l.drop i) (acc ++ [t]) (hashT t)).1:=by
  induction d with
  |zero=>
    intro acc t i ha hs hi
    rw [List.drop_of_length_le (by omega)]
    exact Ev.step (f:=fun _=> some (acc ++ [t])) (fun k=> by rw [impl_texts.l0,if_neg (by omega)]) (Ev.now _)
  |succ d ih=>
    intro acc t i ha hs hi
    have hp:=hashesB_at hh (show i < l.length by omega)
    rw [drop_at (show i < l.length by omega),upL]
    have hr:=rdT l i
    have hr2:=rdT (acc ++ [t]) i
    rw [getD_last acc t i ha] at hr2
    generalize l.getD i ByteArray.empty=p at hp hr
    have ew:wrap64 ((i:Int) + 1)=((i + 1:Nat):Int):=by rw [wrap_small (by omega) (by omega)];rfl
    have hpw:(0:Int) < 2 ^ i:=Int.pow_pos (by decide)
    have hq0:0 ≤ x / 2 ^ i:=Int.ediv_nonneg h0 (by omega)
    have hq1:x / 2 ^ i ≤ 255:=Int.le_trans (Int.ediv_le_self _ h0) h1
    have eq:x / 2 ^ i / 2=x / 2 ^ (i + 1):=by rw [Int.pow_succ,Int.ediv_ediv,if_neg (by omega)];omega
    have esh:i ≤ 64 → shr .i64 x (i:Int)=x / 2 ^ i:=by
      intro hi
      unfold shr
      rw [show min ((i:Int)).toNat IntKind.i64.bits=i by rw [show IntKind.i64.bits=64 from rfl];omega]
    have esh2:shr .i64 x (i:Int)=x / 2 ^ i:=by
      by_cases hi:i ≤ 64
      · exact esh hi
      · unfold shr
        rw [show min ((i:Int)).toNat IntKind.i64.bits=64 by rw [show IntKind.i64.bits=64 from rfl];omega]
        have hbig:(2:Int) ^ 64 ≤ 2 ^ i:=by
          rw [show i=64 + (i - 64) by omega,Int.pow_add]
          have:(1:Int) ≤ 2 ^ (i - 64):=Int.pow_pos (by decide)
          omega
        rw [Int.ediv_eq_zero_of_lt h0 (by omega),Int.ediv_eq_zero_of_lt h0 (by omega)]
    refine Ev.step (fun k=> by rw [impl_texts.l0,if_pos (by omega),if_pos (by omega),if_pos (by omega),if_pos (by simp;omega),hr,hr2,esh2,and_one hq0 hq1,ew]) (ev_cbind (impl_hash_f (by omega)) ?_)
    by_cases hx:x / 2 ^ i % 2=1
    · rw [show stepT (x / 2 ^ i) (hashT t) p=nodeT p (hashT t) from if_pos hx,eq]
      have hz:=hashT_size t
      refine ev_pos hx (ev_cbind (impl_nodeText_f (by omega) (by omega)) (ev_pos (by simp;omega) ?_))
      exact ih (acc ++ [t]) (nodeT p (hashT t)) (i + 1) (by simp;omega) (by rw [nodeT_size];omega) (by omega)
    · rw [show stepT (x / 2 ^ i) (hashT t) p=nodeT (hashT t) p from if_neg hx,eq]
      have hz:=hashT_size t
      refine ev_neg hx (ev_cbind (impl_nodeText_f (by omega) (by omega)) (ev_pos (by simp;omega) ?_))
      exact ih (acc ++ [t]) (nodeT (hashT t) p) (i + 1) (by simp;omega) (by rw [nodeT_size];omega) (by omega)
theorem impl_texts_ev {i:Int} {s:ByteArray} {l:List ByteArray} (h0:0 ≤ i) (h1:i ≤ 255) (hs:s.size ≤ 65536) (hn:l.length ≤ 4096) (hh:hashesB l=true):Ev (fun k=> impl_texts.f k i s l) (wayL i s l).1:=by
  unfold impl_texts.f
  refine ev_cbind (impl_leafText_f (by omega)) ?_
  have:=impl_texts_l l hn hh i h0 h1 l.length [] (leafT s) 0 rfl (by rw [leafT_size];omega) (by omega)
  rw [List.drop_zero,show (2:Int) ^ 0=1 from rfl,Int.ediv_one] at this
  exact this
theorem upL_last (i:Int) (ps acc:List ByteArray) (t:ByteArray) (ht:t.size ≤ 70368744170000) (hp:hashesB ps=true):∃ pre u,(upL i ps (acc ++ [t]) (hashT t)).1=pre ++ [u] ∧ (upL i ps (acc ++ [t]) (hashT t)).2=hashT u ∧ u.size ≤ 70368744170000:=by
  induction ps generalizing i acc t with
  |nil=> exact ⟨acc,t,rfl,rfl,ht⟩
  |cons p ps ih=>
    have h1:=List.all_eq_true.1 hp p (by simp)
    have h2:hashesB ps=true:=List.all_eq_true.2 fun x hx=> List.all_eq_true.1 hp x (by simp [hx])
    rw [upL]
    refine ih (i / 2) (acc ++ [t]) (stepT i (hashT t) p) ?_ h2
    have hz:=hashT_size t
    have h3:p.size=32:=by simp at h1;omega
    unfold stepT
    split <;> (rw [nodeT_size];omega)
end Go.Proofs.Ytlogocmojnhpbaa.Pure
end
section
namespace Go.Proofs.Ytlogocmojnhpbaa.Pure
open Go Go.RowKit Go.Proofs.Ytlogocmojnhpbaa.Print Go.Proofs.YtlogocmojnhpbaaW.PrintWords Go.Proofs.YtlogocmojnhpbaaW.PrintLast Go.Proofs.YtlogocmojnhpbaaW.PrintMore
set_option linter.unusedSimpArgs false
set_option linter.unusedVariables false
def rowT (l:List ByteArray):List ByteArray:=l.map fun s=> hashT (leafT s)
def nextT:List ByteArray → List ByteArray
  |a::b::t=> hashT (nodeT a b)::nextT t
  |_=> []
def upT:Nat → List ByteArray → List (List ByteArray)
  |0,_=> []
  |j + 1,row=> nextT row::upT j (nextT row)
theorem getD_in {l:List ByteArray} {P:ByteArray → Prop} (h:∀ s ∈ l,P s) {i:Nat} (hi:i < l.length):P (l.getD i ByteArray.empty):=by
  rw [List.getD_eq_getElem?_getD,List.getElem?_eq_getElem hi]
  exact h _ (List.getElem_mem _)
theorem nextT_small:∀ (row:List ByteArray),∀ s ∈ nextT row,s.size ≤ 64
  | [],s,h=> by simp [nextT] at h
  | [_],s,h=> by simp [nextT] at h
  |a::b::t,s,h=> by
    simp only [nextT,List.mem_cons] at h
    rcases h with rfl|h
    · rw [hashT_size];decide
    · exact nextT_small t s h
theorem nextT_length (m:Nat):∀ row:List ByteArray,row.length=2 * m → (nextT row).length=m:=by
  induction m with
  |zero=> intro row h;rw [List.eq_nil_of_length_eq_zero h];rfl
  |succ m ih=>
    intro row h
    match row,h with
    |a::b::t,h=>
      simp only [nextT,List.length_cons]
      rw [ih t (by simp at h;omega)]
theorem rowT_small (l:List ByteArray):∀ s ∈ rowT l,s.size ≤ 64:=by
  intro s h
  obtain ⟨x,_,rfl⟩:=List.mem_map.1 h
  rw [hashT_size];decide
theorem rowT_length (l:List ByteArray):(rowT l).length=l.length:=by simp [rowT]
theorem upT_length (j:Nat):∀ row,(upT j row).length=j:=by
  induction j with
  |zero=> intro row;rfl
  |succ j ih=> intro row;simp [upT,ih]
theorem upT_at (j:Nat):∀ (row:List ByteArray) (i:Nat),row.length=2 ^ j → i ≤ j → ((row::upT j row).getD i []).length=2 ^ (j - i):=by
  induction j with
  |zero=>
    intro row i h hi
    obtain rfl:i=0:=by omega
    exact h
  |succ j ih=>
    intro row i h hi
    cases i with
    |zero=> exact h
    |succ i=>
      have h2:=ih (nextT row) i (nextT_length _ row (by rw [h,Nat.pow_succ];omega)) (by omega)
      rw [show j + 1 - (i + 1)=j - i by omega]
      exact h2
theorem leafS (l:List ByteArray) (hs:∀ s ∈ l,s.size ≤ 64) (hn:l.length ≤ 1000) (d:Nat):∀ (k:Nat) (acc:List ByteArray) (i:Nat),i + d=l.length → acc.length=i → d < k → spec_l04Levels.l0 k l acc (i:Int)=some (acc ++ rowT (l.drop i)):=by
  induction d with
  |zero=>
    intro k acc i hi ha hk
    obtain ⟨k,rfl⟩:∃ m,k=m + 1:=⟨k - 1,by omega⟩
    rw [spec_l04Levels.l0,if_neg (by omega),List.drop_of_length_le (by omega)]
    simp [rowT]
  |succ d ih=>
    intro k acc i hi ha hk
    obtain ⟨k,rfl⟩:∃ m,k=m + 1:=⟨k - 1,by omega⟩
    have hz:=getD_in hs (show i < l.length by omega)
    rw [spec_l04Levels.l0,if_pos (by omega),if_pos (by omega),rdT,spec_leaf_f (by omega)]
    simp only [Option.bind_some]
    rw [if_pos (by omega),succ_wrap (by omega),ih k _ (i + 1) (by omega) (by simp;omega) (by omega),drop_at (show i < l.length by omega)]
    simp [rowT]
theorem leafI (l:List ByteArray) (hs:∀ s ∈ l,s.size ≤ 64) (hn:l.length ≤ 1000) (d:Nat):∀ (k:Nat) (acc:List ByteArray) (i:Nat),i + d=l.length → acc.length=i → d < k → impl_levels.l0 k acc l (l.length:Int) (i:Int)=some (acc ++ rowT (l.drop i)):=by
  induction d with
  |zero=>
    intro k acc i hi ha hk
    obtain ⟨k,rfl⟩:∃ m,k=m + 1:=⟨k - 1,by omega⟩
    rw [impl_levels.l0,if_neg (by omega),List.drop_of_length_le (by omega)]
    simp [rowT]
  |succ d ih=>
    intro k acc i hi ha hk
    obtain ⟨k,rfl⟩:∃ m,k=m + 1:=⟨k - 1,by omega⟩
    have hz:=getD_in hs (show i < l.length by omega)
    have hz2:=leafT_size (l.getD i ByteArray.empty)
    rw [impl_levels.l0,if_pos (by omega),if_pos (by omega),if_pos (by omega),rdT,impl_leafText_f (by omega)]
    simp only [Option.bind_some]
    rw [impl_hash_f (by omega)]
    simp only [Option.bind_some]
    rw [if_pos (by omega),succ_wrap (by omega),ih k _ (i + 1) (by omega) (by simp;omega) (by omega),drop_at (show i < l.length by omega)]
    simp [rowT]
theorem two_wrap {i:Nat} (h:i ≤ 4096):wrap64 (((2 * i:Nat):Int) + 2)=((2 * (i + 1):Nat):Int):=by rw [wrap_small (by omega) (by omega)];omega
theorem drop_two {l:List ByteArray} {i:Nat} (hi:2 * i + 1 < l.length):l.drop (2 * i)=l.getD (2 * i) ByteArray.empty::l.getD (2 * i + 1) ByteArray.empty::l.drop (2 * (i + 1)):=by
  rw [drop_at (show 2 * i < l.length by omega),drop_at hi]
  rfl
theorem nodeS (row:List ByteArray) (m:Nat) (hm:row.length=2 * m) (hn:m ≤ 200) (hs:∀ s ∈ row,s.size ≤ 64) (d:Nat):∀ (k:Nat) (acc:List ByteArray) (i:Nat),i + d=m → acc.length=i → d < k → spec_l04Levels.n0 k row acc ((2 * i:Nat):Int)=some (acc ++ nextT (row.drop (2 * i))):=by
  induction d with
  |zero=>
    intro k acc i hi ha hk
    obtain ⟨k,rfl⟩:∃ m,k=m + 1:=⟨k - 1,by omega⟩
    rw [spec_l04Levels.n0,if_neg (by omega),List.drop_of_length_le (by omega)]
    simp [nextT]
  |succ d ih=>
    intro k acc i hi ha hk
    obtain ⟨k,rfl⟩:∃ m,k=m + 1:=⟨k - 1,by omega⟩
    have hz:=getD_in hs (show 2 * i < row.length by omega)
    have hz2:=getD_in hs (show 2 * i + 1 < row.length by omega)
    rw [spec_l04Levels.n0,if_pos (by omega),if_pos (by omega),succ_wrap (show 2 * i ≤ 4096 by omega),if_pos (by omega),if_pos (by omega),rdT,rdT,spec_node_f (by omega) (by omega)]
    simp only [Option.bind_some]
    rw [if_pos (by omega),two_wrap (by omega),ih k _ (i + 1) (by omega) (by simp;omega) (by omega),drop_two (show 2 * i + 1 < row.length by omega)]
    simp [nextT]
theorem nodeI (row:List ByteArray) (m:Nat) (hm:row.length=2 * m) (hn:m ≤ 200) (hs:∀ s ∈ row,s.size ≤ 64) (d:Nat):∀ (k:Nat) (acc:List ByteArray) (i:Nat),i + d=m → acc.length=i → d < k → impl_levels.n0 k row acc ((2 * i:Nat):Int)=some (acc ++ nextT (row.drop (2 * i))):=by
  induction d with
  |zero=>
    intro k acc i hi ha hk
    obtain ⟨k,rfl⟩:∃ m,k=m + 1:=⟨k - 1,by omega⟩
    rw [impl_levels.n0,if_neg (by omega),List.drop_of_length_le (by omega)]
    simp [nextT]
  |succ d ih=>
    intro k acc i hi ha hk
    obtain ⟨k,rfl⟩:∃ m,k=m + 1:=⟨k - 1,by omega⟩
    have hz:=getD_in hs (show 2 * i < row.length by omega)
    have hz2:=getD_in hs (show 2 * i + 1 < row.length by omega)
    have hz3:=nodeT_size (row.getD (2 * i) ByteArray.empty) (row.getD (2 * i + 1) ByteArray.empty)
    rw [impl_levels.n0,if_pos (by omega),if_pos (by omega),succ_wrap (show 2 * i ≤ 4096 by omega),if_pos (by omega),if_pos (by omega),rdT,rdT,impl_nodeText_f (by omega) (by omega)]
    simp only [Option.bind_some]
    rw [impl_hash_f (by omega)]
    simp only [Option.bind_some]
    rw [if_pos (by omega),two_wrap (by omega),ih k _ (i + 1) (by omega) (by simp;omega) (by omega),drop_two (show 2 * i + 1 < row.length by omega)]
    simp [nextT]
theorem rowsS (j:Nat):∀ (k:Nat) (row:List ByteArray) (out:List (List ByteArray)),row.length=2 ^ j → row.length ≤ 256 → (∀ s ∈ row,s.size ≤ 64) → out.length + j < 1000 → 300 + j ≤ k → spec_l04Levels.l1 k row out=some (out ++ upT j row):=by
  induction j with
  |zero=>
    intro k row out h h2 hs ho hk
    obtain ⟨k,rfl⟩:∃ m,k=m + 1:=⟨k - 1,by omega⟩
    rw [Nat.pow_zero] at h
    rw [spec_l04Levels.l1,if_neg (by omega)]
    simp [upT]
  |succ j ih=>
    intro k row out h h2 hs ho hk
    obtain ⟨k,rfl⟩:∃ m,k=m + 1:=⟨k - 1,by omega⟩
    have hp:=Nat.two_pow_pos j
    have hm:row.length=2 * 2 ^ j:=by rw [h,Nat.pow_succ];omega
    have hnode:=nodeS row (2 ^ j) hm (by omega) hs (2 ^ j) k [] 0 (by omega) rfl (by omega)
    rw [spec_l04Levels.l1,if_pos (by omega),show (0:Int)=((2 * 0:Nat):Int) from rfl,hnode]
    simp only [Option.bind_some,List.nil_append,List.drop_zero,Nat.mul_zero]
    have hl:=nextT_length _ row hm
    rw [if_pos (by omega),ih k (nextT row) (out ++ [nextT row]) hl (by omega) (nextT_small row) (by simp;omega) (by omega)]
    simp [upT]
theorem rowsI (j:Nat):∀ (k:Nat) (row:List ByteArray) (out:List (List ByteArray)),row.length=2 ^ j → row.length ≤ 256 → (∀ s ∈ row,s.size ≤ 64) → out.length + j < 1000 → 300 + j ≤ k → impl_levels.l1 k row out=some (out ++ upT j row):=by
  induction j with
  |zero=>
    intro k row out h h2 hs ho hk
    obtain ⟨k,rfl⟩:∃ m,k=m + 1:=⟨k - 1,by omega⟩
    rw [Nat.pow_zero] at h
    rw [impl_levels.l1,if_neg (by omega)]
    simp [upT]
  |succ j ih=>
    intro k row out h h2 hs ho hk
    obtain ⟨k,rfl⟩:∃ m,k=m + 1:=⟨k - 1,by omega⟩
    have hp:=Nat.two_pow_pos j
    have hm:row.length=2 * 2 ^ j:=by rw [h,Nat.pow_succ];omega
    have hnode:=nodeI row (2 ^ j) hm (by omega) hs (2 ^ j) k [] 0 (by omega) rfl (by omega)
    rw [impl_levels.l1,if_pos (by omega),show (0:Int)=((2 * 0:Nat):Int) from rfl,hnode]
    simp only [Option.bind_some,List.nil_append,List.drop_zero,Nat.mul_zero]
    have hl:=nextT_length _ row hm
    rw [if_pos (by omega),ih k (nextT row) (out ++ [nextT row]) hl (by omega) (nextT_small row) (by simp;omega) (by omega)]
    simp [upT]
def treeT (j:Nat) (l:List ByteArray):List (List ByteArray):=rowT l::upT j (rowT l)
theorem pow8 {j:Nat} (h:j ≤ 8):2 ^ j ≤ 256:=Nat.le_trans (Nat.pow_le_pow_right (by decide) h) (by decide)
theorem levelsS {l:List ByteArray} {j:Nat} (hl:l.length=2 ^ j) (hj:j ≤ 8) (hs:∀ s ∈ l,s.size ≤ 64):spec_l04Levels.f l=some (treeT j l):=by
  have hp:=pow8 hj
  unfold spec_l04Levels.f spec_l04Levels.g
  rw [show (0:Int)=((0:Nat):Int) from rfl,leafS l hs (by omega) l.length 1000 [] 0 (by omega) rfl (by omega)]
  simp only [Option.bind_some,List.nil_append,List.drop_zero]
  rw [rowsS j 1000 (rowT l) [rowT l] (by rw [rowT_length];exact hl) (by rw [rowT_length];omega) (rowT_small l) (by simp;omega) (by omega)]
  rfl
theorem levelsI {l:List ByteArray} {j:Nat} (hl:l.length=2 ^ j) (hj:j ≤ 8) (hs:∀ s ∈ l,s.size ≤ 64):impl_levels.f l=some (treeT j l):=by
  have hp:=pow8 hj
  unfold impl_levels.f impl_levels.g
  rw [show (0:Int)=((0:Nat):Int) from rfl,leafI l hs (by omega) l.length 1000 [] 0 (by omega) rfl (by omega)]
  simp only [Option.bind_some,List.nil_append,List.drop_zero]
  rw [rowsI j 1000 (rowT l) [rowT l] (by rw [rowT_length];exact hl) (by rw [rowT_length];omega) (rowT_small l) (by simp;omega) (by omega)]
  rfl
theorem treeT_length (j:Nat) (l:List ByteArray):(treeT j l).length=j + 1:=by simp [treeT,upT_length]
theorem treeT_at {j:Nat} {l:List ByteArray} (hl:l.length=2 ^ j) {i:Nat} (hi:i ≤ j):((treeT j l).getD i []).length=2 ^ (j - i):=upT_at j (rowT l) i (by rw [rowT_length];exact hl) hi
def codeL (l:List ByteArray):Int:=if (l.length:Int) > 4096 then 2 else if powB (l.length:Int)=true then (if (l.any fun s=> decide ((s.size:Int) > 64))=true then 4 else 0) else 8
theorem impl_code_f (l:List ByteArray):impl_leavesCode.f l=some (codeL l):=by
  unfold impl_leavesCode.f codeL con_leaf.f
  rw [impl_power_f]
  simp only [Option.bind_some]
  by_cases h:(l.length:Int) > 4096
  · rw [if_pos h,if_pos h]
  · rw [if_neg h,if_neg h]
    by_cases h2:powB (l.length:Int)=true
    · rw [if_pos h2,if_pos h2]
      by_cases h3:(l.any fun s=> decide ((s.size:Int) > 64))=true
      · rw [if_pos h3,if_pos h3]
      · rw [if_neg h3,if_neg h3]
    · rw [if_neg h2,if_neg h2]
theorem spec_leaves_l (l:List ByteArray) (hn:l.length ≤ 4096) (d:Nat):∀ (i:Nat),i + d=l.length → Ev (fun k=> spec_l04Leaves.l0 k l (i:Int)) (if ((l.drop i).any fun s=> decide ((s.size:Int) > 64))=true then 4 else 0):=by
  induction d with
  |zero=>
    intro i hi
    refine Ev.step (f:=fun _=> some 0) (fun k=> by rw [spec_l04Leaves.l0,if_neg (by omega)]) (ev_val (Ev.now _) ?_)
    rw [List.drop_of_length_le (by omega)]
    rfl
  |succ d ih=>
    intro i hi
    rw [drop_at (show i < l.length by omega)]
    by_cases g:((l.getD i ByteArray.empty).size:Int) > 64
    · refine Ev.step (f:=fun _=> some 4) (fun k=> by rw [spec_l04Leaves.l0,if_pos (by omega),if_pos (by omega),rdT,if_pos g]) (ev_val (Ev.now _) ?_)
      rw [List.any_cons,decide_eq_true g]
      rfl
    · refine Ev.step (fun k=> by rw [spec_l04Leaves.l0,if_pos (by omega),if_pos (by omega),rdT,if_neg g,succ_wrap (by omega)]) (ev_val (ih (i + 1) (by omega)) ?_)
      rw [List.any_cons,decide_eq_false g,Bool.false_or]
theorem spec_code_ev (l:List ByteArray):Ev (fun k=> spec_l04Leaves.f k l) (codeL l):=by
  unfold spec_l04Leaves.f codeL
  by_cases h:(l.length:Int) > 4096
  · exact ev_val (ev_pos h (Ev.now _)) (if_pos h).symm
  · rw [if_neg h]
    refine ev_neg h (ev_bind (spec_power_ev _) ?_)
    by_cases h2:powB (l.length:Int)=true
    · rw [if_pos h2]
      exact ev_pos h2 (spec_leaves_l l (by omega) l.length 0 (by omega))
    · rw [if_neg h2]
      exact ev_neg h2 (Ev.now _)
theorem codeL_ok {l:List ByteArray} (h:codeL l=0):∃ j,j ≤ 8 ∧ l.length=2 ^ j ∧ ∀ s ∈ l,s.size ≤ 64:=by
  unfold codeL at h
  by_cases h1:(l.length:Int) > 4096
  · rw [if_pos h1] at h;cases h
  rw [if_neg h1] at h
  by_cases h2:powB (l.length:Int)=true
  · rw [if_pos h2] at h
    by_cases h3:(l.any fun s=> decide ((s.size:Int) > 64))=true
    · rw [if_pos h3] at h;cases h
    obtain ⟨j,hj⟩:=powB_exp h2
    refine ⟨j.val,by omega,by exact_mod_cast hj,fun s hs=> ?_⟩
    rcases Nat.lt_or_ge 64 s.size with g|g
    · exact absurd (List.any_eq_true.2 ⟨s,hs,decide_eq_true (by omega)⟩) h3
    · exact g
  · rw [if_neg h2] at h;cases h
theorem root_f {t:List (List ByteArray)} {j:Nat} (ht:t.length=j + 1) (hj:j ≤ 100) (hl:0 < (t.getD j []).length):impl_rootOf.f t=some (rdOf ByteArray.empty (rd_L7 t (j:Int)) 0):=by
  unfold impl_rootOf.f
  rw [show wrap64 ((t.length:Int) - 1)=(j:Int) by rw [wrap_small (by omega) (by omega)];omega]
  rw [if_pos (by omega),if_pos (by omega),if_pos (by unfold rd_L7;rw [Int.toNat_natCast];omega)]
theorem root_both (l:List ByteArray):∃ x:ByteArray × Int,Ev (fun k=> spec_MerkleRoot.f k l) x ∧ impl_MerkleRoot.f l=some x:=by
  unfold spec_MerkleRoot.f impl_MerkleRoot.f
  rw [impl_code_f]
  simp only [Option.bind_some]
  by_cases g:(l.length:Int) > 4096
  · have hc:codeL l=2:=if_pos g
    exact ⟨_,ev_pos g (Ev.now _),by rw [hc,if_neg (by decide)]⟩
  · by_cases h:codeL l=0
    · obtain ⟨j,hj,hl,hs⟩:=codeL_ok h
      have ht:=treeT_length j l
      have ha:=treeT_at hl (Nat.le_refl j)
      rw [Nat.sub_self] at ha
      have hr:=root_f ht (by omega) (by omega)
      rw [if_pos h,levelsI hl hj hs]
      simp only [Option.bind_some]
      rw [hr]
      refine ⟨_,ev_neg g (ev_bind (spec_code_ev l) (ev_pos h (ev_cbind ?_ (Ev.now _)))),rfl⟩
      unfold spec_l04Root.f
      rw [levelsS hl hj hs]
      exact hr
    · rw [if_neg h]
      exact ⟨_,ev_neg g (ev_bind (spec_code_ev l) (ev_neg h (Ev.now _))),rfl⟩
def pathT:Nat → Nat → Int → List (List ByteArray) → List ByteArray
  |0,_,_,_=> []
  |d + 1,i,x,t=> rdOf ByteArray.empty (rd_L7 t (i:Int)) (Go.bits .xor .i64 x 1)::pathT d (i + 1) (x / 2) t
theorem pathT_length (d:Nat):∀ i x t,(pathT d i x t).length=d:=by
  induction d with
  |zero=> intro i x t;rfl
  |succ d ih=> intro i x t;simp [pathT,ih]
theorem xor_bits:∀ x:Fin 256,Go.bits .xor .i64 (x.val:Int) 1=if (x.val:Int) % 2=0 then (x.val:Int) + 1 else (x.val:Int) - 1:=by decide +kernel
theorem xor_one {x:Int} (h0:0 ≤ x) (h1:x ≤ 255):Go.bits .xor .i64 x 1=if x % 2=0 then x + 1 else x - 1:=by
  have:=xor_bits ⟨x.toNat,by omega⟩
  rw [show ((x.toNat:Nat):Int)=x by omega] at this
  exact this
theorem xor_in {x:Int} {d:Nat} (h0:0 ≤ x) (h1:x < ((2 ^ (d + 1):Nat):Int)) (h2:x ≤ 255):0 ≤ Go.bits .xor .i64 x 1 ∧ Go.bits .xor .i64 x 1 < ((2 ^ (d + 1):Nat):Int):=by
  rw [xor_one h0 h2]
  rw [Nat.pow_succ] at h1 ⊢
  generalize 2 ^ d=m at h1 ⊢
  split <;> omega
section
variable {t:List (List ByteArray)} {m:Nat}
theorem spec_path_l (ht:t.length=m + 1) (hm:m ≤ 8) (hl:∀ i,i ≤ m → (t.getD i []).length=2 ^ (m - i)) (d:Nat):∀ (x:Int) (acc:List ByteArray) (i:Nat),i + d=m → acc.length=i → 0 ≤ x → x < ((2 ^ d:Nat):Int) → Ev (fun k=> spec_l04Path.l0 k t x acc (i:Int)) (acc ++ pathT d i x t):=by
  induction d with
  |zero=>
    intro x acc i hi ha h0 h1
    refine Ev.step (f:=fun _=> some acc) (fun k=> by rw [spec_l04Path.l0,succ_wrap (by omega),if_neg (by omega)]) (ev_val (Ev.now _) (by simp [pathT]))
  |succ d ih=>
    intro x acc i hi ha h0 h1
    have hp:=pow8 (show d + 1 ≤ 8 by omega)
    have hx:=xor_in h0 h1 (by omega)
    have hr:(rd_L7 t (i:Int)).length=2 ^ (d + 1):=by
      unfold rd_L7
      rw [Int.toNat_natCast,hl i (by omega),show m - i=d + 1 by omega]
    have h2:x / 2 < ((2 ^ d:Nat):Int):=by
      rw [Nat.pow_succ] at h1
      generalize 2 ^ d=m at h1 ⊢
      omega
    refine Ev.step (fun k=> by rw [spec_l04Path.l0,succ_wrap (by omega),if_pos (by omega),if_pos (by omega),if_pos (by omega),if_pos hx.1,if_pos (by rw [hr];exact hx.2),if_pos (by omega),half_wrap h0 (by omega)]) (ev_val (ih (x / 2) _ (i + 1) (by omega) (by simp;omega) (by omega) h2) ?_)
    simp [pathT]
theorem impl_path_l (ht:t.length=m + 1) (hm:m ≤ 8) (hl:∀ i,i ≤ m → (t.getD i []).length=2 ^ (m - i)) (d:Nat):∀ (x:Int) (acc:List ByteArray) (i:Nat),i + d=m → acc.length=i → 0 ≤ x → x < ((2 ^ d:Nat):Int) → Ev (fun k=> impl_pathOf.l0 k x acc (t.take m) ((t.take m).length:Int) (i:Int)) (acc ++ pathT d i x t):=by
  have hk:(t.take m).length=m:=by rw [List.length_take];omega
  induction d with
  |zero=>
    intro x acc i hi ha h0 h1
    refine Ev.step (f:=fun _=> some acc) (fun k=> by rw [impl_pathOf.l0,if_neg (by omega)]) (ev_val (Ev.now _) (by simp [pathT]))
  |succ d ih=>
    intro x acc i hi ha h0 h1
    have hp:=pow8 (show d + 1 ≤ 8 by omega)
    have hx:=xor_in h0 h1 (by omega)
    have he:rd_L7 (t.take m) (i:Int)=rd_L7 t (i:Int):=by
      unfold rd_L7
      rw [Int.toNat_natCast,List.getD_eq_getElem?_getD,List.getD_eq_getElem?_getD,List.getElem?_take,if_pos (by omega)]
    have hr:(rd_L7 t (i:Int)).length=2 ^ (d + 1):=by
      unfold rd_L7
      rw [Int.toNat_natCast,hl i (by omega),show m - i=d + 1 by omega]
    have h2:x / 2 < ((2 ^ d:Nat):Int):=by
      rw [Nat.pow_succ] at h1
      generalize 2 ^ d=m at h1 ⊢
      omega
    refine Ev.step (fun k=> by rw [impl_pathOf.l0,if_pos (by omega),if_pos (by omega),if_pos (by omega),if_pos hx.1,he,if_pos (by rw [hr];exact hx.2),if_pos (by omega),half_wrap h0 (by omega),succ_wrap (by omega)]) (ev_val (ih (x / 2) _ (i + 1) (by omega) (by simp;omega) (by omega) h2) ?_)
    simp [pathT]
theorem impl_path_ev (ht:t.length=m + 1) (hm:m ≤ 8) (hl:∀ i,i ≤ m → (t.getD i []).length=2 ^ (m - i)) {x:Int} (h0:0 ≤ x) (h1:x < ((2 ^ m:Nat):Int)):Ev (fun k=> impl_pathOf.f k t x) (pathT m 0 x t):=by
  unfold impl_pathOf.f
  rw [show wrap64 ((t.length:Int) - 1)=(m:Int) by rw [wrap_small (by omega) (by omega)];omega]
  refine ev_pos (by omega) (ev_pos (by omega) (ev_cbind rfl ?_))
  rw [Int.toNat_natCast]
  exact impl_path_l ht hm hl m x [] 0 (by omega) rfl h0 h1
end
theorem path_both (l:List ByteArray) (x:Int) (hx:(Lit.int .i64 x).wf=true):∃ (p:List ByteArray) (c:Int),p.length ≤ 8 ∧ Ev (fun k=> spec_MerklePath.f k l x) (p,c) ∧ Ev (fun k=> impl_MerklePath.f k l x) (p,c):=by
  unfold spec_MerklePath.f impl_MerklePath.f
  rw [impl_code_f]
  simp only [Option.bind_some]
  by_cases g:(l.length:Int) > 4096
  · have hc:codeL l=2:=if_pos g
    rw [hc]
    exact ⟨[],2,by simp,ev_pos g (Ev.now _),ev_neg (by decide) (Ev.now _)⟩
  · by_cases h:codeL l=0
    · obtain ⟨j,hj,hl,hs⟩:=codeL_ok h
      have ht:=treeT_length j l
      have hp:=pow8 hj
      rw [levelsI hl hj hs,levelsS hl hj hs,spec_in_f,impl_in_f,wrap_small (show -9223372036854775808 ≤ (l.length:Int) - 1 by omega) (by omega)]
      simp only [Option.bind_some]
      by_cases g2:0 ≤ x ∧ x ≤ (l.length:Int) - 1
      · have h1:x < ((2 ^ j:Nat):Int):=by rw [← hl];omega
        have hl2:=fun i (hi:i ≤ j)=> treeT_at hl hi
        refine ⟨pathT j 0 x (treeT j l),0,by rw [pathT_length];exact hj,ev_neg g (ev_bind (spec_code_ev l) (ev_pos h (ev_pos (decide_eq_true g2) (ev_bind ?_ (Ev.now _))))),ev_pos h (ev_pos (decide_eq_true g2) (ev_bind (impl_path_ev ht hj hl2 g2.1 h1) (Ev.now _)))⟩
        unfold spec_l04Path.f
        exact spec_path_l ht hj hl2 j x [] 0 (by omega) rfl g2.1 h1
      · exact ⟨[],4,by simp,ev_neg g (ev_bind (spec_code_ev l) (ev_pos h (ev_neg (by simpa using g2) (Ev.now _)))),ev_pos h (ev_neg (by simpa using g2) (Ev.now _))⟩
    · exact ⟨[],codeL l,by simp,ev_neg g (ev_bind (spec_code_ev l) (ev_neg h (Ev.now _))),ev_neg h (Ev.now _)⟩
end Go.Proofs.Ytlogocmojnhpbaa.Pure
end
section
namespace Go.Proofs.Ytlogocmojnhpbaa.Pure
open Go Go.RowKit Go.Proofs.Ytlogocmojnhpbaa.Print Go.Proofs.YtlogocmojnhpbaaW.PrintWords Go.Proofs.YtlogocmojnhpbaaW.PrintLast Go.Proofs.YtlogocmojnhpbaaW.PrintMore
set_option linter.unusedSimpArgs false
set_option linter.unusedVariables false
theorem str_one (x:Int):(strOfNums [x]).size=1:=rfl
theorem mark_l (d:Nat):∀ (m:Int) (acc:ByteArray),0 ≤ m → m < ((10 ^ d:Nat):Int) → d ≤ 18 → acc.size + d ≤ 1000 → ∃ t,Ev (fun k=> laws_markText.l0 k m acc) t:=by
  induction d with
  |zero=>
    intro m acc h0 h1 hd ha
    rw [Nat.pow_zero] at h1
    exact ⟨_,Ev.step (f:=fun _=> some _) (fun k=> by rw [laws_markText.l0,if_neg (by omega),if_pos (by omega)]) (Ev.now _)⟩
  |succ d ih=>
    intro m acc h0 h1 hd ha
    by_cases g:m > 0
    · have hw:wrap64 (Int.tdiv m 10)=m / 10:=by
        have hb:10 ^ (d + 1) ≤ 10 ^ 18:=Nat.pow_le_pow_right (by decide) hd
        rw [Int.tdiv_eq_ediv_of_nonneg h0]
        exact wrap_small (by omega) (by omega)
      obtain ⟨t,ht⟩:=ih (m / 10) (strOfNums [(wrap64 (48 + (Int.tmod m 10))) % 256] ++ acc) (by omega) (by rw [Nat.pow_succ] at h1;generalize 10 ^ d=q at h1 ⊢;omega) (by omega) (by rw [ByteArray.size_append,str_one];omega)
      refine ⟨t,Ev.step (fun k=> ?_) ht⟩
      rw [laws_markText.l0,if_pos g]
      simp only [Option.bind_some]
      rw [if_pos (by rw [str_one];omega),hw]
    · exact ⟨_,Ev.step (f:=fun _=> some _) (fun k=> by rw [laws_markText.l0,if_neg g,if_pos (by omega)]) (Ev.now _)⟩
theorem mark_ends (m:Int) (h:0 < m) (h1:m < 10000000):∃ t,Ev (fun k=> laws_markText.f k m) t:=by
  obtain ⟨t,ht⟩:=mark_l 7 m (⟨#[]⟩:ByteArray) (by omega) (by omega) (by omega) (by decide)
  exact ⟨t,by unfold laws_markText.f;exact ev_neg (by omega) ht⟩
open Classical in
noncomputable def markB (j:Nat):ByteArray:=if h:∃ t,Ev (fun k=> laws_markText.f k (1 + (j:Int))) t then h.choose else ByteArray.empty
theorem mark_ev (j:Nat) (h:j ≤ 2000000):Ev (fun k=> laws_markText.f k (1 + (j:Int))) (markB j):=by
  have hx:=mark_ends (1 + (j:Int)) (by omega) (by omega)
  unfold markB
  rw [dif_pos hx]
  exact hx.choose_spec
noncomputable def marksB (n:Nat):List ByteArray:=(List.range n).map markB
theorem marksB_get (n i:Nat) (h:i < n):(marksB n).getD i ByteArray.empty=markB i:=by
  unfold marksB
  rw [List.getD_eq_getElem?_getD,List.getElem?_map,List.getElem?_range h]
  rfl
theorem marksB_length (n:Nat):(marksB n).length=n:=by simp [marksB]
theorem markS_l (n:Nat) (hn:n ≤ 1048576) (d:Nat):∀ (acc:List ByteArray) (i:Nat),i + d=n → acc.length=n → acc.take i=(marksB n).take i → Ev (fun k=> laws_markStringS.l0 k acc (1 + (i:Int)) (i:Int)) (1 + (n:Int),marksB n):=by
  induction d with
  |zero=>
    intro acc i hi hl ht
    refine Ev.step (f:=fun _=> some (1 + (i:Int),acc)) (fun k=> by rw [laws_markStringS.l0,if_neg (by omega)]) (ev_val (Ev.now _) ?_)
    have h1:acc.take i=acc:=List.take_of_length_le (by omega)
    have h2:(marksB n).take i=marksB n:=List.take_of_length_le (by rw [marksB_length];omega)
    rw [h1,h2] at ht
    rw [ht,show i=n by omega]
  |succ d ih=>
    intro acc i hi hl ht
    have h:=ih (acc.set i (markB i)) (i + 1) (by omega) (by simpa using hl) (by
      rw [take_set _ _ _ (by omega),ht]
      unfold marksB
      rw [take_map_succ _ _ 0 _ (by simp;omega)]
      simp [List.getD_eq_getElem?_getD,List.getElem?_range (show i < n by omega)])
    refine Ev.step (fun k=> by rw [laws_markStringS.l0,if_pos (by omega)]) (ev_bind (mark_ev i (by omega)) (ev_pos (show (0:Int) ≤ (i:Int) by omega) (Ev.congr (fun k=> ?_) h)))
    rw [wrap_small (by omega) (by omega),wrap_small (by omega) (by omega),Int.toNat_natCast]
    rw [show (1 + (i:Int) + 1)=1 + ((i + 1:Nat):Int) by omega]
    rfl
theorem markS_ev (x:List ByteArray) (hn:x.length ≤ 1048576):Ev (fun k=> laws_markStringS.f k x 1) (1 + (x.length:Int),marksB x.length):=by
  refine Ev.congr (fun k=> ?_) (markS_l x.length hn x.length x 0 (by omega) rfl (by simp))
  unfold laws_markStringS.f
  simp
theorem heldS_l (n:Nat) (hn:n ≤ 1048576) (d:Nat):∀ (i:Nat),i + d=n → Ev (fun k=> laws_heldStringS.l0 k (marksB n) (1 + (i:Int)) (i:Int)) (1 + (n:Int)):=by
  induction d with
  |zero=>
    intro i hi
    refine Ev.step (f:=fun _=> some (1 + (i:Int))) (fun k=> by rw [laws_heldStringS.l0,marksB_length,if_neg (by omega)]) (ev_val (Ev.now _) (by rw [show i=n by omega]))
  |succ d ih=>
    intro i hi
    have e1:rdOf ByteArray.empty (marksB n) (i:Int)=markB i:=by rw [rdT,marksB_get n i (by omega)]
    refine Ev.step (fun k=> by rw [laws_heldStringS.l0,marksB_length,if_pos (by omega),if_pos (by omega)]) (ev_bind (mark_ev i (by omega)) (ev_pos (show (rdOf ByteArray.empty (marksB n) (i:Int)).toList=(markB i).toList by rw [e1]) (Ev.congr (fun k=> ?_) (ih (i + 1) (by omega)))))
    rw [wrap_small (by omega) (by omega),wrap_small (by omega) (by omega)]
    rw [show (1 + (i:Int) + 1)=1 + ((i + 1:Nat):Int) by omega]
    rfl
theorem heldS_ev (n:Nat) (hn:n ≤ 1048576):Ev (fun k=> laws_heldStringS.f k (marksB n) 1) (1 + (n:Int)):=by
  refine Ev.congr (fun k=> ?_) (heldS_l n hn n 0 (by omega))
  unfold laws_heldStringS.f
  simp
theorem FnExactMerklePath:laws_FnExactMerklePath.Pure:=by
  intro l a hl hl2 hwf
  refine Ev.rounds (g:=fun k=> laws_FnExactMerklePath.f k l a) ?_
  unfold laws_FnExactMerklePath.f
  obtain ⟨z,hz,hz1,_⟩:=szStringS_ev (a:=1048576) (by decide) (by decide) hl hl2
  refine ev_bind hz ?_
  by_cases g:z < 0
  · exact ev_pos g (Ev.now _)
  refine ev_neg g ?_
  have hn:=hz1 (by omega)
  have h1:=toStringS_ev l (by omega)
  obtain ⟨p,c,hp,hs,hi⟩:=path_both l a hwf
  have hq:=eqStringS_ev p (by omega)
  refine ev_bind h1 (ev_bind hs (ev_bind h1 (ev_bind hi (ev_bind hq (ev_pos rfl ?_)))))
  simp only [bne_self_eq_false]
  refine Ev.step (fun k=> by rw [laws_FnExactMerklePath.j0,if_neg (by decide)]) ?_
  refine ev_bind h1 (ev_bind (eqStringS_ev l (by omega)) (ev_pos rfl (ev_bind (markS_ev l hn) (ev_neg (by simp only;omega) (ev_bind hq (ev_pos rfl ?_))))))
  simp only [bne_self_eq_false]
  refine Ev.step (fun k=> by rw [laws_FnExactMerklePath.j1,if_neg (by decide)]) ?_
  have hh:=heldS_ev p.length (by omega)
  refine ev_bind (markS_ev p (by omega)) (ev_bind hh (ev_neg (by omega) (ev_pos rfl (ev_bind h1 (ev_bind hi (ev_bind hq (ev_pos rfl ?_)))))))
  simp only [bne_self_eq_false]
  refine Ev.step (fun k=> by rw [laws_FnExactMerklePath.j2,if_neg (by decide)]) ?_
  exact ev_bind hh (ev_neg (by omega) (ev_pos rfl (Ev.now _)))
end Go.Proofs.Ytlogocmojnhpbaa.Pure
end
