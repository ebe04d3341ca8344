-- Packed by a program of this session (slim.py): the plain laws that FnExt needs.
import Derived.Test.YtnggbahcmhdjnaaQFnExt0
import Derived.Test.YtnggbahcmhdjnaaQFnExt1
import Derived.Test.YtnggbahcmhdjnaaQFnExt2
import Derived.Test.YtnggbahcmhdjnaaQFnExt3
section
namespace Go.Proofs.Ytnggbahcmhdjnaa.Pure
open Go.RowKit Go.Proofs.Ytnggbahcmhdjnaa.Print Go.Proofs.YtnggbahcmhdjnaaW.PrintWords Go.Proofs.YtnggbahcmhdjnaaW.PrintLast
set_option linter.unusedSimpArgs false
set_option linter.unusedVariables false
theorem ev_val {α:Type} {g:Nat → Option α} {a b:α} (h:Ev g a) (e:a=b):Ev g b:=e ▸ h
theorem ev_bind {α β:Type} {g:Nat → Option α} {f:Nat → α → Option β} {a:α} {r:β} (h:Ev g a) (k:Ev (fun n=> f n a) r):Ev (fun n=> (g n).bind (f n)) r:=Ev.bind h k
theorem ev_const {α:Type} {o:Option α} {r:α} (h:o=some r):Ev (fun _=> o) r:=by subst h;exact Ev.now r
theorem ev_cbind {α β:Type} {o:Option α} {f:Nat → α → Option β} {a:α} {r:β} (h:o=some a) (k:Ev (fun n=> f n a) r):Ev (fun n=> o.bind (f n)) r:=by subst h;exact k
theorem ev_pos {α:Type} {c:Prop} [Decidable c] {g f:Nat → Option α} {r:α} (h:c) (k:Ev g r):Ev (fun n=> if c then g n else f n) r:=by simpa only [if_pos h] using k
theorem ev_neg {α:Type} {c:Prop} [Decidable c] {g f:Nat → Option α} {r:α} (h:¬ c) (k:Ev f r):Ev (fun n=> if c then g n else f n) r:=by simpa only [if_neg h] using k
def okI (a:Int):Bool:=decide (0 ≤ a ∧ a ≤ 2130706432)
theorem okI_true {a:Int} (h:okI a=true):0 ≤ a ∧ a < 2130706433:=by
  have:=of_decide_eq_true h
  omega
theorem spec_in_f (a b c:Int):spec_l01In.f a b c=some (decide (b ≤ a ∧ a ≤ c)):=by
  unfold spec_l01In.f
  by_cases h:b ≤ a
  · rw [if_pos h];simp [h]
  · rw [if_neg h];simp [h]
theorem impl_in_f (a b c:Int):impl_in.f a b c=some (decide (b ≤ a ∧ a ≤ c)):=by
  unfold impl_in.f
  by_cases h:b ≤ a
  · rw [if_pos h];simp [h]
  · rw [if_neg h];simp [h]
theorem spec_FieldOK_f (a:Int):spec_FieldOK.f a=some (okI a):=by
  unfold spec_FieldOK.f
  rw [spec_in_f];rfl
theorem impl_FieldOK_f (a:Int):impl_FieldOK.f a=some (okI a):=by
  unfold impl_FieldOK.f
  rw [impl_in_f];rfl
theorem mul_bd {a b:Int} (ha0:0 ≤ a) (ha:a < 2130706433) (hb0:0 ≤ b) (hb:b < 2130706433):0 ≤ a * b ∧ a * b ≤ 4539909899366170624:=by
  refine ⟨Int.mul_nonneg ha0 hb0,?_⟩
  have:=Int.mul_le_mul (show a ≤ 2130706432 by omega) (show b ≤ 2130706432 by omega) hb0 (by omega)
  omega
theorem mul_mod {a b:Int} (ha0:0 ≤ a) (ha:a < 2130706433) (hb0:0 ≤ b) (hb:b < 2130706433):Int.tmod (wrap64 (a * b)) 2130706433=a * b % 2130706433:=by
  have h:=mul_bd ha0 ha hb0 hb
  generalize a * b=c at h ⊢
  rw [show wrap64 c=c by unfold wrap64;omega]
  exact Int.tmod_eq_emod_of_nonneg h.1
theorem mod_lt (c:Int):0 ≤ c % 2130706433 ∧ c % 2130706433 < 2130706433:=by omega
theorem impl_mul_f {a b:Int} (ha0:0 ≤ a) (ha:a < 2130706433) (hb0:0 ≤ b) (hb:b < 2130706433):impl_mul.f a b=some (a * b % 2130706433):=by
  unfold impl_mul.f;rw [mul_mod ha0 ha hb0 hb]
theorem spec_mul_f {a b:Int} (ha0:0 ≤ a) (ha:a < 2130706433) (hb0:0 ≤ b) (hb:b < 2130706433):spec_l01Mul.f a b=some (a * b % 2130706433):=by
  unfold spec_l01Mul.f;rw [mul_mod ha0 ha hb0 hb]
theorem add_mod {a b:Int} (ha0:0 ≤ a) (ha:a < 2130706433) (hb0:0 ≤ b) (hb:b < 2130706433):Int.tmod (wrap64 (a + b)) 2130706433=(a + b) % 2130706433:=by
  rw [show wrap64 (a + b)=a + b by unfold wrap64;omega]
  exact Int.tmod_eq_emod_of_nonneg (by omega)
theorem impl_add_f {a b:Int} (ha0:0 ≤ a) (ha:a < 2130706433) (hb0:0 ≤ b) (hb:b < 2130706433):impl_add.f a b=some ((a + b) % 2130706433):=by
  unfold impl_add.f;rw [add_mod ha0 ha hb0 hb]
theorem spec_add_f {a b:Int} (ha0:0 ≤ a) (ha:a < 2130706433) (hb0:0 ≤ b) (hb:b < 2130706433):spec_l01Add.f a b=some ((a + b) % 2130706433):=by
  unfold spec_l01Add.f;rw [add_mod ha0 ha hb0 hb]
theorem impl_sub_f {a b:Int} (ha0:0 ≤ a) (ha:a < 2130706433) (hb0:0 ≤ b) (hb:b < 2130706433):impl_sub.f a b=some ((a - b) % 2130706433):=by
  unfold impl_sub.f
  rw [show wrap64 (wrap64 (a - b) + 2130706433)=a - b + 2130706433 by unfold wrap64;omega,Int.tmod_eq_emod_of_nonneg (by omega)]
  congr 1;omega
def okE (a b:Int):Bool:=okI a && okI b
structure InE (a b:Int):Prop where
  a0:0 ≤ a
  a1:a < 2130706433
  b0:0 ≤ b
  b1:b < 2130706433
theorem okE_true {a b:Int} (h:okE a b=true):InE a b:=by
  unfold okE at h
  rw [Bool.and_eq_true] at h
  have h1:=okI_true h.1
  have h2:=okI_true h.2
  exact ⟨h1.1,h1.2,h2.1,h2.2⟩
theorem spec_ExtOK_f (a b:Int):spec_ExtOK.f a b=some (okE a b):=by
  unfold spec_ExtOK.f okE
  rw [spec_FieldOK_f,spec_FieldOK_f]
  cases okI a <;> simp
theorem impl_ExtOK_f (a b:Int):impl_ExtOK.f a b=some (okE a b):=by
  unfold impl_ExtOK.f okE
  rw [impl_FieldOK_f,impl_FieldOK_f]
  cases okI a <;> simp
theorem three_mod {c:Int} (h0:0 ≤ c) (h1:c < 2130706433):Int.tmod (wrap64 (3 * c)) 2130706433=3 * c % 2130706433:=mul_mod (by omega) (by omega) h0 h1
def normE (a b:Int):Int:=(a * a - 3 * (b * b)) % 2130706433
theorem normE_lt (a b:Int):0 ≤ normE a b ∧ normE a b < 2130706433:=mod_lt _
theorem norm_mod (x y:Int):(x % 2130706433 - 3 * (y % 2130706433) % 2130706433) % 2130706433=(x - 3 * y) % 2130706433:=by omega
theorem impl_norm_f {a b:Int} (h:InE a b):impl_Ext_norm.f a b=some (normE a b):=by
  unfold impl_Ext_norm.f
  have h1:=mod_lt (a * a)
  have h2:=mod_lt (b * b)
  rw [impl_mul_f h.a0 h.a1 h.a0 h.a1,impl_mul_f h.b0 h.b1 h.b0 h.b1]
  simp only [Option.bind_some]
  rw [impl_mul_f (by omega) (by omega) h2.1 h2.2]
  simp only [Option.bind_some]
  have h3:=mod_lt (3 * (b * b % 2130706433))
  rw [impl_sub_f h1.1 h1.2 h3.1 h3.2]
  simp only [Option.bind_some,normE,norm_mod]
def plusE (a b c d:Int):Int × Int:=((a + c) % 2130706433,(b + d) % 2130706433)
def minusE (a b c d:Int):Int × Int:=((a - c) % 2130706433,(b - d) % 2130706433)
def timesE (a b c d:Int):Int × Int:=((a * c + 3 * (b * d)) % 2130706433,(a * d + b * c) % 2130706433)
theorem plusE_in (a b c d:Int):InE (plusE a b c d).1 (plusE a b c d).2:=⟨(mod_lt _).1,(mod_lt _).2,(mod_lt _).1,(mod_lt _).2⟩
theorem minusE_in (a b c d:Int):InE (minusE a b c d).1 (minusE a b c d).2:=⟨(mod_lt _).1,(mod_lt _).2,(mod_lt _).1,(mod_lt _).2⟩
theorem timesE_in (a b c d:Int):InE (timesE a b c d).1 (timesE a b c d).2:=⟨(mod_lt _).1,(mod_lt _).2,(mod_lt _).1,(mod_lt _).2⟩
theorem InE.ok {a b:Int} (h:InE a b):okE a b=true:=by
  have h1:=h.a0;have h2:=h.a1;have h3:=h.b0;have h4:=h.b1
  unfold okE okI
  simp only [Bool.and_eq_true,decide_eq_true_eq]
  omega
section
variable {a b c d:Int}
theorem impl_plus_f (h:InE a b) (g:InE c d):impl_Ext_plus.f a b c d=some (plusE a b c d):=by
  unfold impl_Ext_plus.f
  rw [impl_add_f h.a0 h.a1 g.a0 g.a1,impl_add_f h.b0 h.b1 g.b0 g.b1];rfl
theorem impl_minus_f (h:InE a b) (g:InE c d):impl_Ext_minus.f a b c d=some (minusE a b c d):=by
  unfold impl_Ext_minus.f
  rw [impl_sub_f h.a0 h.a1 g.a0 g.a1,impl_sub_f h.b0 h.b1 g.b0 g.b1];rfl
theorem times_a (x y:Int):(x % 2130706433 + 3 * (y % 2130706433) % 2130706433) % 2130706433=(x + 3 * y) % 2130706433:=by omega
theorem times_b (x y:Int):(x % 2130706433 + y % 2130706433) % 2130706433=(x + y) % 2130706433:=by omega
theorem impl_times_f (h:InE a b) (g:InE c d):impl_Ext_times.f a b c d=some (timesE a b c d):=by
  unfold impl_Ext_times.f
  have h1:=mod_lt (a * c)
  have h2:=mod_lt (b * d)
  have h3:=mod_lt (3 * (b * d % 2130706433))
  have h4:=mod_lt (a * d)
  have h5:=mod_lt (b * c)
  rw [impl_mul_f h.a0 h.a1 g.a0 g.a1,impl_mul_f h.b0 h.b1 g.b0 g.b1,impl_mul_f h.a0 h.a1 g.b0 g.b1,impl_mul_f h.b0 h.b1 g.a0 g.a1]
  simp only [Option.bind_some]
  rw [impl_mul_f (by omega) (by omega) h2.1 h2.2]
  simp only [Option.bind_some]
  rw [impl_add_f h1.1 h1.2 h3.1 h3.2,impl_add_f h4.1 h4.2 h5.1 h5.2]
  simp only [Option.bind_some]
  rw [times_a,times_b]
  rfl
theorem spec_times_f (h:InE a b) (g:InE c d):spec_l02Mul.f a b c d=some (timesE a b c d):=by
  unfold spec_l02Mul.f
  have h1:=mod_lt (a * c)
  have h2:=mod_lt (b * d)
  have h3:=mod_lt (3 * (b * d % 2130706433))
  have h4:=mod_lt (a * d)
  have h5:=mod_lt (b * c)
  rw [spec_mul_f h.a0 h.a1 g.a0 g.a1,spec_mul_f h.b0 h.b1 g.b0 g.b1,spec_mul_f h.a0 h.a1 g.b0 g.b1,spec_mul_f h.b0 h.b1 g.a0 g.a1]
  simp only [Option.bind_some]
  rw [three_mod h2.1 h2.2,spec_add_f h1.1 h1.2 h3.1 h3.2]
  simp only [Option.bind_some]
  rw [spec_add_f h4.1 h4.2 h5.1 h5.2]
  simp only [Option.bind_some]
  rw [times_a,times_b]
  rfl
end
theorem byteI_range {x:Int} (h:(Lit.int .u8 x).wf=true):0 ≤ x ∧ x ≤ 255:=by
  simp [Lit.wf,IntKind.min,IntKind.max,IntKind.signed,IntKind.bits] at h
  omega
theorem rdB_range (l:List Int) (hl:∀ x ∈ l,0 ≤ x ∧ x ≤ 255) (i:Int):0 ≤ rd l i ∧ rd l i ≤ 255:=by
  unfold rd
  rw [List.getD_eq_getElem?_getD]
  by_cases h:i.toNat < l.length
  · rw [List.getElem?_eq_getElem h]
    exact hl _ (List.getElem_mem h)
  · rw [List.getElem?_eq_none (by omega)]
    simp
structure Src (n at_ seed:Int):Prop where
  a0:0 ≤ at_
  a1:at_ ≤ n
  s0:0 ≤ seed
  s1:seed ≤ 2147483647
theorem Src.up {n m a s:Int} (h:Src n a s) (hn:n ≤ m):Src m a s:=⟨h.a0,Int.le_trans h.a1 hn,h.s0,h.s1⟩
theorem byte_f (c:List Int) (hc:∀ x ∈ c,0 ≤ x ∧ x ≤ 255) {n a s:Int} (h:Src n a s) (hn:n ≤ 1000000):∃ v a' s',spec_l00Src_byte.f c a s=some (v,a',s') ∧ 0 ≤ v ∧ v ≤ 255 ∧ Src (n + 1) a' s':=by
  have h0:=h.a0;have h1:=h.a1;have h2:=h.s0;have h3:=h.s1
  unfold spec_l00Src_byte.f
  rw [if_pos (by omega)]
  by_cases hl:a < (c.length:Int)
  · have hr:=rdB_range c hc a
    rw [if_pos hl,if_pos hr]
    exact ⟨_,_,_,rfl,hr.1,hr.2,by omega,by omega,by omega,by omega⟩
  · rw [if_neg hl]
    by_cases h4:3000 < a + 1
    · rw [if_pos h4]
      exact ⟨_,_,_,rfl,by omega,by omega,by omega,by omega,by omega,by omega⟩
    · rw [if_neg h4]
      exact ⟨_,_,_,rfl,by omega,by omega,by omega,by omega,by omega,by omega⟩
theorem next_f (c:List Int) (hc:∀ x ∈ c,0 ≤ x ∧ x ≤ 255) {n a s:Int} (h:Src n a s) (hn:n ≤ 1000000) (m:Int) (h1:1 < m) (h2:m ≤ 256):∃ v a' s',spec_l00Src_next.f c a s m=some (v,a',s') ∧ 0 ≤ v ∧ v < m ∧ Src (n + 1) a' s':=by
  obtain ⟨v,a',s',hb,h3,h4,h5⟩:=byte_f c hc h hn
  unfold spec_l00Src_next.f
  rw [if_neg (by omega),if_pos h2,hb]
  simp only [Option.bind_some]
  rw [if_neg (by omega),Int.tmod_eq_emod_of_nonneg h3]
  exact ⟨_,_,_,rfl,Int.emod_nonneg _ (by omega),Int.emod_lt_of_pos _ (by omega),h5⟩
theorem field_l (c:List Int) (hc:∀ x ∈ c,0 ≤ x ∧ x ≤ 255) (d:Nat):∀ (k:Nat) (x i n a s:Int),0 ≤ i → i + d=5 → d < k → 0 ≤ x → x < 2130706433 → Src n a s → n + (d:Int) ≤ 999990 → ∃ v a' s',spec_l00Src_field.l0 k x i c a s=some (v,a',s') ∧ 0 ≤ v ∧ v < 2130706433 ∧ Src (n + d) a' s':=by
  induction d with
  |zero=>
    intro k x i n a s hi hd hk hx hx1 h hn
    obtain ⟨k,rfl⟩:∃ m,k=m + 1:=⟨k - 1,by omega⟩
    exact ⟨x,a,s,by rw [spec_l00Src_field.l0,if_neg (by omega)],hx,hx1,h.up (by omega)⟩
  |succ d ih=>
    intro k x i n a s hi hd hk hx hx1 h hn
    obtain ⟨k,rfl⟩:∃ m,k=m + 1:=⟨k - 1,by omega⟩
    obtain ⟨v,a',s',hv,h3,h4,h5⟩:=next_f c hc h (by omega) 256 (by omega) (by omega)
    rw [spec_l00Src_field.l0,if_pos (by omega),hv]
    simp only [Option.bind_some]
    rw [show wrap64 (wrap64 (x * 256) + v)=x * 256 + v by unfold wrap64;omega,show wrap64 (i + 1)=i + 1 by unfold wrap64;omega,Int.tmod_eq_emod_of_nonneg (by omega)]
    have hb:(0:Int) ≤ (x * 256 + v) % 2130706433 ∧ (x * 256 + v) % 2130706433 < 2130706433:=by omega
    obtain ⟨r,a2,s2,h6,h7,h8,h9⟩:=ih k _ (i + 1) (n + 1) a' s' (by omega) (by omega) (by omega) hb.1 hb.2 h5 (by omega)
    exact ⟨r,a2,s2,h6,h7,h8,h9.up (by omega)⟩
theorem field_f (c:List Int) (hc:∀ x ∈ c,0 ≤ x ∧ x ≤ 255) (k:Nat) (hk:6 ≤ k) {n a s:Int} (h:Src n a s) (hn:n ≤ 900000):∃ v a' s',spec_l00Src_field.f k c a s=some (v,a',s') ∧ 0 ≤ v ∧ v < 2130706433 ∧ Src (n + 10) a' s':=by
  unfold spec_l00Src_field.f
  obtain ⟨v,a',s',hv,h3,h4,h5⟩:=next_f c hc h (by omega) 5 (by omega) (by omega)
  rw [hv]
  simp only [Option.bind_some]
  by_cases e0:v=0
  · rw [if_pos e0]
    obtain ⟨u,a2,s2,hu,h6,h7,h8⟩:=next_f c hc h5 (by omega) 4 (by omega) (by omega)
    rw [hu]
    exact ⟨u,a2,s2,rfl,by omega,by omega,h8.up (by omega)⟩
  · rw [if_neg e0]
    by_cases e1:v=1
    · rw [if_pos e1]
      obtain ⟨u,a2,s2,hu,h6,h7,h8⟩:=next_f c hc h5 (by omega) 3 (by omega) (by omega)
      rw [hu]
      exact ⟨_,a2,s2,rfl,by unfold wrap64;omega,by unfold wrap64;omega,h8.up (by omega)⟩
    · rw [if_neg e1]
      obtain ⟨u,a2,s2,hu,h6,h7,h8⟩:=field_l c hc 5 k 0 0 (n + 1) a' s' (by omega) (by omega) (by omega) (by omega) (by omega) h5 (by omega)
      exact ⟨u,a2,s2,hu,h6,h7,h8.up (by omega)⟩
theorem chance_f (c:List Int) (hc:∀ x ∈ c,0 ≤ x ∧ x ≤ 255) {n a s:Int} (h:Src n a s) (hn:n ≤ 1000000) (m:Int) (h1:1 < m) (h2:m ≤ 256):∃ v a' s',spec_l00Src_chance.f c a s m=some (v,a',s') ∧ Src (n + 1) a' s':=by
  obtain ⟨v,a',s',hb,h3,h4,h5⟩:=next_f c hc h hn m h1 h2
  unfold spec_l00Src_chance.f
  rw [hb]
  exact ⟨_,_,_,rfl,h5⟩
theorem ext_f (c:List Int) (hc:∀ x ∈ c,0 ≤ x ∧ x ≤ 255) (k:Nat) (hk:6 ≤ k) {n a s:Int} (h:Src n a s) (hn:n ≤ 800000):∃ u v a' s',spec_l00Src_ext.f k c a s=some (u,v,a',s') ∧ InE u v ∧ Src (n + 30) a' s':=by
  unfold spec_l00Src_ext.f
  obtain ⟨b,a1,s1,hb,h1⟩:=chance_f c hc h (by omega) 4 (by omega) (by omega)
  rw [hb]
  simp only [Option.bind_some]
  obtain ⟨u,a2,s2,hu,u0,u1,h2⟩:=field_f c hc k hk h1 (by omega)
  cases b
  · rw [if_neg (by decide),hu]
    simp only [Option.bind_some]
    obtain ⟨v,a3,s3,hv,v0,v1,h3⟩:=field_f c hc k hk h2 (by omega)
    rw [hv]
    exact ⟨u,v,a3,s3,rfl,⟨u0,u1,v0,v1⟩,h3.up (by omega)⟩
  · rw [if_pos rfl,hu]
    exact ⟨u,0,a2,s2,rfl,⟨u0,u1,by omega,by omega⟩,h2.up (by omega)⟩
theorem ExtOf_ev (c:List Int) (hc:∀ x ∈ c,0 ≤ x ∧ x ≤ 255):∃ u v,Ev (fun k=> spec_ExtOf.f k c) (u,v) ∧ InE u v:=by
  obtain ⟨u,v,a',s',hv,h3,_⟩:=ext_f c hc 6 (by omega) (n:=0) (a:=0) (s:=(c.length:Int) % 1000) ⟨by omega,by omega,by omega,by omega⟩ (by omega)
  refine ⟨u,v,Ev.of (k:=6) (spec_ExtOf.mono c) ?_,h3⟩
  unfold spec_ExtOf.f spec_l00Source.f
  simp only [Option.bind_some]
  rw [hv];rfl
theorem mod_eq {x y:Int} (q:Int) (h:x=y + 2130706433 * q):x % 2130706433=y % 2130706433:=by rw [h];omega
theorem mod_q (x:Int):∃ q,x % 2130706433=x + 2130706433 * q:=⟨-(x / 2130706433),by omega⟩
theorem distE (a b c d e f:Int):timesE (plusE a b c d).1 (plusE a b c d).2 e f=plusE (timesE a b e f).1 (timesE a b e f).2 (timesE c d e f).1 (timesE c d e f).2:=by
  unfold timesE plusE
  simp only
  obtain ⟨q1,h1⟩:=mod_q (a + c)
  obtain ⟨q2,h2⟩:=mod_q (b + d)
  obtain ⟨q3,h3⟩:=mod_q (a * e + 3 * (b * f))
  obtain ⟨q4,h4⟩:=mod_q (a * f + b * e)
  obtain ⟨q5,h5⟩:=mod_q (c * e + 3 * (d * f))
  obtain ⟨q6,h6⟩:=mod_q (c * f + d * e)
  rw [h1,h2,h3,h4,h5,h6]
  refine Prod.ext ?_ ?_
  · exact mod_eq (q1 * e + 3 * (q2 * f) - q3 - q5) (by grind)
  · exact mod_eq (q1 * f + q2 * e - q4 - q6) (by grind)
theorem normM (a b c d:Int):normE a b * normE c d % 2130706433=normE (timesE a b c d).1 (timesE a b c d).2:=by
  unfold normE timesE
  simp only
  obtain ⟨q1,h1⟩:=mod_q (a * a - 3 * (b * b))
  obtain ⟨q2,h2⟩:=mod_q (c * c - 3 * (d * d))
  obtain ⟨q3,h3⟩:=mod_q (a * c + 3 * (b * d))
  obtain ⟨q4,h4⟩:=mod_q (a * d + b * c)
  rw [h1,h2,h3,h4]
  exact mod_eq (q1 * (c * c - 3 * (d * d)) + q2 * (a * a - 3 * (b * b)) + 2130706433 * (q1 * q2) - 2 * q3 * (a * c + 3 * (b * d)) - 2130706433 * (q3 * q3) + 6 * q4 * (a * d + b * c) + 3 * 2130706433 * (q4 * q4)) (by grind)
section
variable {a b c d:Int}
theorem impl_ExtAddE (h:InE a b) (g:InE c d):impl_ExtAdd.f a b c d=some ((plusE a b c d).1,(plusE a b c d).2,0):=by
  unfold impl_ExtAdd.f extTwo_plus.f
  rw [impl_ExtOK_f,impl_ExtOK_f,impl_plus_f h g,h.ok,g.ok]
  rfl
theorem impl_ExtSubE (h:InE a b) (g:InE c d):impl_ExtSub.f a b c d=some ((minusE a b c d).1,(minusE a b c d).2,0):=by
  unfold impl_ExtSub.f extTwo_minus.f
  rw [impl_ExtOK_f,impl_ExtOK_f,impl_minus_f h g,h.ok,g.ok]
  rfl
theorem impl_ExtMulE (h:InE a b) (g:InE c d):impl_ExtMul.f a b c d=some ((timesE a b c d).1,(timesE a b c d).2,0):=by
  unfold impl_ExtMul.f extTwo_times.f
  rw [impl_ExtOK_f,impl_ExtOK_f,impl_times_f h g,h.ok,g.ok]
  rfl
theorem spec_ExtMulE (h:InE a b) (g:InE c d):spec_ExtMul.f a b c d=some ((timesE a b c d).1,(timesE a b c d).2,0):=by
  unfold spec_ExtMul.f
  rw [spec_ExtOK_f,spec_ExtOK_f,h.ok,g.ok,spec_times_f h g]
  rfl
theorem impl_NormE (h:InE a b):impl_Norm.f a b=some (normE a b,0):=by
  unfold impl_Norm.f
  rw [impl_ExtOK_f,h.ok,impl_norm_f h]
  rfl
theorem okI_in {a:Int} (h0:0 ≤ a) (h1:a < 2130706433):okI a=true:=by
  unfold okI
  simp only [Bool.and_eq_true,decide_eq_true_eq]
  omega
theorem impl_MulF (ha0:0 ≤ a) (ha:a < 2130706433) (hb0:0 ≤ b) (hb:b < 2130706433):impl_Mul.f a b=some (a * b % 2130706433,0):=by
  unfold impl_Mul.f two_mul.f
  rw [impl_FieldOK_f,impl_FieldOK_f,impl_mul_f ha0 ha hb0 hb,okI_in ha0 ha,okI_in hb0 hb]
  rfl
theorem minus_plus (h:InE a b):minusE (plusE a b c d).1 (plusE a b c d).2 c d=(a,b):=by
  have h1:=h.a0;have h2:=h.a1;have h3:=h.b0;have h4:=h.b1
  unfold minusE plusE
  simp only
  exact Prod.ext (by show ((a + c) % 2130706433 - c) % 2130706433=a;omega) (by show ((b + d) % 2130706433 - d) % 2130706433=b;omega)
end
theorem ne_ff (x y:Int):(!(x==x)||(!(y==y)))=true → False:=by simp
theorem j1_ev (a b c d:Int) (h:InE a b) (g:InE c d):Ev (fun k=> laws_FnExt.j1 k false a b c d (timesE a b c d).1 (timesE a b c d).2) true:=by
  refine Ev.step (fun k=> by rw [laws_FnExt.j1,if_neg (by decide)]) ?_
  have n1:=normE_lt a b
  have n2:=normE_lt c d
  refine ev_cbind (impl_NormE h) (ev_cbind (impl_NormE g) (ev_cbind (impl_NormE (timesE_in a b c d)) (ev_cbind (impl_MulF n1.1 n1.2 n2.1 n2.2) ?_)))
  refine ev_pos rfl (ev_pos rfl (ev_pos rfl (ev_pos rfl (ev_val (Ev.now _) ?_))))
  rw [normM]
  exact beq_self_eq_true _
theorem byte_wf {x:Int} (h:(Lit.int .u8 x).wf=true):0 ≤ x ∧ x ≤ 255:=byteI_range h
theorem FnExt:laws_FnExt.Pure:=by
  intro l m _ _ hl _ _ hm
  refine Ev.rounds (g:=fun k=> laws_FnExt.f k l m) ?_
  unfold laws_FnExt.f
  have big:Ev (fun k=> laws_FnExt.j0 k l m true) true:=Ev.step (f:=fun _=> some true) (fun k=> by rw [laws_FnExt.j0,if_pos rfl]) (Ev.now _)
  by_cases g1:(l.length:Int) > 1048576
  · exact ev_pos g1 big
  · refine ev_neg g1 ?_
    by_cases g2:(m.length:Int) > 1048576
    · rw [decide_eq_true g2];exact big
    · rw [decide_eq_false g2]
      refine Ev.step (fun k=> by rw [laws_FnExt.j0,if_neg (by decide)]) ?_
      obtain ⟨a,b,ha,h1⟩:=ExtOf_ev l (fun x hx=> byte_wf (hl x hx))
      obtain ⟨c,d,hb,h2⟩:=ExtOf_ev m (fun x hx=> byte_wf (hm x hx))
      obtain ⟨e,f,hc,h3⟩:=ExtOf_ev ([7] ++ m) (fun x hx=> by
        rcases List.mem_append.1 hx with hx|hx
        · have:x=7:=by simpa using hx
          omega
        · exact byte_wf (hm x hx))
      refine ev_bind ha (ev_bind hb (ev_cbind rfl (ev_pos (by simp;omega) (ev_bind hc ?_))))
      have p1:=plusE_in a b c d
      refine ev_cbind (impl_ExtAddE h1 h2) (ev_cbind (impl_ExtMulE h1 h2) (ev_cbind (impl_ExtSubE p1 h2) (ev_cbind (impl_ExtMulE p1 h3) (ev_cbind (impl_ExtMulE h1 h3) (ev_cbind (impl_ExtMulE h2 h3) (ev_cbind (impl_ExtAddE (timesE_in a b e f) (timesE_in c d e f)) (ev_cbind (spec_ExtMulE h1 h2) (ev_cbind (impl_ExtMulE (a:=0) (b:=1) (c:=0) (d:=1) ⟨by omega,by omega,by omega,by omega⟩ ⟨by omega,by omega,by omega,by omega⟩) ?_))))))))
      refine ev_pos rfl (ev_pos rfl (ev_pos rfl (ev_pos rfl (ev_pos rfl (ev_pos rfl (ev_pos rfl (ev_pos rfl ?_)))))))
      simp only [minus_plus h1,distE a b c d e f]
      refine ev_neg (ne_ff _ _) (ev_neg (ne_ff _ _) (ev_neg (ne_ff _ _) ?_))
      exact j1_ev a b c d h1 h2
end Go.Proofs.Ytnggbahcmhdjnaa.Pure
end
