-- Packed by a program of this session (slim.py): the plain laws that FnExactTakePlaces needs.
import Derived.Test.YtlogocmojnhpbaaK0
import Derived.Test.YtlogocmojnhpbaaK1
import Derived.Test.YtlogocmojnhpbaaK2
import Derived.Test.YtlogocmojnhpbaaK3
import Derived.Test.YtlogocmojnhpbaaK4
import Derived.Test.YtlogocmojnhpbaaQFnExactTakePlaces0
import Derived.Test.YtlogocmojnhpbaaQFnExactTakePlaces1
import Derived.Test.YtlogocmojnhpbaaQFnExactTakePlaces2
import Derived.Test.YtlogocmojnhpbaaQFnExactTakePlaces3
import Derived.Test.YtlogocmojnhpbaaQFnExactTakePlaces4
import Derived.Test.YtlogocmojnhpbaaQFnExactTakePlaces5
import Derived.Test.YtlogocmojnhpbaaQFnExactTakePlaces6
import Derived.Test.YtlogocmojnhpbaaQFnExactTakePlaces7
import Derived.Test.YtlogocmojnhpbaaQFnExactTakePlaces8
import Derived.Test.YtlogocmojnhpbaaQFnExactTakePlaces9
import Derived.Test.YtlogocmojnhpbaaQFnExactTakePlaces10
import Derived.Test.YtlogocmojnhpbaaP0
section
namespace Go.Proofs.Ytlogocmojnhpbaa.Print
open Go.RowKit Go.Proofs.YtlogocmojnhpbaaW.PrintWords Go.Proofs.YtlogocmojnhpbaaW.PrintLast
def laws_FnExactTakePlaces.Pure:Prop:=∀ (l0_0:List S125) (a0_1:Int) (a0_2:ByteArray) (a0_3:Int) (a1:Int) (a2:Int),l0_0.length ≤ 9223372036854775807 → (∀ y ∈ l0_0,(Lit.int .i64 y.f0).wf=true ∧ (Lit.int .i64 y.f1).wf=true) → (Lit.int .i64 a0_1).wf=true → a0_2.size ≤ 9223372036854775807 → (Lit.int .i64 a0_3).wf=true → (Lit.int .i64 a1).wf=true → (Lit.int .i64 a2).wf=true → ∃ k,laws_FnExactTakePlaces.f k l0_0 a0_1 a0_2 a0_3 a1 a2=some true
end Go.Proofs.Ytlogocmojnhpbaa.Print
end
section
namespace Go.Proofs.Ytlogocmojnhpbaa.Pure
open Go.RowKit Go.Proofs.Ytlogocmojnhpbaa.Print Go.Proofs.YtlogocmojnhpbaaW.PrintWords Go.Proofs.YtlogocmojnhpbaaW.PrintLast
theorem take_set {α:Type} (l:List α) (i:Nat) (v:α) (h:i < l.length):(l.set i v).take (i + 1)=l.take i ++ [v]:=by
  rw [List.take_succ_eq_append_getElem (by simpa using h)]
  rw [List.take_set_of_le (Nat.le_refl i)]
  simp
theorem take_map_succ {α β:Type} (f:α → β) (l:List α) (z:α) (i:Nat) (h:i < l.length):(l.map f).take (i + 1)=(l.map f).take i ++ [f (l.getD i z)]:=by
  rw [List.take_succ_eq_append_getElem (by simpa using h)]
  simp [List.getD_eq_getElem?_getD,List.getElem?_eq_getElem h]
theorem wrap_small {x:Int} (h0:-9223372036854775808 ≤ x) (h1:x ≤ 9223372036854775807):wrap64 x=x:=by unfold wrap64;omega
theorem ev_val {α:Type} {g:Nat → Option α} {a b:α} (h:Ev g a) (e:a=b):Ev g b:=e ▸ h
theorem ev_bind {α β:Type} {g:Nat → Option α} {f:Nat → α → Option β} {a:α} {r:β} (h:Ev g a) (k:Ev (fun n=> f n a) r):Ev (fun n=> (g n).bind (f n)) r:=Ev.bind h k
theorem ev_const {α:Type} {o:Option α} {r:α} (h:o=some r):Ev (fun _=> o) r:=by subst h;exact Ev.now r
theorem ev_cbind {α β:Type} {o:Option α} {f:Nat → α → Option β} {a:α} {r:β} (h:o=some a) (k:Ev (fun n=> f n a) r):Ev (fun n=> o.bind (f n)) r:=by subst h;exact k
theorem ev_pos {α:Type} {c:Prop} [Decidable c] {g f:Nat → Option α} {r:α} (h:c) (k:Ev g r):Ev (fun n=> if c then g n else f n) r:=by simpa only [if_pos h] using k
theorem ev_neg {α:Type} {c:Prop} [Decidable c] {g f:Nat → Option α} {r:α} (h:¬ c) (k:Ev f r):Ev (fun n=> if c then g n else f n) r:=by simpa only [if_neg h] using k
theorem rd_natCast (xs:List Int) (i:Nat):rd xs (i:Int)=xs.getD i 0:=by simp [rd]
end Go.Proofs.Ytlogocmojnhpbaa.Pure
end
section
namespace Go.Proofs.Ytlogocmojnhpbaa.Pure
open Go.RowKit Go.Proofs.Ytlogocmojnhpbaa.Print Go.Proofs.YtlogocmojnhpbaaW.PrintWords Go.Proofs.YtlogocmojnhpbaaW.PrintLast
set_option linter.unusedSimpArgs false
set_option linter.unusedVariables false
theorem laws_eqExtS_l (x0:List (S79)) (hn:x0.length ≤ 1000000000) (d:Nat):∀ (i:Nat),i + d=x0.length → Ev (fun k=> laws_eqExtS.l0 k x0 x0 (i:Int)) true:=by
  induction d with
  |zero=>
    intro i hi
    exact Ev.step (f:=fun _=> some true) (fun k=> by rw [laws_eqExtS.l0,if_neg (by omega)]) (Ev.now _)
  |succ d ih=>
    intro i hi
    refine Ev.step (fun k=> ?_) (ih (i + 1) (by omega))
    rw [laws_eqExtS.l0,if_pos (by omega),if_pos (by omega),if_pos (by omega)]
    unfold laws_eqExt.f
    rw [if_pos rfl,if_pos rfl]
    simp only [Option.bind_some,if_true]
    rw [wrap_small (by omega) (by omega)]
    rfl
theorem laws_eqExtS_ev (x0:List (S79)) (hn:x0.length ≤ 1000000000):Ev (fun k=> laws_eqExtS.f k x0 x0) true:=by
  refine Ev.congr (fun k=> ?_) (laws_eqExtS_l x0 hn x0.length 0 (by omega))
  unfold laws_eqExtS.f
  rw [if_pos rfl]
  rfl
end Go.Proofs.Ytlogocmojnhpbaa.Pure
end
section
namespace Go.Proofs.Ytlogocmojnhpbaa.Pure
open Go.RowKit Go.Proofs.Ytlogocmojnhpbaa.Print Go.Proofs.YtlogocmojnhpbaaW.PrintWords Go.Proofs.YtlogocmojnhpbaaW.PrintLast
set_option linter.unusedSimpArgs false
set_option linter.unusedVariables false
def marksE (n:Nat) (m:Int):List (S79):=(List.range n).map fun (j:Nat)=> (⟨m + 2 * (j:Int),m + 2 * (j:Int) + 1⟩:S79)
theorem marksE_get (n:Nat) (m:Int) (i:Nat) (h:i < n):(marksE n m).getD i z79=(fun (j:Nat)=> (⟨m + 2 * (j:Int),m + 2 * (j:Int) + 1⟩:S79)) i:=by
  unfold marksE
  rw [List.getD_eq_getElem?_getD,List.getElem?_map,List.getElem?_range h]
  rfl
theorem marksE_length (n:Nat) (m:Int):(marksE n m).length=n:=by simp [marksE]
theorem laws_markExtS_l (n:Nat) (hn:n ≤ 1000000000) (d:Nat):∀ (acc:List (S79)) (i:Nat),i + d=n → acc.length=n → acc.take i=(marksE n 1).take i → Ev (fun k=> laws_markExtS.l0 k acc (1 + 2 * (i:Int)) (i:Int)) (1 + 2 * (n:Int),marksE n 1):=by
  induction d with
  |zero=>
    intro acc i hi hl ht
    refine Ev.step (f:=fun _=> some (1 + 2 * (i:Int),acc)) (fun k=> by rw [laws_markExtS.l0,if_neg (by omega)]) (ev_val (Ev.now _) ?_)
    have h1:acc.take i=acc:=List.take_of_length_le (by omega)
    have h2:(marksE n 1).take i=marksE n 1:=List.take_of_length_le (by rw [marksE_length];omega)
    rw [h1,h2] at ht
    rw [ht,show i=n by omega]
  |succ d ih=>
    intro acc i hi hl ht
    have hv:(fun (j:Nat) (m:Int)=> (⟨m + 2 * (j:Int),m + 2 * (j:Int) + 1⟩:S79)) i 1=(fun (j:Nat) (m:Int)=> (⟨m + 2 * (j:Int),m + 2 * (j:Int) + 1⟩:S79)) i 1:=rfl
    have h:=ih (acc.set i ((fun (j:Nat) (m:Int)=> (⟨m + 2 * (j:Int),m + 2 * (j:Int) + 1⟩:S79)) i 1)) (i + 1) (by omega) (by simpa using hl) (by
      rw [take_set _ _ _ (by omega),ht]
      unfold marksE
      rw [take_map_succ _ _ 0 _ (by simp;omega)]
      simp [List.getD_eq_getElem?_getD,List.getElem?_range (show i < n by omega)])
    refine Ev.step (fun k=> ?_) h
    rw [laws_markExtS.l0,if_pos (by omega),if_pos (by omega)]
    simp only [Option.bind_some]
    have e1:rd_T79 (acc.set ((i:Int)).toNat (⟨1 + 2 * (i:Int),(rd_T79 acc (i:Int)).f1⟩:S79)) (i:Int)=⟨1 + 2 * (i:Int),(rd_T79 acc (i:Int)).f1⟩:=by
      unfold rd_T79
      simp only [Int.toNat_natCast]
      rw [List.getD_eq_getElem?_getD,List.getElem?_set_self (by omega)]
      rfl
    rw [e1,wrap_small (by omega) (by omega),wrap_small (by omega) (by omega),wrap_small (by omega) (by omega)]
    simp only [Int.toNat_natCast,List.set_set]
    rw [show (1 + 2 * (i:Int) + 1 + 1)=1 + 2 * ((i + 1:Nat):Int) by omega]
    rfl
theorem laws_markExtS_ev (x:List (S79)) (hn:x.length ≤ 1000000000):Ev (fun k=> laws_markExtS.f k x 1) (1 + 2 * (x.length:Int),marksE x.length 1):=by
  refine Ev.congr (fun k=> ?_) (laws_markExtS_l x.length hn x.length x 0 (by omega) rfl (by simp))
  unfold laws_markExtS.f
  simp
theorem laws_heldExtS_l (n:Nat) (hn:n ≤ 1000000000) (d:Nat):∀ (i:Nat),i + d=n → Ev (fun k=> laws_heldExtS.l0 k (marksE n 1) (1 + 2 * (i:Int)) (i:Int)) (1 + 2 * (n:Int)):=by
  induction d with
  |zero=>
    intro i hi
    refine Ev.step (f:=fun _=> some (1 + 2 * (i:Int))) (fun k=> by rw [laws_heldExtS.l0,marksE_length,if_neg (by omega)]) (ev_val (Ev.now _) (by rw [show i=n by omega]))
  |succ d ih=>
    intro i hi
    refine Ev.step (fun k=> ?_) (ih (i + 1) (by omega))
    rw [laws_heldExtS.l0,marksE_length,if_pos (by omega),if_pos (by omega)]
    have e1:rd_T79 (marksE n 1) (i:Int)=⟨1 + 2 * (i:Int),1 + 2 * (i:Int) + 1⟩:=by
      unfold rd_T79
      rw [Int.toNat_natCast,marksE_get n 1 i (by omega)]
    rw [e1,if_pos rfl,wrap_small (x:=1 + 2 * (i:Int) + 1) (by omega) (by omega),if_pos rfl,wrap_small (by omega) (by omega),wrap_small (by omega) (by omega)]
    rw [show (1 + 2 * (i:Int) + 1 + 1)=1 + 2 * ((i + 1:Nat):Int) by omega]
    rfl
theorem laws_heldExtS_ev (n:Nat) (hn:n ≤ 1000000000):Ev (fun k=> laws_heldExtS.f k (marksE n 1) 1) (1 + 2 * (n:Int)):=by
  refine Ev.congr (fun k=> ?_) (laws_heldExtS_l n hn n 0 (by omega))
  unfold laws_heldExtS.f
  simp
end Go.Proofs.Ytlogocmojnhpbaa.Pure
end
section
namespace Go.Proofs.Ytlogocmojnhpbaa.Pure
open Go.RowKit Go.Proofs.Ytlogocmojnhpbaa.Print Go.Proofs.YtlogocmojnhpbaaW.PrintWords Go.Proofs.YtlogocmojnhpbaaW.PrintLast
set_option linter.unusedSimpArgs false
set_option linter.unusedVariables false
abbrev SX:=S79
theorem eqSource_ev (l:List SX) (hn:l.length ≤ 1000000000) (a:Int) (b:ByteArray) (c:Int):Ev (fun k=> laws_eqSource.f k l a b c l a b c) true:=by
  unfold laws_eqSource.f
  exact ev_bind (laws_eqExtS_ev l hn) (ev_pos rfl (ev_pos rfl (ev_pos rfl (ev_pos rfl (Ev.now _)))))
theorem markSource_ev (l:List SX) (hn:l.length ≤ 1000000000) (a:Int) (b:ByteArray) (c:Int):Ev (fun k=> laws_markSource.f k l a b c 1) (1 + 2 * (l.length:Int),marksE l.length 1):=by
  unfold laws_markSource.f
  exact ev_bind (laws_markExtS_ev l hn) (Ev.now _)
theorem heldSource_ev (n:Nat) (hn:n ≤ 1000000000) (a:Int) (b:ByteArray) (c:Int):Ev (fun k=> laws_heldSource.f k (marksE n 1) a b c 1) (1 + 2 * (n:Int)):=by
  unfold laws_heldSource.f
  exact ev_bind (laws_heldExtS_ev n hn) (ev_neg (by omega) (Ev.now _))
end Go.Proofs.Ytlogocmojnhpbaa.Pure
end
section
namespace Go.Proofs.Ytlogocmojnhpbaa.Pure
open Go.RowKit Go.Proofs.Ytlogocmojnhpbaa.Print Go.Proofs.YtlogocmojnhpbaaW.PrintWords Go.Proofs.YtlogocmojnhpbaaW.PrintLast
theorem spec_hash_f {s:ByteArray} (h:s.size ≤ 140737488350000):spec_l03Hash.f s=some (hashT s):=by unfold spec_l03Hash.f;rw [if_pos h]
theorem impl_hash_f {s:ByteArray} (h:s.size ≤ 140737488350000):impl_hashOf.f s=some (hashT s):=by unfold impl_hashOf.f;rw [if_pos h]
end Go.Proofs.Ytlogocmojnhpbaa.Pure
end
section
namespace Go.Proofs.Ytlogocmojnhpbaa.Pure
open Go.RowKit Go.Proofs.Ytlogocmojnhpbaa.Print Go.Proofs.YtlogocmojnhpbaaW.PrintWords Go.Proofs.YtlogocmojnhpbaaW.PrintLast
theorem wf_i64 {x:Int} (h:(Lit.int .i64 x).wf=true):-9223372036854775808 ≤ x ∧ x ≤ 9223372036854775807:=by
  have h':IntKind.i64.min ≤ x ∧ x ≤ 9223372036854775807:=by simpa [Lit.wf] using h
  have e:IntKind.i64.min=-9223372036854775808:=by decide
  omega
def okI (a:Int):Bool:=decide (0 ≤ a ∧ a ≤ 2130706432)
theorem okI_true {a:Int} (h:okI a=true):0 ≤ a ∧ a < 2130706433:=by
  have:=of_decide_eq_true h
  omega
theorem spec_in_f (a b c:Int):spec_l01In.f a b c=some (decide (b ≤ a ∧ a ≤ c)):=by
  unfold spec_l01In.f
  by_cases h:b ≤ a
  · rw [if_pos h];simp [h]
  · rw [if_neg h];simp [h]
theorem impl_in_f (a b c:Int):impl_in.f a b c=some (decide (b ≤ a ∧ a ≤ c)):=by
  unfold impl_in.f
  by_cases h:b ≤ a
  · rw [if_pos h];simp [h]
  · rw [if_neg h];simp [h]
theorem spec_FieldOK_f (a:Int):spec_FieldOK.f a=some (okI a):=by
  unfold spec_FieldOK.f
  rw [spec_in_f];rfl
theorem impl_FieldOK_f (a:Int):impl_FieldOK.f a=some (okI a):=by
  unfold impl_FieldOK.f
  rw [impl_in_f];rfl
end Go.Proofs.Ytlogocmojnhpbaa.Pure
end
section
namespace Go.Proofs.Ytlogocmojnhpbaa.Pure
open Go.RowKit Go.Proofs.Ytlogocmojnhpbaa.Print Go.Proofs.YtlogocmojnhpbaaW.PrintWords Go.Proofs.YtlogocmojnhpbaaW.PrintLast
def okE (a b:Int):Bool:=okI a && okI b
structure InE (a b:Int):Prop where
  a0:0 ≤ a
  a1:a < 2130706433
  b0:0 ≤ b
  b1:b < 2130706433
theorem okE_true {a b:Int} (h:okE a b=true):InE a b:=by
  unfold okE at h
  rw [Bool.and_eq_true] at h
  have h1:=okI_true h.1
  have h2:=okI_true h.2
  exact ⟨h1.1,h1.2,h2.1,h2.2⟩
theorem spec_ExtOK_f (a b:Int):spec_ExtOK.f a b=some (okE a b):=by
  unfold spec_ExtOK.f okE
  rw [spec_FieldOK_f,spec_FieldOK_f]
  cases okI a <;> simp
theorem impl_ExtOK_f (a b:Int):impl_ExtOK.f a b=some (okE a b):=by
  unfold impl_ExtOK.f okE
  rw [impl_FieldOK_f,impl_FieldOK_f]
  cases okI a <;> simp
theorem InE.ok {a b:Int} (h:InE a b):okE a b=true:=by
  have h1:=h.a0;have h2:=h.a1;have h3:=h.b0;have h4:=h.b1
  unfold okE okI
  simp only [Bool.and_eq_true,decide_eq_true_eq]
  omega
end Go.Proofs.Ytlogocmojnhpbaa.Pure
end
section
namespace Go.Proofs.Ytlogocmojnhpbaa.Pure
open Go Go.RowKit Go.Proofs.Ytlogocmojnhpbaa.Print Go.Proofs.YtlogocmojnhpbaaW.PrintWords Go.Proofs.YtlogocmojnhpbaaW.PrintLast
set_option linter.unusedSimpArgs false
set_option linter.unusedVariables false
def okX (x:S79):Bool:=okE x.f0 x.f1
theorem rdX (l:List S79) (i:Nat):rd_T79 l (i:Int)=l.getD i z79:=by simp [rd_T79]
theorem are_Ext_f (l:List S79):are_Ext.f l=some (l.all okX):=by
  unfold are_Ext.f
  simp only [impl_ExtOK_f,Option.getD_some]
  rfl
theorem okX_getD {l:List S79} (h:l.all okX=true) {i:Nat} (hi:i < l.length):InE (l.getD i z79).f0 (l.getD i z79).f1:=by
  rw [List.getD_eq_getElem?_getD,List.getElem?_eq_getElem hi]
  exact okE_true (List.all_eq_true.1 h _ (List.getElem_mem hi))
theorem allX_drop {l:List S79} {p:S79 → Bool} (i:Nat) (h:i < l.length):(l.drop i).all p=(p (l.getD i z79) && (l.drop (i + 1)).all p):=by
  rw [List.drop_eq_getElem_cons h,List.all_cons,List.getD_eq_getElem?_getD,List.getElem?_eq_getElem h];rfl
theorem spec_list_l (l:List S79) (hn:l.length ≤ 1000000000) (d:Nat):∀ (i:Nat),i + d=l.length → Ev (fun k=> spec_l02List.l0 k l (i:Int)) ((l.drop i).all okX):=by
  induction d with
  |zero=>
    intro i hi
    refine Ev.step (f:=fun _=> some true) (fun k=> by rw [spec_l02List.l0,if_neg (by omega)]) (ev_val (Ev.now _) ?_)
    rw [List.drop_of_length_le (by omega)];rfl
  |succ d ih=>
    intro i hi
    rw [allX_drop i (by omega)]
    by_cases hk:okX (l.getD i z79)=true
    · rw [hk,Bool.true_and]
      refine Ev.step (fun k=> ?_) (ih (i + 1) (by omega))
      rw [spec_l02List.l0,if_pos (by omega),if_pos (by omega),rdX,spec_ExtOK_f]
      simp only [Option.bind_some]
      unfold okX at hk
      rw [hk,if_pos rfl,wrap_small (by omega) (by omega)]
      rfl
    · rw [Bool.not_eq_true] at hk
      rw [hk,Bool.false_and]
      refine Ev.step (f:=fun _=> some false) (fun k=> ?_) (Ev.now _)
      rw [spec_l02List.l0,if_pos (by omega),if_pos (by omega),rdX,spec_ExtOK_f]
      simp only [Option.bind_some]
      rw [if_neg (by unfold okX at hk;rw [hk];decide)]
theorem spec_list_ev (l:List S79) (hn:l.length ≤ 1000000000):Ev (fun k=> spec_l02List.f k l) (l.all okX):=by
  have h:=spec_list_l l hn l.length 0 (by omega)
  exact h
end Go.Proofs.Ytlogocmojnhpbaa.Pure
end
section
namespace Go.Proofs.Ytlogocmojnhpbaa.Pure
open Go Go.RowKit Go.Proofs.Ytlogocmojnhpbaa.Print Go.Proofs.YtlogocmojnhpbaaW.PrintWords Go.Proofs.YtlogocmojnhpbaaW.PrintLast
set_option linter.unusedSimpArgs false
set_option linter.unusedVariables false
theorem szExtS_f {a:Int} (l:List S125) (h0:0 ≤ a) (h1:a ≤ 1048576) (hl:l.length ≤ 9223372036854775807):laws_szExtS.f l a=some (if (l.length:Int) ≤ a then a - (l.length:Int) else -1):=by
  unfold laws_szExtS.f
  rw [wrap_small (by omega) (by omega)]
  by_cases h:(l.length:Int) ≤ a
  · rw [if_neg (by omega),if_pos h]
  · rw [if_pos (by omega),if_neg h]
end Go.Proofs.Ytlogocmojnhpbaa.Pure
end
section
namespace Go.Proofs.Ytlogocmojnhpbaa.Pure
open Go.RowKit Go.Proofs.Ytlogocmojnhpbaa.Print Go.Proofs.YtlogocmojnhpbaaW.PrintWords Go.Proofs.YtlogocmojnhpbaaW.PrintLast
set_option linter.unusedSimpArgs false
set_option linter.unusedVariables false
theorem laws_toExtS_l (x0:List (S125)) (hn:x0.length ≤ 1000000000) (d:Nat):∀ (acc:List (S79)) (i:Nat),i + d=x0.length → acc.length=x0.length → acc.take i=(x0.map fun y=> (⟨y.f0,y.f1⟩:S79)).take i → Ev (fun k=> laws_toExtS.l0 k x0 acc (i:Int)) (x0.map fun y=> (⟨y.f0,y.f1⟩:S79)):=by
  induction d with
  |zero=>
    intro acc i hi hl ht
    refine Ev.step (f:=fun _=> some acc) (fun k=> by rw [laws_toExtS.l0,if_neg (by omega)]) (ev_val (Ev.now _) ?_)
    have h1:acc.take i=acc:=List.take_of_length_le (by omega)
    have h2:(x0.map fun y=> (⟨y.f0,y.f1⟩:S79)).take i=x0.map fun y=> (⟨y.f0,y.f1⟩:S79):=List.take_of_length_le (by simp;omega)
    rw [h1,h2] at ht
    exact ht
  |succ d ih=>
    intro acc i hi hl ht
    have h:=ih (acc.set i (⟨(x0.getD i z125).f0,(x0.getD i z125).f1⟩:S79)) (i + 1) (by omega) (by simpa using hl) (by rw [take_set _ _ _ (by omega),ht,take_map_succ _ _ z125 _ (by omega)])
    refine Ev.step (fun k=> ?_) h
    rw [laws_toExtS.l0,if_pos (by omega),if_pos (by omega)]
    unfold laws_toExt.f
    simp only [Option.bind_some]
    rw [if_pos (by omega),wrap_small (by omega) (by omega)]
    rfl
theorem laws_toExtS_ev (x0:List (S125)) (hn:x0.length ≤ 1000000000):Ev (fun k=> laws_toExtS.f k x0) (x0.map fun y=> (⟨y.f0,y.f1⟩:S79)):=by
  have h:=laws_toExtS_l x0 hn x0.length (List.replicate x0.length z79) 0 (by omega) (by simp) (by simp)
  refine Ev.congr (fun k=> ?_) h
  unfold laws_toExtS.f
  rw [if_pos (by omega),if_pos (by omega)]
  simp only [Int.toNat_natCast]
  rfl
end Go.Proofs.Ytlogocmojnhpbaa.Pure
end
section
namespace Go.Proofs.Ytlogocmojnhpbaa.Pure
open Go Go.RowKit Go.Proofs.Ytlogocmojnhpbaa.Print Go.Proofs.YtlogocmojnhpbaaW.PrintWords Go.Proofs.YtlogocmojnhpbaaW.PrintLast Go.Proofs.YtlogocmojnhpbaaW.PrintMore
set_option linter.unusedSimpArgs false
set_option linter.unusedVariables false
theorem wrapU {x:Int} (h0:0 ≤ x) (h1:x ≤ 9223372036854775807):IntKind.u64.wrap x=x:=by
  have e:IntKind.u64.wrap x=x % 18446744073709551616:=by simp [IntKind.wrap,IntKind.signed,IntKind.bits]
  omega
def okS (l:List SX) (a:Int) (b:ByteArray) (c:Int):Bool:=decide (((l.length:Int) ≤ 64 ∧ l.all okX=true) ∧ (0 ≤ a ∧ a ≤ 1000000) ∧ (b.size:Int)=32 ∧ (0 ≤ c ∧ c ≤ 1000000))
theorem spec_SourceOK_ev (l:List SX) (a:Int) (b:ByteArray) (c:Int):Ev (fun k=> spec_SourceOK.f k l a b c) (okS l a b c):=by
  unfold spec_SourceOK.f
  by_cases h1:(l.length:Int) ≤ 64
  · refine ev_pos h1 (ev_bind (spec_list_ev l (by omega)) ?_)
    by_cases h2:l.all okX=true
    · refine ev_pos h2 (ev_cbind (spec_in_f _ _ _) ?_)
      by_cases h3:0 ≤ a ∧ a ≤ 1000000
      · refine ev_pos (decide_eq_true h3) ?_
        by_cases h4:(b.size:Int)=32
        · refine ev_pos h4 (ev_cbind (spec_in_f _ _ _) (ev_val (Ev.now _) ?_))
          unfold okS
          by_cases h5:0 ≤ c ∧ c ≤ 1000000
          · rw [decide_eq_true h5,decide_eq_true ⟨⟨h1,h2⟩,h3,h4,h5⟩]
          · rw [decide_eq_false h5,decide_eq_false fun h=> h5 h.2.2.2]
        · exact ev_neg h4 (ev_val (Ev.now _) (decide_eq_false fun h=> h4 h.2.2.1).symm)
      · exact ev_neg (by rw [decide_eq_false h3];decide) (ev_val (Ev.now _) (decide_eq_false fun h=> h3 h.2.1).symm)
    · exact ev_neg h2 (ev_val (Ev.now _) (decide_eq_false fun h=> h2 h.1.2).symm)
  · exact ev_neg h1 (ev_val (Ev.now _) (decide_eq_false fun h=> h1 h.1.1).symm)
theorem impl_SourceOK_f (l:List SX) (a:Int) (b:ByteArray) (c:Int):impl_SourceOK.f l a b c=some (okS l a b c):=by
  unfold impl_SourceOK.f impl_isHash.f
  simp only [are_Ext_f,impl_in_f,Option.bind_some,beq_iff_eq,decide_eq_true_eq]
  by_cases h1:(l.length:Int) ≤ 64
  · rw [if_pos h1]
    by_cases h2:l.all okX=true
    · rw [if_pos h2]
      by_cases h4:(b.size:Int)=32
      · rw [if_pos h4]
        by_cases h3:0 ≤ a ∧ a ≤ 1000000
        · rw [if_pos h3]
          unfold okS
          by_cases h5:0 ≤ c ∧ c ≤ 1000000
          · rw [decide_eq_true h5,decide_eq_true ⟨⟨h1,h2⟩,h3,h4,h5⟩]
          · rw [decide_eq_false h5,decide_eq_false fun h=> h5 h.2.2.2]
        · rw [if_neg h3]
          exact congrArg some (decide_eq_false fun h=> h3 h.2.1).symm
      · rw [if_neg h4]
        exact congrArg some (decide_eq_false fun h=> h4 h.2.2.1).symm
    · rw [if_neg h2]
      exact congrArg some (decide_eq_false fun h=> h2 h.1.2).symm
  · rw [if_neg h1]
    exact congrArg some (decide_eq_false fun h=> h1 h.1.1).symm
theorem shr_24 (x:Int):shr .i64 x 24=x / 16777216:=by unfold shr;rw [show (2:Int) ^ min (24:Int).toNat IntKind.i64.bits=16777216 by decide]
theorem shr_16 (x:Int):shr .i64 x 16=x / 65536:=by unfold shr;rw [show (2:Int) ^ min (16:Int).toNat IntKind.i64.bits=65536 by decide]
theorem shr_8 (x:Int):shr .i64 x 8=x / 256:=by unfold shr;rw [show (2:Int) ^ min (8:Int).toNat IntKind.i64.bits=256 by decide]
theorem shr_0 (x:Int):shr .i64 x 0=x:=by unfold shr;rw [show (2:Int) ^ min (0:Int).toNat IntKind.i64.bits=1 by decide];omega
theorem number_f (k:Nat) (x:Int):spec_l02Number.f (k + 5) x 4=some (fourB x):=by
  unfold spec_l02Number.f
  rw [show wrap64 (4 - 1)=3 by decide +kernel]
  rw [spec_l02Number.l0,if_pos (by decide +kernel),if_pos (by decide +kernel),if_pos (by decide +kernel),show wrap64 (3 - 1)=2 by decide +kernel]
  rw [spec_l02Number.l0,if_pos (by decide +kernel),if_pos (by decide +kernel),if_pos (by simp),show wrap64 (2 - 1)=1 by decide +kernel]
  rw [spec_l02Number.l0,if_pos (by decide +kernel),if_pos (by decide +kernel),if_pos (by simp),show wrap64 (1 - 1)=0 by decide +kernel]
  rw [spec_l02Number.l0,if_pos (by decide +kernel),if_pos (by decide +kernel),if_pos (by simp),show wrap64 (0 - 1)=-1 by decide +kernel]
  rw [spec_l02Number.l0,if_neg (by decide +kernel)]
  rw [show IntKind.u64.wrap (wrap64 (8 * 3))=24 by decide +kernel,show IntKind.u64.wrap (wrap64 (8 * 2))=16 by decide +kernel,show IntKind.u64.wrap (wrap64 (8 * 1))=8 by decide +kernel,show IntKind.u64.wrap (wrap64 (8 * 0))=0 by decide +kernel,shr_24,shr_16,shr_8,shr_0]
  rfl
theorem number_ev (x:Int):Ev (fun k=> spec_l02Number.f k x 4) (fourB x):=Ev.of (k:=5) (spec_l02Number.mono x 4) (number_f 0 x)
theorem data_append (a b:ByteArray):(a ++ b).data=a.data ++ b.data:=ByteArray.data_append
theorem bytesOf_append (a b:ByteArray):bytesOf (a ++ b)=bytesOf a ++ bytesOf b:=by
  unfold bytesOf
  rw [data_append,Array.toList_append,List.map_append]
theorem szSource_f {l:List S125} {a c:Int} {b:ByteArray} (hl:l.length ≤ 9223372036854775807) (hb:b.size ≤ 9223372036854775807):∃ z,laws_szSource.f l a b c 1048576=some z ∧ (0 ≤ z → l.length ≤ 1048576 ∧ b.size ≤ 1048576):=by
  unfold laws_szSource.f
  rw [szExtS_f l (by omega) (by omega) hl]
  simp only [Option.bind_some]
  by_cases g:(l.length:Int) ≤ 1048576
  · rw [if_pos g,if_neg (by omega),wrap_small (by omega) (by omega)]
    by_cases g1:(1048576:Int) - (l.length:Int) - (b.size:Int) < 0
    · rw [if_pos g1]
      exact ⟨_,rfl,fun h=> absurd h (by decide)⟩
    · rw [if_neg g1]
      exact ⟨_,rfl,fun _=> by omega⟩
  · rw [if_neg g,if_pos (by decide)]
    exact ⟨_,rfl,fun h=> absurd h (by decide)⟩
theorem toSource_ev (l:List S125) (hn:l.length ≤ 1000000000) (a:Int) (b:ByteArray) (c:Int):Ev (fun k=> laws_toSource.f k l a b c) ((l.map fun y=> (⟨y.f0,y.f1⟩:SX)),a,b,c):=by
  unfold laws_toSource.f
  exact ev_bind (laws_toExtS_ev l hn) (Ev.now _)
theorem okS_size {l:List SX} {a c:Int} {b:ByteArray} (h:okS l a b c=true):(b.size:Int)=32:=(of_decide_eq_true h).2.2.1
end Go.Proofs.Ytlogocmojnhpbaa.Pure
end
section
namespace Go.Proofs.Ytlogocmojnhpbaa.Pure
open Go Go.RowKit Go.Proofs.Ytlogocmojnhpbaa.Print Go.Proofs.YtlogocmojnhpbaaW.PrintWords Go.Proofs.YtlogocmojnhpbaaW.PrintLast Go.Proofs.YtlogocmojnhpbaaW.PrintMore
set_option linter.unusedSimpArgs false
set_option linter.unusedVariables false
theorem own_f (l:List SX) (hl:l.length ≤ 1000000) (a:Int) (b:ByteArray) (c:Int):spec_l05Own.f l a b c=some (l,a,b,c):=by
  unfold spec_l05Own.f
  simp only [Option.bind_some,List.length_nil,List.nil_append]
  rw [if_pos (by omega)]
def absT (b t:ByteArray):ByteArray:=((b ++ (⟨#[97,98,115,111,114,98]⟩:ByteArray)) ++ strOfNums (fourB (t.size:Int))) ++ t
theorem absT_hash (b t:ByteArray):hashT (absT b t)=absorbH b (bytesOf t):=by
  unfold hashT absT absorbH
  rw [bytesOf_append,bytesOf_append,bytesOf_append,bytesOf_strOfNums (fourB_in _),bytesOf_length]
  rfl
theorem spec_Absorb_ev (l:List SX) (a:Int) (b:ByteArray) (c:Int) (t:ByteArray) (hb:b.size ≤ 1000000) (ht:t.size ≤ 1000000):Ev (fun k=> spec_l05Absorb.f k l a b c t) (l,a,absorbH b (bytesOf t),0):=by
  unfold spec_l05Absorb.f
  have hz:(strOfNums (fourB (t.size:Int))).size=4:=by rw [strOfNums_size];rfl
  have hg:(b ++ (⟨#[97,98,115,111,114,98]⟩:ByteArray)).size=b.size + 6:=by rw [ByteArray.size_append];rfl
  have hg2:((b ++ (⟨#[97,98,115,111,114,98]⟩:ByteArray)) ++ strOfNums (fourB (t.size:Int))).size=b.size + 10:=by rw [ByteArray.size_append,hg,hz]
  refine ev_pos (by omega) (ev_bind (number_ev _) (ev_pos (by omega) (ev_pos (by omega) ?_)))
  refine ev_cbind (a:=absorbH b (bytesOf t)) ?_ (Ev.now _)
  rw [← absT_hash]
  exact spec_hash_f (by rw [ByteArray.size_append];omega)
theorem okS_len {l:List SX} {a c:Int} {b:ByteArray} (h:okS l a b c=true):(l.length:Int) ≤ 64:=(of_decide_eq_true h).1.1
end Go.Proofs.Ytlogocmojnhpbaa.Pure
end
section
namespace Go.Proofs.Ytlogocmojnhpbaa.Pure
open Go Go.RowKit Go.Proofs.Ytlogocmojnhpbaa.Print Go.Proofs.YtlogocmojnhpbaaW.PrintWords Go.Proofs.YtlogocmojnhpbaaW.PrintLast Go.Proofs.YtlogocmojnhpbaaW.PrintMore
set_option linter.unusedSimpArgs false
set_option linter.unusedVariables false
theorem bytesOf_part (s:ByteArray) (a b:Nat):bytesOf (s.extract a b)=((bytesOf s).drop a).take (b - a):=by
  unfold bytesOf
  rw [ByteArray.data_extract,Array.toList_extract,List.extract_eq_take_drop,List.map_take,List.map_drop]
theorem field_step (N b:Int) (h0:0 ≤ b) (h1:b ≤ 255):Int.tmod (wrap64 (wrap64 (N % 2130706433 * 256) + wrap64 b)) 2130706433=(N * 256 + b) % 2130706433:=by
  rw [wrap_small (x:=N % 2130706433 * 256) (by omega) (by omega),wrap_small (x:=b) (by omega) (by omega),wrap_small (by omega) (by omega),Int.tmod_eq_emod_of_nonneg (by omega)]
  omega
theorem field_l (s:ByteArray) (hs:s.size=8) (d:Nat):∀ (i:Nat),i + d=8 → spec_l05Field.l0 (d + 1) s (numI (bytesOf s) i % 2130706433) (i:Int)=some (modB (bytesOf s)):=by
  induction d with
  |zero=>
    intro i hi
    obtain rfl:i=8:=by omega
    rw [spec_l05Field.l0,if_neg (by omega)]
    rfl
  |succ d ih=>
    intro i hi
    have h:=ih (i + 1) (by omega)
    have hb:=rdB (bytesOf s) (bytesOf_in s) i
    have e3:wrap64 ((i:Int) + 1)=((i + 1:Nat):Int):=by rw [wrap_small (by omega) (by omega)];rfl
    have c1:(i:Int) < 8:=by omega
    have c0:(0:Int) ≤ (i:Int):=by omega
    have c2:(i:Int) < (s.size:Int):=by omega
    rw [spec_l05Field.l0,if_pos c1,if_pos c0,if_pos c2,← rd_bytesOf,field_step _ _ hb.1 hb.2,e3]
    exact h
theorem field_ev (s:ByteArray) (hs:s.size=8):Ev (fun k=> spec_l05Field.f k s) (modB (bytesOf s)):=Ev.of (k:=9) (spec_l05Field.mono s) (field_l s hs 8 0 (by omega))
def drawT (b:ByteArray) (c:Int):ByteArray:=(b ++ (⟨#[100,114,97,119]⟩:ByteArray)) ++ strOfNums (fourB c)
theorem drawT_hash (b:ByteArray) (c:Int):hashT (drawT b c)=strOfNums (drawH b c):=by
  unfold hashT drawT drawH
  rw [bytesOf_append,bytesOf_append,bytesOf_strOfNums (fourB_in _)]
  rfl
theorem spec_Draw_ev (l:List SX) (a:Int) (b:ByteArray) (c:Int) (ha0:0 ≤ a) (ha1:a ≤ 2000000) (hc0:0 ≤ c) (hc1:c ≤ 2000000) (hb:b.size ≤ 1000000) (hl:l.length ≤ 1000000):Ev (fun k=> spec_l05Draw.f k l a b c) (l,atM l a 1,b,nM l c 1,(drawX l a b c).f0,(drawX l a b c).f1):=by
  unfold spec_l05Draw.f
  by_cases h:l.length=0
  · have e1:atM l a 1=a:=by unfold atM;rw [if_pos h]
    have e2:nM l c 1=c + 1:=by unfold nM;rw [if_pos h];rfl
    have e3:drawX l a b c=⟨modB ((drawH b c).take 8),modB (((drawH b c).drop 8).take 8)⟩:=by unfold drawX;rw [if_pos h]
    rw [e1,e2,e3]
    have hz:(strOfNums (fourB c)).size=4:=by rw [strOfNums_size];rfl
    have hg:(b ++ (⟨#[100,114,97,119]⟩:ByteArray)).size=b.size + 4:=by rw [ByteArray.size_append];rfl
    have hR:(strOfNums (drawH b c)).size=32:=by rw [strOfNums_size,drawH_length]
    have hB:bytesOf (strOfNums (drawH b c))=drawH b c:=bytesOf_strOfNums (drawH_in b c)
    refine ev_neg (by omega) (ev_pos (by omega) (ev_bind (number_ev c) (ev_pos (by omega) (ev_cbind (a:=strOfNums (drawH b c)) ?_ ?_))))
    · rw [← drawT_hash]
      exact spec_hash_f (by rw [ByteArray.size_append];omega)
    · have f1:=field_ev ((strOfNums (drawH b c)).extract 0 8) (by rw [ByteArray.size_extract];omega)
      have f2:=field_ev ((strOfNums (drawH b c)).extract 8 16) (by rw [ByteArray.size_extract];omega)
      rw [bytesOf_part,hB] at f1 f2
      refine ev_pos (by omega) (ev_pos (by omega) (ev_bind f1 (ev_pos (by omega) (ev_pos (by omega) (ev_bind f2 (ev_val (Ev.now _) ?_))))))
      rw [wrap_small (by omega) (by omega)]
      rfl
  · have e1:atM l a 1=a + 1:=by unfold atM;rw [if_neg h];rfl
    have e2:nM l c 1=c:=by unfold nM;rw [if_neg h]
    have e3:drawX l a b c=rd_T79 l (a % (l.length:Int)):=by unfold drawX;rw [if_neg h]
    rw [e1,e2,e3,Int.tmod_eq_emod_of_nonneg ha0]
    have q0:0 ≤ a % (l.length:Int):=Int.emod_nonneg _ (by omega)
    have q1:a % (l.length:Int) < (l.length:Int):=Int.emod_lt_of_pos _ (by omega)
    refine ev_pos (by omega) (ev_neg (by omega) (ev_pos q0 (ev_pos q1 (ev_val (Ev.now _) ?_))))
    rw [wrap_small (by omega) (by omega)]
theorem spec_Some_l (l:List SX) (a:Int) (b:ByteArray) (c:Int) (m:Nat) (ha0:0 ≤ a) (ha1:a ≤ 1000000) (hc0:0 ≤ c) (hc1:c ≤ 1000000) (hb:b.size ≤ 1000000) (hl:l.length ≤ 1000000) (hm:m ≤ 1000) (d:Nat):∀ (i:Nat),i + d=m → Ev (fun k=> spec_l05Some.l0 k (m:Int) (drawsX l a b c i) (i:Int) l (atM l a i) b (nM l c i)) (l,atM l a m,b,nM l c m,drawsX l a b c m):=by
  induction d with
  |zero=>
    intro i hi
    obtain rfl:i=m:=by omega
    exact Ev.step (f:=fun _=> some (l,atM l a i,b,nM l c i,drawsX l a b c i)) (fun k=> by rw [spec_l05Some.l0,if_neg (by omega)]) (Ev.now _)
  |succ d ih=>
    intro i hi
    have h:=ih (i + 1) (by omega)
    have hi1:a + (i:Int) ≤ 2000000:=by omega
    have hi2:c + (i:Int) ≤ 2000000:=by omega
    have q1:0 ≤ atM l a i ∧ atM l a i ≤ 2000000:=⟨Int.le_trans ha0 (atM_bd l a i).1,Int.le_trans (atM_bd l a i).2 hi1⟩
    have q2:0 ≤ nM l c i ∧ nM l c i ≤ 2000000:=⟨Int.le_trans hc0 (nM_bd l c i).1,Int.le_trans (nM_bd l c i).2 hi2⟩
    have hL:(drawsX l a b c i).length < 8796093022208:=by rw [drawsX_length];omega
    have e3:wrap64 ((i:Int) + 1)=((i + 1:Nat):Int):=by rw [wrap_small (by omega) (by omega)];rfl
    rw [drawsX_succ,← atM_succ,← nM_succ] at h
    have hD:=spec_Draw_ev l (atM l a i) b (nM l c i) q1.1 q1.2 q2.1 q2.2 hb hl
    have c1:(i:Int) < (m:Int):=by omega
    refine Ev.step (f:=fun k=> (spec_l05Draw.f k l (atM l a i) b (nM l c i)).bind fun t=> if (drawsX l a b c i).length < 8796093022208 then spec_l05Some.l0 k (m:Int) (drawsX l a b c i ++ [⟨t.2.2.2.2.1,t.2.2.2.2.2⟩]) ((i + 1:Nat):Int) t.1 t.2.1 t.2.2.1 t.2.2.2.1 else none) (fun k=> by rw [spec_l05Some.l0,if_pos c1,e3]) (ev_bind hD (ev_pos hL h))
theorem spec_Some_ev (l:List SX) (a:Int) (b:ByteArray) (c:Int) (m:Int) (ha0:0 ≤ a) (ha1:a ≤ 1000000) (hc0:0 ≤ c) (hc1:c ≤ 1000000) (hb:b.size ≤ 1000000) (hl:l.length ≤ 1000000) (hm0:0 ≤ m) (hm:m ≤ 1000):Ev (fun k=> spec_l05Some.f k l a b c m) (l,atM l a m.toNat,b,nM l c m.toNat,drawsX l a b c m.toNat):=by
  have h:=spec_Some_l l a b c m.toNat ha0 ha1 hc0 hc1 hb hl (by omega) m.toNat 0 (by omega)
  have e1:atM l a 0=a:=by unfold atM;split <;> omega
  have e2:nM l c 0=c:=by unfold nM;split <;> omega
  rw [e1,e2,show ((m.toNat:Nat):Int)=m by omega] at h
  exact h
theorem spent_f (l:List SX) (a:Int) (b:ByteArray) (c m:Int) (ha0:0 ≤ a) (ha1:a ≤ 1000000) (hc0:0 ≤ c) (hc1:c ≤ 1000000) (hm0:0 ≤ m) (hm:m ≤ 1000):spec_l05Spent.f l a b c m=some (decide (m > 1000000 - mx a c)):=by
  unfold spec_l05Spent.f
  rw [wrap_small (by omega) (by omega)]
  by_cases h:a > 1000000 - m
  · rw [if_pos h,decide_eq_true (by unfold mx;split <;> omega)]
  · rw [if_neg h]
    congr 1
    have:(c > 1000000 - m) ↔ (m > 1000000 - mx a c):=by unfold mx;split <;> constructor <;> intro <;> omega
    exact decide_eq_decide.2 this
theorem okS_bd {l:List SX} {a c:Int} {b:ByteArray} (h:okS l a b c=true):(0 ≤ a ∧ a ≤ 1000000) ∧ (0 ≤ c ∧ c ≤ 1000000):=⟨(of_decide_eq_true h).2.1,(of_decide_eq_true h).2.2.2⟩
def someL (l:List SX) (a:Int) (b:ByteArray) (c m:Int):List SX × Int × ByteArray × Int × List SX × Int:=
  if okS l a b c=true then (if 0 ≤ m ∧ m ≤ 100 then (if m > 1000000 - mx a c then (l,a,b,c, [],6) else (l,atM l a m.toNat,b,nM l c m.toNat,drawsX l a b c m.toNat,0)) else ([],0,⟨#[]⟩,0, [],4)) else ([],0,⟨#[]⟩,0, [],1)
theorem impl_TakeSome_f (l:List SX) (a:Int) (b:ByteArray) (c m:Int):impl_TakeSome.f l a b c m=some (someL l a b c m):=by
  unfold impl_TakeSome.f someL
  rw [impl_SourceOK_f]
  simp only [Option.bind_some]
  by_cases h:okS l a b c=true
  · have hs:=okS_size h
    have hl:=okS_len h
    have hq:=okS_bd h
    rw [if_pos h,if_pos h]
    by_cases h1:0 ≤ m ∧ m ≤ 100
    · rw [if_pos h1,if_pos h1,if_pos ⟨hq.1.1,hq.1.2,hq.2.1,hq.2.2,by omega,by omega⟩]
      by_cases h2:m > 1000000 - mx a c
      · rw [if_pos h2,if_pos h2]
      · rw [if_neg h2,if_neg h2]
    · rw [if_neg h1,if_neg h1]
  · rw [if_neg h,if_neg h]
theorem someL_len (l:List SX) (a:Int) (b:ByteArray) (c m:Int):(someL l a b c m).1.length ≤ 1000000000 ∧ (someL l a b c m).2.2.2.2.1.length ≤ 1000000000:=by
  unfold someL
  split
  · next h=>
    have hl:=okS_len h
    split
    · next h1=>
      split
      · exact ⟨by simp only [];omega,by simp⟩
      · exact ⟨by simp only [];omega,by simp only [drawsX_length];omega⟩
    · simp
  · simp
end Go.Proofs.Ytlogocmojnhpbaa.Pure
end
section
namespace Go.Proofs.Ytlogocmojnhpbaa.Pure
open Go.RowKit Go.Proofs.Ytlogocmojnhpbaa.Print Go.Proofs.YtlogocmojnhpbaaW.PrintWords Go.Proofs.YtlogocmojnhpbaaW.PrintLast
set_option linter.unusedSimpArgs false
set_option linter.unusedVariables false
theorem laws_eqIntS_l (x0:List (Int)) (hn:x0.length ≤ 1000000000) (d:Nat):∀ (i:Nat),i + d=x0.length → Ev (fun k=> laws_eqIntS.l0 k x0 x0 (i:Int)) true:=by
  induction d with
  |zero=>
    intro i hi
    exact Ev.step (f:=fun _=> some true) (fun k=> by rw [laws_eqIntS.l0,if_neg (by omega)]) (Ev.now _)
  |succ d ih=>
    intro i hi
    refine Ev.step (fun k=> ?_) (ih (i + 1) (by omega))
    rw [laws_eqIntS.l0,if_pos (by omega),if_pos (by omega),if_pos (by omega)]
    rw [if_pos rfl,wrap_small (by omega) (by omega)]
    rfl
theorem laws_eqIntS_ev (x0:List (Int)) (hn:x0.length ≤ 1000000000):Ev (fun k=> laws_eqIntS.f k x0 x0) true:=by
  refine Ev.congr (fun k=> ?_) (laws_eqIntS_l x0 hn x0.length 0 (by omega))
  unfold laws_eqIntS.f
  rw [if_pos rfl]
  rfl
end Go.Proofs.Ytlogocmojnhpbaa.Pure
end
section
namespace Go.Proofs.Ytlogocmojnhpbaa.Pure
open Go.RowKit Go.Proofs.Ytlogocmojnhpbaa.Print Go.Proofs.YtlogocmojnhpbaaW.PrintWords Go.Proofs.YtlogocmojnhpbaaW.PrintLast
set_option linter.unusedSimpArgs false
set_option linter.unusedVariables false
def marksI (n:Nat) (m:Int):List (Int):=(List.range n).map fun (j:Nat)=> m + (j:Int)
theorem marksI_get (n:Nat) (m:Int) (i:Nat) (h:i < n):(marksI n m).getD i 0=(fun (j:Nat)=> m + (j:Int)) i:=by
  unfold marksI
  rw [List.getD_eq_getElem?_getD,List.getElem?_map,List.getElem?_range h]
  rfl
theorem marksI_length (n:Nat) (m:Int):(marksI n m).length=n:=by simp [marksI]
theorem markIM_l (m:Int) (h0:0 ≤ m) (h1:m ≤ 10000000000) (n:Nat) (hn:n ≤ 1000000000) (d:Nat):∀ (acc:List (Int)) (i:Nat),i + d=n → acc.length=n → acc.take i=(marksI n m).take i → Ev (fun k=> laws_markIntS.l0 k acc (m + (i:Int)) (i:Int)) (m + (n:Int),marksI n m):=by
  induction d with
  |zero=>
    intro acc i hi hl ht
    refine Ev.step (f:=fun _=> some (m + (i:Int),acc)) (fun k=> by rw [laws_markIntS.l0,if_neg (by omega)]) (ev_val (Ev.now _) ?_)
    have h1:acc.take i=acc:=List.take_of_length_le (by omega)
    have h2:(marksI n m).take i=marksI n m:=List.take_of_length_le (by rw [marksI_length];omega)
    rw [h1,h2] at ht
    rw [ht,show i=n by omega]
  |succ d ih=>
    intro acc i hi hl ht
    have h:=ih (acc.set i ((fun (j:Nat)=> m + (j:Int)) i)) (i + 1) (by omega) (by simpa using hl) (by
      rw [take_set _ _ _ (by omega),ht]
      unfold marksI
      rw [take_map_succ _ _ 0 _ (by simp;omega)]
      simp [List.getD_eq_getElem?_getD,List.getElem?_range (show i < n by omega)])
    refine Ev.step (fun k=> ?_) h
    rw [laws_markIntS.l0,if_pos (by omega),if_pos (by omega)]
    rw [wrap_small (by omega) (by omega),wrap_small (by omega) (by omega),Int.toNat_natCast]
    rw [show (m + (i:Int) + 1)=m + ((i + 1:Nat):Int) by omega]
    rfl
theorem markIM_ev (m:Int) (h0:0 ≤ m) (h1:m ≤ 10000000000) (x:List (Int)) (hn:x.length ≤ 1000000000):Ev (fun k=> laws_markIntS.f k x m) (m + (x.length:Int),marksI x.length m):=by
  refine Ev.congr (fun k=> ?_) (markIM_l m h0 h1 x.length hn x.length x 0 (by omega) rfl (by simp))
  unfold laws_markIntS.f
  simp
theorem heldIM_l (m:Int) (h0:0 ≤ m) (h1:m ≤ 10000000000) (n:Nat) (hn:n ≤ 1000000000) (d:Nat):∀ (i:Nat),i + d=n → Ev (fun k=> laws_heldIntS.l0 k (marksI n m) (m + (i:Int)) (i:Int)) (m + (n:Int)):=by
  induction d with
  |zero=>
    intro i hi
    refine Ev.step (f:=fun _=> some (m + (i:Int))) (fun k=> by rw [laws_heldIntS.l0,marksI_length,if_neg (by omega)]) (ev_val (Ev.now _) (by rw [show i=n by omega]))
  |succ d ih=>
    intro i hi
    refine Ev.step (fun k=> ?_) (ih (i + 1) (by omega))
    rw [laws_heldIntS.l0,marksI_length,if_pos (by omega),if_pos (by omega)]
    have e1:rd (marksI n m) (i:Int)=m + (i:Int):=by
      rw [rd_natCast,marksI_get n m i (by omega)]
    rw [e1,if_pos rfl,wrap_small (by omega) (by omega),wrap_small (by omega) (by omega)]
    rw [show (m + (i:Int) + 1)=m + ((i + 1:Nat):Int) by omega]
    rfl
theorem heldIM_ev (m:Int) (h0:0 ≤ m) (h1:m ≤ 10000000000) (n:Nat) (hn:n ≤ 1000000000):Ev (fun k=> laws_heldIntS.f k (marksI n m) m) (m + (n:Int)):=by
  refine Ev.congr (fun k=> ?_) (heldIM_l m h0 h1 n hn n 0 (by omega))
  unfold laws_heldIntS.f
  simp
end Go.Proofs.Ytlogocmojnhpbaa.Pure
end
section
namespace Go.Proofs.Ytlogocmojnhpbaa.Pure
open Go Go.RowKit Go.Proofs.Ytlogocmojnhpbaa.Print Go.Proofs.YtlogocmojnhpbaaW.PrintWords Go.Proofs.YtlogocmojnhpbaaW.PrintLast
set_option linter.unusedSimpArgs false
set_option linter.unusedVariables false
def placesX (xs:List SX) (q:Int):List Int:=xs.map fun x=> Int.tmod x.f0 q
theorem placesX_take {xs:List SX} {q:Int} {i:Nat} (h:i < xs.length):placesX (xs.take (i + 1)) q=placesX (xs.take i) q ++ [Int.tmod (xs.getD i z79).f0 q]:=by
  unfold placesX
  rw [List.take_succ_eq_append_getElem h,List.map_append,List.getD_eq_getElem?_getD,List.getElem?_eq_getElem h]
  simp
theorem placesX_length (xs:List SX) (q:Int):(placesX xs q).length=xs.length:=List.length_map _
theorem impl_places_l (xs:List SX) (q:Int) (hq:q ≠ 0) (hn:xs.length ≤ 1000000) (d:Nat):∀ (i:Nat),i + d=xs.length → Ev (fun k=> impl_places.l0 k q (placesX (xs.take i) q) xs (xs.length:Int) (i:Int)) (placesX xs q):=by
  induction d with
  |zero=>
    intro i hi
    refine Ev.step (f:=fun _=> some (placesX (xs.take i) q)) (fun k=> by rw [impl_places.l0,if_neg (by omega)]) (ev_val (Ev.now _) ?_)
    rw [List.take_of_length_le (by omega)]
  |succ d ih=>
    intro i hi
    have h:=ih (i + 1) (by omega)
    rw [placesX_take (by omega)] at h
    have c1:(i:Int) < (xs.length:Int):=by omega
    have c0:(0:Int) ≤ (i:Int):=by omega
    have c2:(placesX (xs.take i) q).length < 17592186044416:=by rw [placesX_length,List.length_take];omega
    have e3:wrap64 ((i:Int) + 1)=((i + 1:Nat):Int):=by rw [wrap_small (by omega) (by omega)];rfl
    refine Ev.step (fun k=> ?_) h
    rw [impl_places.l0,if_pos c1,if_pos c0,if_pos c1,if_neg hq,if_pos c2,rdX,e3]
theorem impl_places_ev (xs:List SX) (q:Int) (hq:q ≠ 0) (hn:xs.length ≤ 1000000):Ev (fun k=> impl_places.f k xs q) (placesX xs q):=impl_places_l xs q hq hn xs.length 0 (by omega)
theorem spec_places_l (xs l:List SX) (a:Int) (b:ByteArray) (c q:Int) (hq:q ≠ 0) (hn:xs.length ≤ 1000000) (d:Nat):∀ (i:Nat),i + d=xs.length → Ev (fun k=> spec_l05Places.l0 k (xs.length:Int) q xs (placesX (xs.take i) q) (i:Int) l a b c) (l,a,b,c,placesX xs q):=by
  induction d with
  |zero=>
    intro i hi
    refine Ev.step (f:=fun _=> some (l,a,b,c,placesX (xs.take i) q)) (fun k=> by rw [spec_l05Places.l0,if_neg (by omega)]) (ev_val (Ev.now _) ?_)
    rw [List.take_of_length_le (by omega)]
  |succ d ih=>
    intro i hi
    have h:=ih (i + 1) (by omega)
    rw [placesX_take (by omega)] at h
    have c1:(i:Int) < (xs.length:Int):=by omega
    have c0:(0:Int) ≤ (i:Int):=by omega
    have c2:(placesX (xs.take i) q).length < 17592186044416:=by rw [placesX_length,List.length_take];omega
    have e3:wrap64 ((i:Int) + 1)=((i + 1:Nat):Int):=by rw [wrap_small (by omega) (by omega)];rfl
    refine Ev.step (fun k=> ?_) h
    rw [spec_l05Places.l0,if_pos c1,if_pos c0,if_pos c1,if_neg hq,if_pos c2,rdX,e3]
theorem spec_Places_ev (l:List SX) (a:Int) (b:ByteArray) (c m q:Int) (hq:q ≠ 0) (ha0:0 ≤ a) (ha1:a ≤ 1000000) (hc0:0 ≤ c) (hc1:c ≤ 1000000) (hb:b.size ≤ 1000000) (hl:l.length ≤ 1000000) (hm0:0 ≤ m) (hm:m ≤ 1000):Ev (fun k=> spec_l05Places.f k l a b c m q) (l,atM l a m.toNat,b,nM l c m.toNat,placesX (drawsX l a b c m.toNat) q):=by
  unfold spec_l05Places.f
  have h:=spec_places_l (drawsX l a b c m.toNat) l (atM l a m.toNat) b (nM l c m.toNat) q hq (by rw [drawsX_length];omega) (drawsX l a b c m.toNat).length 0 (by omega)
  rw [drawsX_length,show ((m.toNat:Nat):Int)=m by omega] at h
  exact ev_bind (spec_Some_ev l a b c m ha0 ha1 hc0 hc1 hb hl hm0 hm) h
def plL (l:List SX) (a:Int) (b:ByteArray) (c m q:Int):List SX × Int × ByteArray × Int × List Int × Int:=
  if okS l a b c=true then (if (0 ≤ m ∧ m ≤ 100) ∧ (1 ≤ q ∧ q ≤ 65536) then (if m > 1000000 - mx a c then (l,a,b,c, [],6) else (l,atM l a m.toNat,b,nM l c m.toNat,placesX (drawsX l a b c m.toNat) q,0)) else ([],0,⟨#[]⟩,0, [],4)) else ([],0,⟨#[]⟩,0, [],1)
theorem plL_len (l:List SX) (a:Int) (b:ByteArray) (c m q:Int):(plL l a b c m q).1.length ≤ 1000000000 ∧ (plL l a b c m q).2.2.2.2.1.length ≤ 1000000000:=by
  unfold plL
  split
  · next h=>
    have hl:=okS_len h
    split
    · next h1=>
      split
      · exact ⟨by simp only [];omega,by simp⟩
      · exact ⟨by simp only [];omega,by simp only [placesX_length,drawsX_length];omega⟩
    · simp
  · simp
theorem spec_TakePlaces_j (l:List SX) (a:Int) (b:ByteArray) (c m q:Int) (h:okS l a b c=true) {p:Bool} (hp:p= !decide ((0 ≤ m ∧ m ≤ 100) ∧ (1 ≤ q ∧ q ≤ 65536))):Ev (fun k=> spec_TakePlaces.j0 k m q p l a b c) (plL l a b c m q):=by
  have hs:=okS_size h
  have hl:=okS_len h
  have hq:=okS_bd h
  unfold plL
  rw [if_pos h]
  by_cases h1:(0 ≤ m ∧ m ≤ 100) ∧ (1 ≤ q ∧ q ≤ 65536)
  · rw [decide_eq_true h1] at hp
    subst hp
    rw [if_pos h1]
    refine Ev.step (fun k=> by rw [spec_TakePlaces.j0,if_neg (by decide)]) ?_
    refine ev_cbind (spent_f l a b c m hq.1.1 hq.1.2 hq.2.1 hq.2.2 h1.1.1 (by omega)) ?_
    by_cases h2:m > 1000000 - mx a c
    · rw [if_pos h2]
      exact ev_pos (decide_eq_true h2) (ev_cbind (own_f l (by omega) _ _ _) (Ev.now _))
    · rw [if_neg h2]
      exact ev_neg (by rw [decide_eq_false h2];decide) (ev_bind (spec_Places_ev l a b c m q (by omega) hq.1.1 hq.1.2 hq.2.1 hq.2.2 (by omega) (by omega) h1.1.1 (by omega)) (ev_cbind (own_f l (by omega) _ _ _) (Ev.now _)))
  · rw [decide_eq_false h1] at hp
    subst hp
    rw [if_neg h1]
    exact Ev.step (f:=fun _=> some ([],0,⟨#[]⟩,0, [],4)) (fun k=> by rw [spec_TakePlaces.j0,if_pos (by decide)]) (Ev.now _)
theorem spec_TakePlaces_ev (l:List SX) (a:Int) (b:ByteArray) (c m q:Int):Ev (fun k=> spec_TakePlaces.f k l a b c m q) (plL l a b c m q):=by
  unfold spec_TakePlaces.f
  refine ev_bind (spec_SourceOK_ev l a b c) ?_
  by_cases h:okS l a b c=true
  · refine ev_pos h (ev_cbind (spec_in_f _ _ _) ?_)
    by_cases h1:0 ≤ m ∧ m ≤ 100
    · refine ev_pos (decide_eq_true h1) (ev_cbind (spec_in_f _ _ _) (spec_TakePlaces_j l a b c m q h ?_))
      by_cases h2:1 ≤ q ∧ q ≤ 65536
      · rw [decide_eq_true h2,decide_eq_true ⟨h1,h2⟩]
      · rw [decide_eq_false h2,decide_eq_false fun x=> h2 x.2]
    · exact ev_neg (by rw [decide_eq_false h1];decide) (spec_TakePlaces_j l a b c m q h (by rw [decide_eq_false fun x=> h1 x.1];rfl))
  · exact ev_neg h (ev_val (Ev.now _) (by unfold plL;rw [if_neg h]))
theorem impl_TakePlaces_ev (l:List SX) (a:Int) (b:ByteArray) (c m q:Int):Ev (fun k=> impl_TakePlaces.f k l a b c m q) (plL l a b c m q):=by
  unfold impl_TakePlaces.f plL
  refine ev_cbind (impl_SourceOK_f l a b c) ?_
  by_cases h:okS l a b c=true
  · rw [if_pos h]
    refine ev_pos h (ev_cbind (impl_in_f _ _ _) ?_)
    by_cases h1:0 ≤ m ∧ m ≤ 100
    · refine ev_pos (decide_eq_true h1) (ev_cbind (impl_in_f _ _ _) ?_)
      by_cases h2:1 ≤ q ∧ q ≤ 65536
      · rw [if_pos ⟨h1,h2⟩]
        have hsm:=impl_TakeSome_f l a b c m
        unfold someL at hsm
        rw [if_pos h,if_pos h1] at hsm
        refine ev_pos (decide_eq_true h2) ?_
        by_cases h3:m > 1000000 - mx a c
        · rw [if_pos h3] at hsm
          rw [if_pos h3]
          exact ev_cbind hsm (ev_neg (by show ¬ ((6:Int)=0);decide) (Ev.now _))
        · rw [if_neg h3] at hsm
          rw [if_neg h3]
          exact ev_cbind hsm (ev_pos rfl (ev_bind (impl_places_ev _ q (by omega) (by rw [drawsX_length];omega)) (Ev.now _)))
      · rw [if_neg fun x=> h2 x.2]
        exact ev_neg (by rw [decide_eq_false h2];decide) (Ev.now _)
    · rw [if_neg fun x=> h1 x.1]
      exact ev_neg (by rw [decide_eq_false h1];decide) (Ev.now _)
  · rw [if_neg h]
    exact ev_neg h (Ev.now _)
theorem FnExactTakePlaces:laws_FnExactTakePlaces.Pure:=by
  intro l a b c t q hl _ _ hb _ _ _
  refine Ev.rounds (g:=fun k=> laws_FnExactTakePlaces.f k l a b c t q) ?_
  unfold laws_FnExactTakePlaces.f
  obtain ⟨z,hz,hz1⟩:=szSource_f (l:=l) (a:=a) (c:=c) hl hb
  refine ev_cbind hz ?_
  by_cases h:z < 0
  · exact ev_pos h (Ev.now _)
  · refine ev_neg h ?_
    obtain ⟨hn,_⟩:=hz1 (by omega)
    have h1:=toSource_ev l (by omega) a b c
    have hlen:(l.map fun y=> (⟨y.f0,y.f1⟩:SX)).length=l.length:=List.length_map _
    generalize (l.map fun y=> (⟨y.f0,y.f1⟩:SX))=m at h1 hlen
    have hm:m.length ≤ 1000000000:=by omega
    have hsp:=spec_TakePlaces_ev m a b c t q
    have hi:=impl_TakePlaces_ev m a b c t q
    have hx:=plL_len m a b c t q
    generalize plL m a b c t q=x at hsp hi hx
    obtain ⟨r,a',b',c',y,e⟩:=x
    obtain ⟨hx,hy⟩:=hx
    have hx:r.length ≤ 1000000000:=hx
    have hy:y.length ≤ 1000000000:=hy
    refine ev_bind h1 (ev_bind hsp (ev_bind h1 (ev_bind hi (ev_bind (eqSource_ev r hx a' b' c') (ev_pos rfl (ev_bind (laws_eqIntS_ev y hy) (ev_pos rfl ?_)))))))
    simp only [bne_self_eq_false]
    refine Ev.step (fun k=> by rw [laws_FnExactTakePlaces.j0,if_neg (by decide)]) ?_
    refine ev_bind h1 (ev_bind (eqSource_ev m hm a b c) (ev_pos rfl (ev_bind (markSource_ev m hm a b c) (ev_neg (by first|omega|(simp only [];omega)) (ev_bind (eqSource_ev r hx a' b' c') (ev_pos rfl (ev_bind (laws_eqIntS_ev y hy) (ev_pos rfl ?_))))))))
    simp only [bne_self_eq_false]
    refine Ev.step (fun k=> by rw [laws_FnExactTakePlaces.j1,if_neg (by decide)]) ?_
    refine ev_bind (markSource_ev r hx a' b' c') (ev_bind (markIM_ev (1 + 2 * (r.length:Int)) (by omega) (by omega) y hy) (ev_bind (heldSource_ev r.length hx a' b' c') (ev_neg (by first|omega|(simp only [];omega)) (ev_bind (heldIM_ev (1 + 2 * (r.length:Int)) (by omega) (by omega) y.length hy) (ev_neg (by first|omega|(simp only [];omega)) (ev_pos rfl (ev_bind h1 (ev_bind hi (ev_bind (eqSource_ev r hx a' b' c') (ev_pos rfl (ev_bind (laws_eqIntS_ev y hy) (ev_pos rfl ?_))))))))))))
    simp only [bne_self_eq_false]
    refine Ev.step (fun k=> by rw [laws_FnExactTakePlaces.j2,if_neg (by decide)]) ?_
    exact ev_bind (heldSource_ev r.length hx a' b' c') (ev_neg (by first|omega|(simp only [];omega)) (ev_bind (heldIM_ev (1 + 2 * (r.length:Int)) (by omega) (by omega) y.length hy) (ev_neg (by first|omega|(simp only [];omega)) (ev_pos rfl (Ev.now _)))))
end Go.Proofs.Ytlogocmojnhpbaa.Pure
end
