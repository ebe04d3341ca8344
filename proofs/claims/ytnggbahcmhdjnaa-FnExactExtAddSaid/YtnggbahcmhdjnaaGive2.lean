/- The contracts of extTwo, called with plus, minus, times: what the Go function answers, as a plain function. -/
import Derived.Test.YtnggbahcmhdjnaaPrint3
import Derived.Test.YtnggbahcmhdjnaaPrint2
namespace Go.Proofs.Ytnggbahcmhdjnaa.Print
open Go.RowKit Go.Proofs.YtnggbahcmhdjnaaW.PrintWords Go.Proofs.YtnggbahcmhdjnaaW.PrintLast
set_option linter.unusedVariables false
set_option linter.unusedSimpArgs false

/-- Three new blocks, and a call behind them: what they hold. -/
theorem ext3 {w w' : World} {o1 o2 o3 : Array Value} {t : TypeId} (hb : Below (((w.alloc (.cells o1 t)).alloc (.cells o2 t)).alloc (.cells o3 t)).heap.size (((w.alloc (.cells o1 t)).alloc (.cells o2 t)).alloc (.cells o3 t)) w') :
    w'.heap[w.heap.size]? = some (.cells o1 t (0, 0)) ∧ w'.heap[w.heap.size + 1]? = some (.cells o2 t (0, 0)) ∧ w'.heap[w.heap.size + 1 + 1]? = some (.cells o3 t (0, 0)) ∧ Below w.heap.size w w' ∧ w.heap.size + 1 + 1 < w'.heap.size := by
  have s1 : (w.alloc (.cells o1 t)).heap.size = w.heap.size + 1 := by simp
  have s2 : ((w.alloc (.cells o1 t)).alloc (.cells o2 t)).heap.size = w.heap.size + 1 + 1 := by simp
  have hz := hb.size
  have s3 : (((w.alloc (.cells o1 t)).alloc (.cells o2 t)).alloc (.cells o3 t)).heap.size = w.heap.size + 1 + 1 + 1 := by simp
  refine ⟨blk_below (blk_alloc (blk_alloc (blk_new w _) _) _) hb, blk_below (blk_alloc (s1 ▸ blk_new _ _) _) hb, blk_below (s2 ▸ blk_new _ _) hb, ?_, by omega⟩
  exact (below_alloc (below_alloc (below_alloc (Below.refl _ _) _) _) _).trans (hb.mono (by omega))

def extTwo_plus.f (a0_0 : Int) (a0_1 : Int) (a1_0 : Int) (a1_1 : Int) : Option (Int × Int × Int) :=
  (impl_ExtOK.f a0_0 a0_1).bind fun p => if p = true then (impl_ExtOK.f a1_0 a1_1).bind fun q => if q = true then (impl_Ext_plus.f a0_0 a0_1 a1_0 a1_1).bind fun t => some (t.1, t.2, 0) else some (0, 0, 1) else some (0, 0, 1)
set_option maxHeartbeats 4000000 in
theorem extTwo_plus.calls (a0_0 : Int) (a0_1 : Int) (a1_0 : Int) (a1_1 : Int) (r1 : Int) (r2 : Int) (r3 : Int) (w : World) (h : extTwo_plus.f a0_0 a0_1 a1_0 a1_1 = some (r1, r2, r3)) :
    Calls Try.prog 75 #[.agg #[.int .i64 a0_0, .int .i64 a0_1], .agg #[.int .i64 a1_0, .int .i64 a1_1], .func (.func 76) #[] #[]] w fun e w' => e = .returned (.tuple #[.agg #[.int .i64 r1, .int .i64 r2], .int .i64 r3]) ∧ Below w.heap.size w w' := by
  have hu := Try.underlying24
  unfold extTwo_plus.f at h
  obtain ⟨p, hp, h⟩ := Option.bind_eq_some_iff.mp h
  have A1 := Aside0.mk hp
  clear hp
  cases p with
  | false =>
    simp only [Bool.false_eq_true, if_false, Option.some.injEq, Prod.mk.injEq] at h
    obtain ⟨rfl, rfl, rfl⟩ := h
    go_enter Try.func75, Try.ntmps75
    go_wp2_with fail
    refine (impl_ExtOK.calls a0_0 a0_1 false _ A1.out).mono ?_
    rintro e w1 ⟨rfl, hb1⟩
    obtain ⟨b1, b2, b3, bel, hz⟩ := ext3 hb1
    have c10 := blk_cell b1 0
    have c11 := blk_cell b1 1
    have c20 := blk_cell b2 0
    have c21 := blk_cell b2 1
    have c30 := blk_cell b3 0
    have c31 := blk_cell b3 1
    have f30 := blk_frozen b3 0
    have f31 := blk_frozen b3 1
    simp only [List.getElem?_toArray, List.getElem?_cons_zero, List.getElem?_cons_succ] at c10 c11 c20 c21 c30 c31
    have B3 := Aside0.mk b3
    have BEL := Aside0.mk bel
    clear b1 b2 b3 bel
    go_wp2_with fail
    refine bodyPost_ret (results_ct rfl _ _ (w.heap.size + 1 + 1) 24 #[.int .i64 0, .int .i64 0] (0, 0) _ rfl (blk_put (cs := #[.int .i64 0, .int .i64 0]) (blk_put (cs := #[.int .i64 0, .int .i64 0]) B3.out 0 _ rfl) 1 _ rfl) Try.underlying24 rfl (by kernel_rfl)) rfl ?_
    exact ⟨rfl, below_set (below_set BEL.out (by omega)) (by omega)⟩
  | true =>
    simp only [if_true] at h
    obtain ⟨q, hq, h⟩ := Option.bind_eq_some_iff.mp h
    have A2 := Aside0.mk hq
    clear hq
    cases q with
    | false =>
      simp only [Bool.false_eq_true, if_false, Option.some.injEq, Prod.mk.injEq] at h
      obtain ⟨rfl, rfl, rfl⟩ := h
      go_enter Try.func75, Try.ntmps75
      go_wp2_with fail
      refine (impl_ExtOK.calls a0_0 a0_1 true _ A1.out).mono ?_
      rintro e w1 ⟨rfl, hb1⟩
      obtain ⟨b1, b2, b3, bel, hz⟩ := ext3 hb1
      have c10 := blk_cell b1 0
      have c11 := blk_cell b1 1
      have c20 := blk_cell b2 0
      have c21 := blk_cell b2 1
      have c30 := blk_cell b3 0
      have c31 := blk_cell b3 1
      have f30 := blk_frozen b3 0
      have f31 := blk_frozen b3 1
      simp only [List.getElem?_toArray, List.getElem?_cons_zero, List.getElem?_cons_succ] at c10 c11 c20 c21 c30 c31
      have B3 := Aside0.mk b3
      have BEL := Aside0.mk bel
      clear b1 b2 b3 bel
      go_wp2_with fail
      refine (impl_ExtOK.calls a1_0 a1_1 false _ A2.out).mono ?_
      rintro e w2 ⟨rfl, hb2⟩
      clear c10 c11 c20 c21 c30 c31 f30 f31 B3 BEL hz
      obtain ⟨b1, b2, b3, bel, hz⟩ := ext3 (hb1.trans (hb2.mono hb1.size))
      have c10 := blk_cell b1 0
      have c11 := blk_cell b1 1
      have c20 := blk_cell b2 0
      have c21 := blk_cell b2 1
      have c30 := blk_cell b3 0
      have c31 := blk_cell b3 1
      have f30 := blk_frozen b3 0
      have f31 := blk_frozen b3 1
      simp only [List.getElem?_toArray, List.getElem?_cons_zero, List.getElem?_cons_succ] at c10 c11 c20 c21 c30 c31
      have B3 := Aside0.mk b3
      have BEL := Aside0.mk bel
      clear b1 b2 b3 bel
      go_wp2_with fail
      refine bodyPost_ret (results_ct rfl _ _ (w.heap.size + 1 + 1) 24 #[.int .i64 0, .int .i64 0] (0, 0) _ rfl (blk_put (cs := #[.int .i64 0, .int .i64 0]) (blk_put (cs := #[.int .i64 0, .int .i64 0]) B3.out 0 _ rfl) 1 _ rfl) Try.underlying24 rfl (by kernel_rfl)) rfl ?_
      exact ⟨rfl, below_set (below_set BEL.out (by omega)) (by omega)⟩
    | true =>
      simp only [if_true] at h
      obtain ⟨⟨t1, t2⟩, ht, h⟩ := Option.bind_eq_some_iff.mp h
      simp only [Option.some.injEq, Prod.mk.injEq] at h
      obtain ⟨rfl, rfl, rfl⟩ := h
      have A3 := Aside0.mk ht
      clear ht
      go_enter Try.func75, Try.ntmps75
      go_wp2_with fail
      refine (impl_ExtOK.calls a0_0 a0_1 true _ A1.out).mono ?_
      rintro e w1 ⟨rfl, hb1⟩
      obtain ⟨b1, b2, b3, bel, hz⟩ := ext3 hb1
      have c10 := blk_cell b1 0
      have c11 := blk_cell b1 1
      have c20 := blk_cell b2 0
      have c21 := blk_cell b2 1
      have c30 := blk_cell b3 0
      have c31 := blk_cell b3 1
      have f30 := blk_frozen b3 0
      have f31 := blk_frozen b3 1
      simp only [List.getElem?_toArray, List.getElem?_cons_zero, List.getElem?_cons_succ] at c10 c11 c20 c21 c30 c31
      have B3 := Aside0.mk b3
      have BEL := Aside0.mk bel
      clear b1 b2 b3 bel
      go_wp2_with fail
      refine (impl_ExtOK.calls a1_0 a1_1 true _ A2.out).mono ?_
      rintro e w2 ⟨rfl, hb2⟩
      clear c10 c11 c20 c21 c30 c31 f30 f31 B3 BEL hz
      have hb12 := hb1.trans (hb2.mono hb1.size)
      clear hb1 hb2
      obtain ⟨b1, b2, b3, bel, hz⟩ := ext3 hb12
      have c10 := blk_cell b1 0
      have c11 := blk_cell b1 1
      have c20 := blk_cell b2 0
      have c21 := blk_cell b2 1
      have c30 := blk_cell b3 0
      have c31 := blk_cell b3 1
      have f30 := blk_frozen b3 0
      have f31 := blk_frozen b3 1
      simp only [List.getElem?_toArray, List.getElem?_cons_zero, List.getElem?_cons_succ] at c10 c11 c20 c21 c30 c31
      have B3 := Aside0.mk b3
      have BEL := Aside0.mk bel
      clear b1 b2 b3 bel
      go_wp2_with fail
      refine (impl_Ext_plus.calls a0_0 a0_1 a1_0 a1_1 t1 t2 _ A3.out).mono ?_
      rintro e w3 ⟨rfl, hb3⟩
      clear c10 c11 c20 c21 c30 c31 f30 f31 B3 BEL hz
      obtain ⟨b1, b2, b3, bel, hz⟩ := ext3 (hb12.trans (hb3.mono hb12.size))
      have c10 := blk_cell b1 0
      have c11 := blk_cell b1 1
      have c20 := blk_cell b2 0
      have c21 := blk_cell b2 1
      have c30 := blk_cell b3 0
      have c31 := blk_cell b3 1
      have f30 := blk_frozen b3 0
      have f31 := blk_frozen b3 1
      simp only [List.getElem?_toArray, List.getElem?_cons_zero, List.getElem?_cons_succ] at c10 c11 c20 c21 c30 c31
      have B3 := Aside0.mk b3
      have BEL := Aside0.mk bel
      clear b1 b2 b3 bel
      go_wp2_with fail
      refine bodyPost_ret (results_ct rfl _ _ (w.heap.size + 1 + 1) 24 #[.int .i64 t1, .int .i64 t2] (0, 0) _ rfl (blk_put (cs := #[.int .i64 t1, .int .i64 0]) (blk_put (cs := #[.int .i64 0, .int .i64 0]) B3.out 0 _ rfl) 1 _ rfl) Try.underlying24 rfl (by kernel_rfl)) rfl ?_
      exact ⟨rfl, below_set (below_set BEL.out (by omega)) (by omega)⟩

def extTwo_minus.f (a0_0 : Int) (a0_1 : Int) (a1_0 : Int) (a1_1 : Int) : Option (Int × Int × Int) :=
  (impl_ExtOK.f a0_0 a0_1).bind fun p => if p = true then (impl_ExtOK.f a1_0 a1_1).bind fun q => if q = true then (impl_Ext_minus.f a0_0 a0_1 a1_0 a1_1).bind fun t => some (t.1, t.2, 0) else some (0, 0, 1) else some (0, 0, 1)
set_option maxHeartbeats 4000000 in
theorem extTwo_minus.calls (a0_0 : Int) (a0_1 : Int) (a1_0 : Int) (a1_1 : Int) (r1 : Int) (r2 : Int) (r3 : Int) (w : World) (h : extTwo_minus.f a0_0 a0_1 a1_0 a1_1 = some (r1, r2, r3)) :
    Calls Try.prog 75 #[.agg #[.int .i64 a0_0, .int .i64 a0_1], .agg #[.int .i64 a1_0, .int .i64 a1_1], .func (.func 78) #[] #[]] w fun e w' => e = .returned (.tuple #[.agg #[.int .i64 r1, .int .i64 r2], .int .i64 r3]) ∧ Below w.heap.size w w' := by
  have hu := Try.underlying24
  unfold extTwo_minus.f at h
  obtain ⟨p, hp, h⟩ := Option.bind_eq_some_iff.mp h
  have A1 := Aside0.mk hp
  clear hp
  cases p with
  | false =>
    simp only [Bool.false_eq_true, if_false, Option.some.injEq, Prod.mk.injEq] at h
    obtain ⟨rfl, rfl, rfl⟩ := h
    go_enter Try.func75, Try.ntmps75
    go_wp2_with fail
    refine (impl_ExtOK.calls a0_0 a0_1 false _ A1.out).mono ?_
    rintro e w1 ⟨rfl, hb1⟩
    obtain ⟨b1, b2, b3, bel, hz⟩ := ext3 hb1
    have c10 := blk_cell b1 0
    have c11 := blk_cell b1 1
    have c20 := blk_cell b2 0
    have c21 := blk_cell b2 1
    have c30 := blk_cell b3 0
    have c31 := blk_cell b3 1
    have f30 := blk_frozen b3 0
    have f31 := blk_frozen b3 1
    simp only [List.getElem?_toArray, List.getElem?_cons_zero, List.getElem?_cons_succ] at c10 c11 c20 c21 c30 c31
    have B3 := Aside0.mk b3
    have BEL := Aside0.mk bel
    clear b1 b2 b3 bel
    go_wp2_with fail
    refine bodyPost_ret (results_ct rfl _ _ (w.heap.size + 1 + 1) 24 #[.int .i64 0, .int .i64 0] (0, 0) _ rfl (blk_put (cs := #[.int .i64 0, .int .i64 0]) (blk_put (cs := #[.int .i64 0, .int .i64 0]) B3.out 0 _ rfl) 1 _ rfl) Try.underlying24 rfl (by kernel_rfl)) rfl ?_
    exact ⟨rfl, below_set (below_set BEL.out (by omega)) (by omega)⟩
  | true =>
    simp only [if_true] at h
    obtain ⟨q, hq, h⟩ := Option.bind_eq_some_iff.mp h
    have A2 := Aside0.mk hq
    clear hq
    cases q with
    | false =>
      simp only [Bool.false_eq_true, if_false, Option.some.injEq, Prod.mk.injEq] at h
      obtain ⟨rfl, rfl, rfl⟩ := h
      go_enter Try.func75, Try.ntmps75
      go_wp2_with fail
      refine (impl_ExtOK.calls a0_0 a0_1 true _ A1.out).mono ?_
      rintro e w1 ⟨rfl, hb1⟩
      obtain ⟨b1, b2, b3, bel, hz⟩ := ext3 hb1
      have c10 := blk_cell b1 0
      have c11 := blk_cell b1 1
      have c20 := blk_cell b2 0
      have c21 := blk_cell b2 1
      have c30 := blk_cell b3 0
      have c31 := blk_cell b3 1
      have f30 := blk_frozen b3 0
      have f31 := blk_frozen b3 1
      simp only [List.getElem?_toArray, List.getElem?_cons_zero, List.getElem?_cons_succ] at c10 c11 c20 c21 c30 c31
      have B3 := Aside0.mk b3
      have BEL := Aside0.mk bel
      clear b1 b2 b3 bel
      go_wp2_with fail
      refine (impl_ExtOK.calls a1_0 a1_1 false _ A2.out).mono ?_
      rintro e w2 ⟨rfl, hb2⟩
      clear c10 c11 c20 c21 c30 c31 f30 f31 B3 BEL hz
      obtain ⟨b1, b2, b3, bel, hz⟩ := ext3 (hb1.trans (hb2.mono hb1.size))
      have c10 := blk_cell b1 0
      have c11 := blk_cell b1 1
      have c20 := blk_cell b2 0
      have c21 := blk_cell b2 1
      have c30 := blk_cell b3 0
      have c31 := blk_cell b3 1
      have f30 := blk_frozen b3 0
      have f31 := blk_frozen b3 1
      simp only [List.getElem?_toArray, List.getElem?_cons_zero, List.getElem?_cons_succ] at c10 c11 c20 c21 c30 c31
      have B3 := Aside0.mk b3
      have BEL := Aside0.mk bel
      clear b1 b2 b3 bel
      go_wp2_with fail
      refine bodyPost_ret (results_ct rfl _ _ (w.heap.size + 1 + 1) 24 #[.int .i64 0, .int .i64 0] (0, 0) _ rfl (blk_put (cs := #[.int .i64 0, .int .i64 0]) (blk_put (cs := #[.int .i64 0, .int .i64 0]) B3.out 0 _ rfl) 1 _ rfl) Try.underlying24 rfl (by kernel_rfl)) rfl ?_
      exact ⟨rfl, below_set (below_set BEL.out (by omega)) (by omega)⟩
    | true =>
      simp only [if_true] at h
      obtain ⟨⟨t1, t2⟩, ht, h⟩ := Option.bind_eq_some_iff.mp h
      simp only [Option.some.injEq, Prod.mk.injEq] at h
      obtain ⟨rfl, rfl, rfl⟩ := h
      have A3 := Aside0.mk ht
      clear ht
      go_enter Try.func75, Try.ntmps75
      go_wp2_with fail
      refine (impl_ExtOK.calls a0_0 a0_1 true _ A1.out).mono ?_
      rintro e w1 ⟨rfl, hb1⟩
      obtain ⟨b1, b2, b3, bel, hz⟩ := ext3 hb1
      have c10 := blk_cell b1 0
      have c11 := blk_cell b1 1
      have c20 := blk_cell b2 0
      have c21 := blk_cell b2 1
      have c30 := blk_cell b3 0
      have c31 := blk_cell b3 1
      have f30 := blk_frozen b3 0
      have f31 := blk_frozen b3 1
      simp only [List.getElem?_toArray, List.getElem?_cons_zero, List.getElem?_cons_succ] at c10 c11 c20 c21 c30 c31
      have B3 := Aside0.mk b3
      have BEL := Aside0.mk bel
      clear b1 b2 b3 bel
      go_wp2_with fail
      refine (impl_ExtOK.calls a1_0 a1_1 true _ A2.out).mono ?_
      rintro e w2 ⟨rfl, hb2⟩
      clear c10 c11 c20 c21 c30 c31 f30 f31 B3 BEL hz
      have hb12 := hb1.trans (hb2.mono hb1.size)
      clear hb1 hb2
      obtain ⟨b1, b2, b3, bel, hz⟩ := ext3 hb12
      have c10 := blk_cell b1 0
      have c11 := blk_cell b1 1
      have c20 := blk_cell b2 0
      have c21 := blk_cell b2 1
      have c30 := blk_cell b3 0
      have c31 := blk_cell b3 1
      have f30 := blk_frozen b3 0
      have f31 := blk_frozen b3 1
      simp only [List.getElem?_toArray, List.getElem?_cons_zero, List.getElem?_cons_succ] at c10 c11 c20 c21 c30 c31
      have B3 := Aside0.mk b3
      have BEL := Aside0.mk bel
      clear b1 b2 b3 bel
      go_wp2_with fail
      refine (impl_Ext_minus.calls a0_0 a0_1 a1_0 a1_1 t1 t2 _ A3.out).mono ?_
      rintro e w3 ⟨rfl, hb3⟩
      clear c10 c11 c20 c21 c30 c31 f30 f31 B3 BEL hz
      obtain ⟨b1, b2, b3, bel, hz⟩ := ext3 (hb12.trans (hb3.mono hb12.size))
      have c10 := blk_cell b1 0
      have c11 := blk_cell b1 1
      have c20 := blk_cell b2 0
      have c21 := blk_cell b2 1
      have c30 := blk_cell b3 0
      have c31 := blk_cell b3 1
      have f30 := blk_frozen b3 0
      have f31 := blk_frozen b3 1
      simp only [List.getElem?_toArray, List.getElem?_cons_zero, List.getElem?_cons_succ] at c10 c11 c20 c21 c30 c31
      have B3 := Aside0.mk b3
      have BEL := Aside0.mk bel
      clear b1 b2 b3 bel
      go_wp2_with fail
      refine bodyPost_ret (results_ct rfl _ _ (w.heap.size + 1 + 1) 24 #[.int .i64 t1, .int .i64 t2] (0, 0) _ rfl (blk_put (cs := #[.int .i64 t1, .int .i64 0]) (blk_put (cs := #[.int .i64 0, .int .i64 0]) B3.out 0 _ rfl) 1 _ rfl) Try.underlying24 rfl (by kernel_rfl)) rfl ?_
      exact ⟨rfl, below_set (below_set BEL.out (by omega)) (by omega)⟩

def extTwo_times.f (a0_0 : Int) (a0_1 : Int) (a1_0 : Int) (a1_1 : Int) : Option (Int × Int × Int) :=
  (impl_ExtOK.f a0_0 a0_1).bind fun p => if p = true then (impl_ExtOK.f a1_0 a1_1).bind fun q => if q = true then (impl_Ext_times.f a0_0 a0_1 a1_0 a1_1).bind fun t => some (t.1, t.2, 0) else some (0, 0, 1) else some (0, 0, 1)
set_option maxHeartbeats 4000000 in
theorem extTwo_times.calls (a0_0 : Int) (a0_1 : Int) (a1_0 : Int) (a1_1 : Int) (r1 : Int) (r2 : Int) (r3 : Int) (w : World) (h : extTwo_times.f a0_0 a0_1 a1_0 a1_1 = some (r1, r2, r3)) :
    Calls Try.prog 75 #[.agg #[.int .i64 a0_0, .int .i64 a0_1], .agg #[.int .i64 a1_0, .int .i64 a1_1], .func (.func 80) #[] #[]] w fun e w' => e = .returned (.tuple #[.agg #[.int .i64 r1, .int .i64 r2], .int .i64 r3]) ∧ Below w.heap.size w w' := by
  have hu := Try.underlying24
  unfold extTwo_times.f at h
  obtain ⟨p, hp, h⟩ := Option.bind_eq_some_iff.mp h
  have A1 := Aside0.mk hp
  clear hp
  cases p with
  | false =>
    simp only [Bool.false_eq_true, if_false, Option.some.injEq, Prod.mk.injEq] at h
    obtain ⟨rfl, rfl, rfl⟩ := h
    go_enter Try.func75, Try.ntmps75
    go_wp2_with fail
    refine (impl_ExtOK.calls a0_0 a0_1 false _ A1.out).mono ?_
    rintro e w1 ⟨rfl, hb1⟩
    obtain ⟨b1, b2, b3, bel, hz⟩ := ext3 hb1
    have c10 := blk_cell b1 0
    have c11 := blk_cell b1 1
    have c20 := blk_cell b2 0
    have c21 := blk_cell b2 1
    have c30 := blk_cell b3 0
    have c31 := blk_cell b3 1
    have f30 := blk_frozen b3 0
    have f31 := blk_frozen b3 1
    simp only [List.getElem?_toArray, List.getElem?_cons_zero, List.getElem?_cons_succ] at c10 c11 c20 c21 c30 c31
    have B3 := Aside0.mk b3
    have BEL := Aside0.mk bel
    clear b1 b2 b3 bel
    go_wp2_with fail
    refine bodyPost_ret (results_ct rfl _ _ (w.heap.size + 1 + 1) 24 #[.int .i64 0, .int .i64 0] (0, 0) _ rfl (blk_put (cs := #[.int .i64 0, .int .i64 0]) (blk_put (cs := #[.int .i64 0, .int .i64 0]) B3.out 0 _ rfl) 1 _ rfl) Try.underlying24 rfl (by kernel_rfl)) rfl ?_
    exact ⟨rfl, below_set (below_set BEL.out (by omega)) (by omega)⟩
  | true =>
    simp only [if_true] at h
    obtain ⟨q, hq, h⟩ := Option.bind_eq_some_iff.mp h
    have A2 := Aside0.mk hq
    clear hq
    cases q with
    | false =>
      simp only [Bool.false_eq_true, if_false, Option.some.injEq, Prod.mk.injEq] at h
      obtain ⟨rfl, rfl, rfl⟩ := h
      go_enter Try.func75, Try.ntmps75
      go_wp2_with fail
      refine (impl_ExtOK.calls a0_0 a0_1 true _ A1.out).mono ?_
      rintro e w1 ⟨rfl, hb1⟩
      obtain ⟨b1, b2, b3, bel, hz⟩ := ext3 hb1
      have c10 := blk_cell b1 0
      have c11 := blk_cell b1 1
      have c20 := blk_cell b2 0
      have c21 := blk_cell b2 1
      have c30 := blk_cell b3 0
      have c31 := blk_cell b3 1
      have f30 := blk_frozen b3 0
      have f31 := blk_frozen b3 1
      simp only [List.getElem?_toArray, List.getElem?_cons_zero, List.getElem?_cons_succ] at c10 c11 c20 c21 c30 c31
      have B3 := Aside0.mk b3
      have BEL := Aside0.mk bel
      clear b1 b2 b3 bel
      go_wp2_with fail
      refine (impl_ExtOK.calls a1_0 a1_1 false _ A2.out).mono ?_
      rintro e w2 ⟨rfl, hb2⟩
      clear c10 c11 c20 c21 c30 c31 f30 f31 B3 BEL hz
      obtain ⟨b1, b2, b3, bel, hz⟩ := ext3 (hb1.trans (hb2.mono hb1.size))
      have c10 := blk_cell b1 0
      have c11 := blk_cell b1 1
      have c20 := blk_cell b2 0
      have c21 := blk_cell b2 1
      have c30 := blk_cell b3 0
      have c31 := blk_cell b3 1
      have f30 := blk_frozen b3 0
      have f31 := blk_frozen b3 1
      simp only [List.getElem?_toArray, List.getElem?_cons_zero, List.getElem?_cons_succ] at c10 c11 c20 c21 c30 c31
      have B3 := Aside0.mk b3
      have BEL := Aside0.mk bel
      clear b1 b2 b3 bel
      go_wp2_with fail
      refine bodyPost_ret (results_ct rfl _ _ (w.heap.size + 1 + 1) 24 #[.int .i64 0, .int .i64 0] (0, 0) _ rfl (blk_put (cs := #[.int .i64 0, .int .i64 0]) (blk_put (cs := #[.int .i64 0, .int .i64 0]) B3.out 0 _ rfl) 1 _ rfl) Try.underlying24 rfl (by kernel_rfl)) rfl ?_
      exact ⟨rfl, below_set (below_set BEL.out (by omega)) (by omega)⟩
    | true =>
      simp only [if_true] at h
      obtain ⟨⟨t1, t2⟩, ht, h⟩ := Option.bind_eq_some_iff.mp h
      simp only [Option.some.injEq, Prod.mk.injEq] at h
      obtain ⟨rfl, rfl, rfl⟩ := h
      have A3 := Aside0.mk ht
      clear ht
      go_enter Try.func75, Try.ntmps75
      go_wp2_with fail
      refine (impl_ExtOK.calls a0_0 a0_1 true _ A1.out).mono ?_
      rintro e w1 ⟨rfl, hb1⟩
      obtain ⟨b1, b2, b3, bel, hz⟩ := ext3 hb1
      have c10 := blk_cell b1 0
      have c11 := blk_cell b1 1
      have c20 := blk_cell b2 0
      have c21 := blk_cell b2 1
      have c30 := blk_cell b3 0
      have c31 := blk_cell b3 1
      have f30 := blk_frozen b3 0
      have f31 := blk_frozen b3 1
      simp only [List.getElem?_toArray, List.getElem?_cons_zero, List.getElem?_cons_succ] at c10 c11 c20 c21 c30 c31
      have B3 := Aside0.mk b3
      have BEL := Aside0.mk bel
      clear b1 b2 b3 bel
      go_wp2_with fail
      refine (impl_ExtOK.calls a1_0 a1_1 true _ A2.out).mono ?_
      rintro e w2 ⟨rfl, hb2⟩
      clear c10 c11 c20 c21 c30 c31 f30 f31 B3 BEL hz
      have hb12 := hb1.trans (hb2.mono hb1.size)
      clear hb1 hb2
      obtain ⟨b1, b2, b3, bel, hz⟩ := ext3 hb12
      have c10 := blk_cell b1 0
      have c11 := blk_cell b1 1
      have c20 := blk_cell b2 0
      have c21 := blk_cell b2 1
      have c30 := blk_cell b3 0
      have c31 := blk_cell b3 1
      have f30 := blk_frozen b3 0
      have f31 := blk_frozen b3 1
      simp only [List.getElem?_toArray, List.getElem?_cons_zero, List.getElem?_cons_succ] at c10 c11 c20 c21 c30 c31
      have B3 := Aside0.mk b3
      have BEL := Aside0.mk bel
      clear b1 b2 b3 bel
      go_wp2_with fail
      refine (impl_Ext_times.calls a0_0 a0_1 a1_0 a1_1 t1 t2 _ A3.out).mono ?_
      rintro e w3 ⟨rfl, hb3⟩
      clear c10 c11 c20 c21 c30 c31 f30 f31 B3 BEL hz
      obtain ⟨b1, b2, b3, bel, hz⟩ := ext3 (hb12.trans (hb3.mono hb12.size))
      have c10 := blk_cell b1 0
      have c11 := blk_cell b1 1
      have c20 := blk_cell b2 0
      have c21 := blk_cell b2 1
      have c30 := blk_cell b3 0
      have c31 := blk_cell b3 1
      have f30 := blk_frozen b3 0
      have f31 := blk_frozen b3 1
      simp only [List.getElem?_toArray, List.getElem?_cons_zero, List.getElem?_cons_succ] at c10 c11 c20 c21 c30 c31
      have B3 := Aside0.mk b3
      have BEL := Aside0.mk bel
      clear b1 b2 b3 bel
      go_wp2_with fail
      refine bodyPost_ret (results_ct rfl _ _ (w.heap.size + 1 + 1) 24 #[.int .i64 t1, .int .i64 t2] (0, 0) _ rfl (blk_put (cs := #[.int .i64 t1, .int .i64 0]) (blk_put (cs := #[.int .i64 0, .int .i64 0]) B3.out 0 _ rfl) 1 _ rfl) Try.underlying24 rfl (by kernel_rfl)) rfl ?_
      exact ⟨rfl, below_set (below_set BEL.out (by omega)) (by omega)⟩

end Go.Proofs.Ytnggbahcmhdjnaa.Print
