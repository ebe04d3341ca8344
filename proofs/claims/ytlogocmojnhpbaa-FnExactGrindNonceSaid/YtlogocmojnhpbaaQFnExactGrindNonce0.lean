-- Packed by a program of this session (slim.py) out of printed texts; not trusted, Lean checks it.
import Derived.Test.YtlogocmojnhpbaaPrint0
import Derived.Test.YtlogocmojnhpbaaK4
import Derived.Shelf.Abstract
import Derived.Deep.RegionHeld3
import Derived.Orders
import Derived.Lib.UnsafeStr
import Derived.Laws.BitsLemmas
namespace Go.Proofs.Ytlogocmojnhpbaa.Print
open Go.RowKit Go.Proofs.YtlogocmojnhpbaaW.PrintWords Go.Proofs.YtlogocmojnhpbaaW.PrintLast Go.Proofs.YtlogocmojnhpbaaW.PrintMore
attribute [local go_sem] max2_int min2_int max_two min_two max_three min_three max_four min_four   -- for this text's walks alone
set_option linter.unusedVariables false
set_option linter.unusedSimpArgs false

/-! ### impl_in: function 95 -/
def impl_in.f (a0 : Int) (a1 : Int) (a2 : Int) : Option (Bool) := if a1 ≤ a0 then (some (decide (a0 ≤ a2))) else (some false)
set_option maxHeartbeats 8000000 in
set_option maxRecDepth 100000 in
theorem impl_in.calls (a0 : Int) (a1 : Int) (a2 : Int) (r : Bool) (w : World) (h : impl_in.f a0 a1 a2 = some r) :
    Calls Try.prog 95 #[.int .i64 a0, .int .i64 a1, .int .i64 a2] w fun e w' => e = .returned (.bool r) ∧ Drawn0 w w' := by
  have H : (if a1 ≤ a0 then (some (decide (a0 ≤ a2))) else (some false)) = some r := h
  clear h
  by_cases c4 : a1 ≤ a0
  · rw [if_pos c4] at H
    have c4b0 : decide (a1 ≤ a0) = true := decide_eq_true c4
    clear c4
    obtain rfl := Option.some.inj H
    go_enter Try.func95, Try.ntmps95
    go_wp2
    go_ret
    exact ⟨by first | rfl | (simp; done) | (simp [*]; done), by repeat (first | exact Drawn0.refl _ | apply Drawn0.step)⟩
  · rw [if_neg c4] at H
    have c4b0 : decide (a1 ≤ a0) = false := decide_eq_false c4
    clear c4
    obtain rfl := Option.some.inj H
    go_enter Try.func95, Try.ntmps95
    go_wp2
    go_ret
    exact ⟨by first | rfl | (simp; done) | (simp [*]; done), by repeat (first | exact Drawn0.refl _ | apply Drawn0.step)⟩

/-! ### impl_FieldOK: function 154 -/
def impl_FieldOK.f (a0 : Int) : Option (Bool) := (impl_in.f a0 0 2130706432).bind fun t240 => (some t240)
set_option maxHeartbeats 8000000 in
set_option maxRecDepth 100000 in
theorem impl_FieldOK.calls (a0 : Int) (r : Bool) (w : World) (h : impl_FieldOK.f a0 = some r) :
    Calls Try.prog 154 #[.int .i64 a0] w fun e w' => e = .returned (.bool r) ∧ Drawn0 w w' := by
  have H : ((impl_in.f a0 0 2130706432).bind fun t240 => (some t240)) = some r := h
  clear h
  replace H := Option.bind_eq_some_iff.mp H
  obtain ⟨t240, A20, H⟩ := H
  replace H : (some t240) = some r := H
  have A2 := Aside0.mk A20
  clear A20
  obtain rfl := Option.some.inj H
  go_enter Try.func154, Try.ntmps154
  go_wp2_with (first | ((with_reducible refine gate_callee (f := 95) rfl ?_); refine goesL_ (some 4) rfl rfl Try.func95 (by kernel_rfl) rfl #[.int .i64 a0, .int .i64 0, .int .i64 2130706432] rfl (by (try simp only [List.map_toArray, List.map_cons, List.map_nil]); first | done | rfl | (simp only [List.length_drop, List.length_take]; rfl)) ?_; (with_reducible refine (impl_in.calls a0 0 2130706432 t240 _ A2.out).mono ?_); rintro e w' ⟨rfl, ⟨nd, rfl⟩⟩; refine ⟨_, rfl, ?_⟩))
  go_ret
  exact ⟨by first | rfl | (simp; done) | (simp [*]; done), by repeat (first | exact Drawn0.refl _ | apply Drawn0.step)⟩

/-! ### impl_ExtOK: function 123 -/
def impl_ExtOK.f (a0_0 : Int) (a0_1 : Int) : Option (Bool) := (impl_FieldOK.f a0_0).bind fun t242 => (if t242 = true then ((impl_FieldOK.f a0_1).bind fun t243 => (some t243)) else (some false))
set_option maxHeartbeats 8000000 in
set_option maxRecDepth 100000 in
theorem impl_ExtOK.calls (a0_0 : Int) (a0_1 : Int) (r : Bool) (w : World) (h : impl_ExtOK.f a0_0 a0_1 = some r) :
    Calls Try.prog 123 #[.agg #[.int .i64 a0_0, .int .i64 a0_1]] w fun e w' => e = .returned (.bool r) ∧ Below w.heap.size w w' := by
  have hu79 := Try.underlying79
  have HB := Aside0.mk (Below.refl w.heap.size w)
  have H : ((impl_FieldOK.f a0_0).bind fun t242 => (if t242 = true then ((impl_FieldOK.f a0_1).bind fun t243 => (some t243)) else (some false))) = some r := h
  clear h
  replace H := Option.bind_eq_some_iff.mp H
  obtain ⟨t242, A20, H⟩ := H
  replace H : (if t242 = true then ((impl_FieldOK.f a0_1).bind fun t243 => (some t243)) else (some false)) = some r := H
  have A2 := Aside0.mk A20
  clear A20
  by_cases c3 : t242 = true
  · subst c3
    have H1 : ((impl_FieldOK.f a0_1).bind fun t243 => (some t243)) = some r := by rw [if_pos rfl] at H; exact H
    clear H
    have H := H1
    clear H1
    replace H := Option.bind_eq_some_iff.mp H
    obtain ⟨t243, A40, H⟩ := H
    replace H : (some t243) = some r := H
    have A4 := Aside0.mk A40
    clear A40
    obtain rfl := Option.some.inj H
    go_enter Try.func123, Try.ntmps123
    go_wp2_with (first | ((with_reducible refine gate_dst (N := 1) rfl ?_); refine box_event ?hg (N := 1) ?hd (cs := #[.int .i64 a0_0, .int .i64 a0_1]) (t := 79) ?hr ?_; (case hd => rfl); (case hg => rfl); (case hr => first | (go_simp; done) | (go_simp; rfl)); intro gb241 hg w5 hbox hb; have n0_ := Aside0.mk (below_step (by repeat (first | (with_reducible first | exact HB.out | apply below_alloc | apply pw_below_drewN | apply below_drew1) | exact HB.out)) hb); have n1_ := Aside0.mk (hbox); have n2_ := Aside0.mk ((by rw [hg]; exact (below_size (by repeat (first | (with_reducible first | exact HB.out | apply below_alloc | apply pw_below_drewN | apply below_drew1) | exact HB.out))) : w.heap.size ≤ gb241)); have n3_ := Aside0.mk ((by rw [hg]; exact (below_size (by repeat (first | (with_reducible first | exact HB.out | apply below_alloc | apply pw_below_drewN | apply below_drew1) | exact HB.out))) : w.heap.size ≤ gb241)); clear HB; have HB := n0_; have BK241 := n1_; have GW241 := n2_; have GE241 := n3_; clear n0_ n1_ n2_ n3_; clear hb hbox hg; have hcz6_0 : w5.cell? ⟨gb241, 0, none⟩ = some (.int .i64 a0_0) := (blk_cell BK241.out 0).trans rfl; have hcz6_1 : w5.cell? ⟨gb241, 1, none⟩ = some (.int .i64 a0_1) := (blk_cell BK241.out 1).trans rfl; have hfz6_0 := blk_frozen BK241.out 0; have hfz6_1 := blk_frozen BK241.out 1) | ((with_reducible refine gate_callee (f := 154) rfl ?_); refine goesL_ (some 5) rfl rfl Try.func154 (by kernel_rfl) rfl #[.int .i64 a0_0] rfl (by (try simp only [List.map_toArray, List.map_cons, List.map_nil]); first | done | rfl | (simp only [List.length_drop, List.length_take]; rfl)) ?_; (with_reducible refine (impl_FieldOK.calls a0_0 true _ A2.out).mono ?_); rintro e w' ⟨rfl, ⟨nd, rfl⟩⟩; refine ⟨_, rfl, ?_⟩) | (go_at_call 154; (with_reducible refine (impl_FieldOK.calls a0_1 t243 _ A4.out).mono ?_); rintro e w' ⟨rfl, ⟨nd, rfl⟩⟩))
    go_ret
    exact ⟨by first | rfl | (simp [errW_none, errW_some] <;> rfl) | (simp [*, errW_none, errW_some] <;> rfl), by repeat (first | (with_reducible first | exact HB.out | apply below_alloc | apply pw_below_drewN | apply below_drew1 | refine below_set ?_ GE241.out) | exact HB.out)⟩
  · replace c3 := Bool.eq_false_iff.mpr c3
    subst c3
    have H1 : (some false) = some r := by rw [if_neg (show ¬ (false = true) by decide)] at H; exact H
    clear H
    have H := H1
    clear H1
    obtain rfl := Option.some.inj H
    go_enter Try.func123, Try.ntmps123
    go_wp2_with (first | ((with_reducible refine gate_dst (N := 1) rfl ?_); refine box_event ?hg (N := 1) ?hd (cs := #[.int .i64 a0_0, .int .i64 a0_1]) (t := 79) ?hr ?_; (case hd => rfl); (case hg => rfl); (case hr => first | (go_simp; done) | (go_simp; rfl)); intro gb241 hg w7 hbox hb; have n0_ := Aside0.mk (below_step (by repeat (first | (with_reducible first | exact HB.out | apply below_alloc | apply pw_below_drewN | apply below_drew1) | exact HB.out)) hb); have n1_ := Aside0.mk (hbox); have n2_ := Aside0.mk ((by rw [hg]; exact (below_size (by repeat (first | (with_reducible first | exact HB.out | apply below_alloc | apply pw_below_drewN | apply below_drew1) | exact HB.out))) : w.heap.size ≤ gb241)); have n3_ := Aside0.mk ((by rw [hg]; exact (below_size (by repeat (first | (with_reducible first | exact HB.out | apply below_alloc | apply pw_below_drewN | apply below_drew1) | exact HB.out))) : w.heap.size ≤ gb241)); clear HB; have HB := n0_; have BK241 := n1_; have GW241 := n2_; have GE241 := n3_; clear n0_ n1_ n2_ n3_; clear hb hbox hg; have hcz8_0 : w7.cell? ⟨gb241, 0, none⟩ = some (.int .i64 a0_0) := (blk_cell BK241.out 0).trans rfl; have hcz8_1 : w7.cell? ⟨gb241, 1, none⟩ = some (.int .i64 a0_1) := (blk_cell BK241.out 1).trans rfl; have hfz8_0 := blk_frozen BK241.out 0; have hfz8_1 := blk_frozen BK241.out 1) | ((with_reducible refine gate_callee (f := 154) rfl ?_); refine goesL_ (some 5) rfl rfl Try.func154 (by kernel_rfl) rfl #[.int .i64 a0_0] rfl (by (try simp only [List.map_toArray, List.map_cons, List.map_nil]); first | done | rfl | (simp only [List.length_drop, List.length_take]; rfl)) ?_; (with_reducible refine (impl_FieldOK.calls a0_0 false _ A2.out).mono ?_); rintro e w' ⟨rfl, ⟨nd, rfl⟩⟩; refine ⟨_, rfl, ?_⟩))
    go_ret
    exact ⟨by first | rfl | (simp [errW_none, errW_some] <;> rfl) | (simp [*, errW_none, errW_some] <;> rfl), by repeat (first | (with_reducible first | exact HB.out | apply below_alloc | apply pw_below_drewN | apply below_drew1 | refine below_set ?_ GE241.out) | exact HB.out)⟩

end Go.Proofs.Ytlogocmojnhpbaa.Print
/- Contracts: what slices.IndexFunc, slices.ContainsFunc and are answer, for every slice. -/
namespace Go.Proofs.Ytlogocmojnhpbaa.Print
open Go.RowKit Go.Proofs.YtlogocmojnhpbaaW.PrintWords Go.Proofs.YtlogocmojnhpbaaW.PrintLast
set_option linter.unusedVariables false
set_option linter.unusedSimpArgs false

/-- What slices.IndexFunc hands back: a place from 0 on just where the predicate holds somewhere. -/
def SomeIdxExt (b : Bool) (e : Ending) : Prop := ∃ i : Int, e = .returned (.int .i64 i) ∧ decide (i ≥ 0) = b
theorem any_take_Ext (p : S79 → Bool) (l0 : List (S79)) (kk : Nat) (hk : kk ≤ l0.length) (h : ∀ j, j < kk → p (l0.getD j z79) = false) (hn : l0.length ≤ kk) : l0.any p = false := by
  rw [List.any_eq_false]
  intro x hx
  obtain ⟨j, hj, rfl⟩ := List.mem_iff_getElem.1 hx
  have := h j (by omega)
  rw [List.getD_eq_getElem?_getD, List.getElem?_eq_getElem hj] at this
  simpa using this
theorem any_hit_Ext (p : S79 → Bool) (l0 : List (S79)) (kk : Nat) (hk : kk < l0.length) (h : p (l0.getD kk z79) = true) : l0.any p = true := by
  rw [List.any_eq_true]
  refine ⟨l0.getD kk z79, ?_, h⟩
  rw [List.getD_eq_getElem?_getD, List.getElem?_eq_getElem hk]
  exact List.getElem_mem hk
set_option maxHeartbeats 4000000 in
theorem idx_Ext.calls (g : Nat) (lb : Array Value) (eg : ∀ args w, (callFunc g args).run Try.prog w = .ok (.enter g args) w) (p : S79 → Bool) (A0 : Option Addr) (c0 : Nat) (l0 : List (S79)) (w : World) (hr0 : Kd.C k79 w A0 l0.length l0)
    (hp : ∀ (W : World) (x : S79), Below w.heap.size w W → Calls Try.prog g (#[.agg #[.int .i64 x.f0, .int .i64 x.f1]] ++ lb) W fun e w' => e = .returned (.bool (p x)) ∧ Below w.heap.size w w') :
    Calls Try.prog 162 #[.slice A0 l0.length c0, .func (.func g) #[] lb] w fun e w' => SomeIdxExt (l0.any p) e ∧ Below w.heap.size w w' := by
  have hu := Try.underlying79
  have HR0 := Aside0.mk hr0
  have hbig : l0.length ≤ 9223372036854775807 := hr0.2.1
  have HP := Aside0.mk hp
  clear hr0 hp
  go_enter Try.func162, Try.ntmps162
  go_wp2
  go_loopg [5, 8] l0.length (fun gg _ s8 wr => ∃ kk : Nat, kk ≤ l0.length ∧ l0.length - kk ≤ gg ∧ s8 = .int .i64 kk ∧ Aside0 (Below w.heap.size w wr) ∧ Aside0 (∀ j, j < kk → p (l0.getD j z79) = false))
  case atStart => exact ⟨0, Nat.zero_le _, by omega, rfl, ⟨Below.refl _ w⟩, ⟨fun j hj => absurd hj (Nat.not_lt_zero _)⟩⟩
  case round =>
    obtain ⟨kk, hkk, hg, rfl, BW, AA⟩ := hrel
    by_cases hlt : kk < l0.length
    · have hltz : (kk : Int) < (l0.length : Int) := by omega
      have h0z : (0 : Int) ≤ (kk : Int) := by omega
      obtain ⟨ad, e0, hx0, hx1⟩ := at_T79 HR0.out (kk : Int) h0z hltz
      subst e0
      replace hx0 := (BW.out.cell (World.block_lt_of_cell? w _ hx0)).trans hx0
      replace hx1 := (BW.out.cell (World.block_lt_of_cell? w _ hx1)).trans hx1
      have hcall := HP.out wr (rd_T79 l0 (kk : Int)) BW.out
      have hsame : Aside0 (rd_T79 l0 (kk : Int) = l0.getD kk z79) := ⟨rfl⟩
      generalize hy : rd_T79 l0 (kk : Int) = y at hx0 hx1 hcall hsame
      clear hy
      simp only [Int.toNat_natCast] at hx0 hx1
      cases hq : p y with
      | true =>
        have hq' := Aside0.mk hq
        rw [hq] at hcall
        clear hq
        have HC := Aside0.mk hcall
        clear hcall
        go_wp2_with (go_at_fn g; refine HC.out.mono ?_; rintro e w' ⟨rfl, hb'⟩)
        go_ret
        exact ⟨⟨_, rfl, by rw [any_hit_Ext p l0 kk hlt (by rw [← hsame.out]; exact hq'.out)]; simp⟩, hb'⟩
      | false =>
        have hq' := Aside0.mk hq
        rw [hq] at hcall
        clear hq
        have HC := Aside0.mk hcall
        clear hcall
        go_wp2_with (go_at_fn g; refine HC.out.mono ?_; rintro e w' ⟨rfl, hb'⟩)
        go_roundg (l0.length - (kk + 1))
        case measure => omega
        case rel =>
          refine ⟨kk + 1, by omega, by omega, by go_num, ⟨hb'⟩, ⟨fun j hj => ?_⟩⟩
          by_cases e : j = kk
          · subst e
            rw [← hsame.out]; exact hq'.out
          · exact AA.out j (by omega)
    · have hltz : ¬ (kk : Int) < (l0.length : Int) := by omega
      have hk : kk = l0.length := by omega
      have HK := Aside0.mk hk
      clear hk
      go_wp2
      go_ret
      exact ⟨⟨-1, rfl, by rw [any_take_Ext p l0 kk hkk AA.out (by have := HK.out; omega)]; rfl⟩, BW.out⟩
set_option maxHeartbeats 4000000 in
theorem con_Ext.calls (g : Nat) (lb : Array Value) (eg : ∀ args w, (callFunc g args).run Try.prog w = .ok (.enter g args) w) (p : S79 → Bool) (A0 : Option Addr) (c0 : Nat) (l0 : List (S79)) (w : World) (hr0 : Kd.C k79 w A0 l0.length l0)
    (hp : ∀ (W : World) (x : S79), Below w.heap.size w W → Calls Try.prog g (#[.agg #[.int .i64 x.f0, .int .i64 x.f1]] ++ lb) W fun e w' => e = .returned (.bool (p x)) ∧ Below w.heap.size w w') :
    Calls Try.prog 152 #[.slice A0 l0.length c0, .func (.func g) #[] lb] w fun e w' => e = .returned (.bool (l0.any p)) ∧ Below w.heap.size w w' := by
  have HC := Aside0.mk (idx_Ext.calls g lb eg p A0 c0 l0 w hr0 hp)
  clear hr0 hp
  generalize l0.any p = b at HC ⊢
  go_enter Try.func152, Try.ntmps152
  go_wp2_with (go_at_call 162; refine HC.out.mono ?_; rintro e w' ⟨⟨i, rfl, hi⟩, hb'⟩)
  go_ret
  exact ⟨by subst hi; rfl, hb'⟩

theorem ExtOK_ends (x : S79) : ∃ b, impl_ExtOK.f x.f0 x.f1 = some b := by
  unfold impl_ExtOK.f impl_FieldOK.f impl_in.f
  by_cases h0 : (0 : Int) ≤ x.f0 <;> by_cases h1 : (0 : Int) ≤ x.f1 <;> by_cases h2 : x.f0 ≤ 2130706432 <;> simp [h0, h1, h2]
/-- are over ExtOK: whether each element is right. -/
def are_Ext.f (l0 : List (S79)) : Option Bool := some (l0.all fun x => (impl_ExtOK.f x.f0 x.f1).getD false)
set_option maxHeartbeats 4000000 in
theorem are_Ext.closure (B : Nat) (w : World) (hB : B < w.heap.size) (hcell : w.cell? ⟨B, 0, none⟩ = some (.func (.func 123) #[] #[])) (W : World) (x : S79) (hW : Below w.heap.size w W) :
    Calls Try.prog 153 (#[.agg #[.int .i64 x.f0, .int .i64 x.f1]] ++ #[.pointer (some ⟨B, 0, none⟩)]) W fun e w' => e = .returned (.bool (!((impl_ExtOK.f x.f0 x.f1).getD false))) ∧ Below w.heap.size w w' := by
  have hc : W.cell? ⟨B, 0, none⟩ = some (.func (.func 123) #[] #[]) := (hW.cell (p := ⟨B, 0, none⟩) hB).trans hcell
  have hBW : B < W.heap.size := Nat.lt_of_lt_of_le hB hW.size
  have hne : B ≠ W.heap.size := by omega
  clear hcell
  obtain ⟨b, hb⟩ := ExtOK_ends x
  rw [hb]
  have HB := Aside0.mk hb
  clear hb
  have HW := Aside0.mk hW
  clear hW
  have hu := Try.underlying79
  show Calls Try.prog 153 #[.agg #[.int .i64 x.f0, .int .i64 x.f1], .pointer (some ⟨B, 0, none⟩)] W _
  go_enter Try.func153, Try.ntmps153
  go_wp2_with (go_at_call 123; refine (impl_ExtOK.calls x.f0 x.f1 b _ HB.out).mono ?_; rintro e w' ⟨rfl, hb'⟩)
  go_ret
  exact ⟨rfl, (HW.out.alloc HW.out.size _).trans (hb'.mono (by have := HW.out.size; simp; omega))⟩
set_option maxHeartbeats 4000000 in
theorem are_Ext.calls (A0 : Option Addr) (c0 : Nat) (l0 : List (S79)) (r : Bool) (w : World) (hr0 : Kd.C k79 w A0 l0.length l0) (hc0 : l0.length ≤ c0) (h : are_Ext.f l0 = some r) :
    Calls Try.prog 122 #[.func (.func 123) #[] #[], .slice A0 l0.length c0] w fun e w' => e = .returned (.bool r) ∧ Below w.heap.size w w' := by
  have er : (l0.any fun x => !((impl_ExtOK.f x.f0 x.f1).getD false)) = !r := by
    unfold are_Ext.f at h
    rw [← Option.some.inj h]
    rw [Bool.eq_iff_iff]
    simp
  have eg : ∀ args w, (callFunc 153 args).run Try.prog w = .ok (.enter 153 args) w := Go.Proofs.enters_of Try.func153 (by kernel_rfl) rfl
  have HC := Aside0.mk (con_Ext.calls 153 #[.pointer (some ⟨w.heap.size, 0, none⟩)] eg (fun x => !((impl_ExtOK.f x.f0 x.f1).getD false)) A0 c0 l0 (w.alloc (.cells #[.func (.func 123) #[] #[]] 127)) (Kd.C_below hr0 (below_alloc (Below.refl _ _) _))
    (fun W x hW => are_Ext.closure w.heap.size _ (by simp) (by simp) W x hW))
  rw [er] at HC
  clear er hr0 hc0 h
  go_enter Try.func122, Try.ntmps122
  go_wp2_with (go_at_call 152; refine HC.out.mono ?_; rintro e w' ⟨rfl, hb'⟩)
  go_ret
  exact ⟨by simp, (below_alloc (Below.refl _ _) _).trans (hb'.mono (by simp))⟩

end Go.Proofs.Ytlogocmojnhpbaa.Print
/- Plain words for the regions in which a source hashes pieces in an open order: what stays, pieces' rows. -/
namespace Go.Proofs.Ytlogocmojnhpbaa.Print
open Go.RowKit Go.Proofs.YtlogocmojnhpbaaW.PrintWords Go.Proofs.YtlogocmojnhpbaaW.PrintLast
set_option linter.unusedVariables false
set_option linter.unusedSimpArgs false
section
variable {W W1 : World} {p : Addr} {v : Value} {g cap base : Nat} {xs : List Int}
theorem keep_alloc (h : W.cell? p = some v) (o : Obj) : (W.alloc o).cell? p = some v := (World.cell?_of_block ((below_alloc (Below.refl W.heap.size W) o).block _ (World.block_lt_of_cell? W _ h))).trans h
theorem keep_bytes (h : W.cell? p = some v) (e : TypeId) (s : ByteArray) : (Lib.bytesWorld W e s).cell? p = some v := (Lib.bytesWorld_old W e s p (World.block_lt_of_cell? W _ h)).trans h
theorem keep_below (h : W.cell? p = some v) (hb : Below W.heap.size W W1) : W1.cell? p = some v := (World.cell?_of_block (hb.block _ (World.block_lt_of_cell? W _ h))).trans h
theorem MRow.bytes (h : MRow W g cap xs) (e : TypeId) (s : ByteArray) : MRow (Lib.bytesWorld W e s) g cap xs := h.step (Lib.bytesWorld_at_old W e s g h.lt)
theorem MRow.of_lit (W : World) (xs : List Int) (hm : xs.length ≤ 1000) : MRow (W.alloc (.cells (nums .u8 xs).toArray 5)) W.heap.size xs.length xs :=
  ⟨(nums .u8 xs).toArray, (0, 0), blk_new _ _, .inr rfl, Nat.le_refl _, by unfold maxLen; omega, by simp [nums], List.take_of_length_le (by simp [nums])⟩
theorem below_bytes {B : Nat} {w : World} (h : Below B w W) (hB : B ≤ W.heap.size) (e : TypeId) (s : ByteArray) : Below B w (Lib.bytesWorld W e s) := bytes_below h hB e s
/-- A slice of bytes that is read. -/
def PRow (W : World) (v : Value) (xs : List Int) : Prop := ∃ A c, v = .slice A xs.length c ∧ xs.length ≤ c ∧ (Kd.int .u8).C W A xs.length xs
theorem PRow.step {v : Value} (h : PRow W v xs) (hb : Below W.heap.size W W1) : PRow W1 v xs := by
  obtain ⟨A, c, e, hc, hC⟩ := h
  exact ⟨A, c, e, hc, Kd.C_below hC hb⟩
theorem PRow.alloc {v : Value} (h : PRow W v xs) (o : Obj) : PRow (W.alloc o) v xs := h.step (below_alloc (Below.refl _ _) o)
theorem PRow.bytes {v : Value} (h : PRow W v xs) (e : TypeId) (s : ByteArray) : PRow (Lib.bytesWorld W e s) v xs := h.step (bytes_below (Below.refl _ _) (Nat.le_refl _) e s)
theorem PRow.of_M (h : MRow W g cap xs) {n : Nat} (hn : n = xs.length) : PRow W (.slice (some ⟨g, 0, none⟩) n cap) xs := by
  subst hn
  obtain ⟨cur, fz, h1, h2, h3, _⟩ := h
  exact ⟨_, _, rfl, h3, MRow.reads ⟨cur, fz, h1, h2, h3, by assumption⟩⟩
theorem PRow.of_bytes (W : World) (s : ByteArray) (hs : s.size ≤ 9223372036854775807) : PRow (Lib.bytesWorld W 5 s) (.slice (some ⟨W.heap.size, 0, none⟩) s.size (grownCap W s.size 0 5)) (bytesOf s) := PRow.of_M (MRow.of_bytes W s hs) (bytesOf_length s).symm
theorem PRow.of_lit (W : World) (xs : List Int) (cells : Array Value) (n : Nat) (hc : cells = (nums .u8 xs).toArray) (hn : n = xs.length) (hm : xs.length ≤ 1000) : PRow (W.alloc (.cells cells 5)) (.slice (some ⟨W.heap.size, 0, none⟩) n n) xs := by
  subst hc hn
  exact PRow.of_M (MRow.of_lit W xs hm) rfl
theorem PRow.of_R {v : Value} {e : Nat} {ok : Nat → Prop} (h : (Kd.int .u8).R e W base ok v xs) : PRow W v xs := by
  obtain ⟨A, c, he, hc, hC⟩ := Kd.R_reads h
  exact ⟨A, c, he, hc, hC⟩
/-- Three pieces, four pieces. -/
theorem pieces3 {v0 v1 v2 : Value} {x0 x1 x2 : List Int} (h0 : PRow W v0 x0) (h1 : PRow W v1 x1) (h2 : PRow W v2 x2) : (Kd.slice 5 (Kd.int .u8)).C (W.alloc (.cells #[v0, v1, v2] 25)) (some ⟨W.heap.size, 0, none⟩) 3 [x0, x1, x2] := by
  refine pieces_C _ _ [v0, v1, v2] [x0, x1, x2] (blk_new _ _) rfl (by simp) ?_
  intro j v xs hv hx
  match j with
  | 0 =>
    obtain rfl : v0 = v := by simpa using hv
    obtain rfl : x0 = xs := by simpa using hx
    exact h0.alloc _
  | 1 =>
    obtain rfl : v1 = v := by simpa using hv
    obtain rfl : x1 = xs := by simpa using hx
    exact h1.alloc _
  | 2 =>
    obtain rfl : v2 = v := by simpa using hv
    obtain rfl : x2 = xs := by simpa using hx
    exact h2.alloc _
  | j + 3 => simp at hv
theorem pieces4 {v0 v1 v2 v3 : Value} {x0 x1 x2 x3 : List Int} (h0 : PRow W v0 x0) (h1 : PRow W v1 x1) (h2 : PRow W v2 x2) (h3 : PRow W v3 x3) : (Kd.slice 5 (Kd.int .u8)).C (W.alloc (.cells #[v0, v1, v2, v3] 25)) (some ⟨W.heap.size, 0, none⟩) 4 [x0, x1, x2, x3] := by
  refine pieces_C _ _ [v0, v1, v2, v3] [x0, x1, x2, x3] (blk_new _ _) rfl (by simp) ?_
  intro j v xs hv hx
  match j with
  | 0 =>
    obtain rfl : v0 = v := by simpa using hv
    obtain rfl : x0 = xs := by simpa using hx
    exact h0.alloc _
  | 1 =>
    obtain rfl : v1 = v := by simpa using hv
    obtain rfl : x1 = xs := by simpa using hx
    exact h1.alloc _
  | 2 =>
    obtain rfl : v2 = v := by simpa using hv
    obtain rfl : x2 = xs := by simpa using hx
    exact h2.alloc _
  | 3 =>
    obtain rfl : v3 = v := by simpa using hv
    obtain rfl : x3 = xs := by simpa using hx
    exact h3.alloc _
  | j + 4 => simp at hv
theorem kCat3 (x0 x1 x2 : List Int) : kCat [x0, x1, x2] 3 = x0 ++ x1 ++ x2 := by simp [kCat]
theorem kCat4 (x0 x1 x2 x3 : List Int) : kCat [x0, x1, x2, x3] 4 = x0 ++ x1 ++ x2 ++ x3 := by simp [kCat]
end
end Go.Proofs.Ytlogocmojnhpbaa.Print
/- A region whose order is open, by facts: each operation is shown once, at whatever world its forerunners' facts hold in; no order is gone through. -/
namespace Go.Proofs.Ytlogocmojnhpbaa.Print
open Go Go.RowKit Go.Proofs.YtlogocmojnhpbaaW.PrintWords Go.Proofs.YtlogocmojnhpbaaW.PrintLast
set_option linter.unusedVariables false
set_option linter.unusedSimpArgs false
section
variable {P : Program} {ops : Array Oper} {Q : Exit → Act → World → Prop} {md : Region.Mode}
/-- How many are not listed. -/
def openOf (listed : Array Bool) : Nat := (listed.toList.filter (!·)).length
theorem openOf_set {listed : Array Bool} {i : Nat} (h : listed.getD i true = false) : openOf (listed.setIfInBounds i true) + 1 = openOf listed := by
  obtain ⟨l⟩ := listed
  unfold openOf
  have h1 : l[i]? = some false := by
    simp only [Array.getD_eq_getD_getElem?, List.getElem?_toArray] at h
    cases e : l[i]? with
    | none => rw [e] at h; simp at h
    | some b => rw [e] at h; simp at h; rw [h]
  simp only [List.setIfInBounds_toArray]
  clear h
  induction l generalizing i with
  | nil => simp at h1
  | cons b l ih =>
    cases i with
    | zero =>
      have : b = false := by simpa using h1
      subst this
      simp
    | succ i =>
      have := ih (i := i) (by simpa using h1)
      cases b <;> simp_all
/-- All forerunners stand ahead. -/
def aheadOf (md : Region.Mode) (ops : Array Oper) : Bool := (List.range ops.size).all fun j => ((ops[j]?).map fun o => o.after.all fun e => !Region.binds md e || decide (e.on < j)).getD true
theorem ready_some (ha : aheadOf md ops = true) {listed : Array Bool} (hs : listed.size = ops.size) (ho : openOf listed ≠ 0) : Region.ready md ops listed ≠ [] := by
  have hex : ∃ j, listed.getD j true = false := by
    obtain ⟨l⟩ := listed
    unfold openOf at ho
    obtain ⟨b, hb⟩ := List.exists_mem_of_length_pos (Nat.pos_of_ne_zero ho)
    have hb2 := List.mem_filter.1 hb
    obtain ⟨j, hj, e⟩ := List.mem_iff_getElem.1 hb2.1
    refine ⟨j, ?_⟩
    have : b = false := by simpa using hb2.2
    subst this
    simp [Array.getD_eq_getD_getElem?, List.getElem?_eq_getElem hj, e]
  -- the least one
  have key : ∀ n j, j ≤ n → listed.getD j true = false → ∃ k, k ∈ Region.ready md ops listed := by
    intro n
    induction n with
    | zero =>
      intro j hj h
      obtain rfl : j = 0 := by omega
      have hlt : 0 < ops.size := by
        rw [← hs]
        rcases Nat.lt_or_ge 0 listed.size with g | g
        · exact g
        · rw [Array.getD_eq_getD_getElem?, Array.getElem?_eq_none (by omega)] at h
          simp at h
      refine ⟨0, mem_ready.2 ⟨h, ops[0], Array.getElem?_eq_getElem hlt, fun e he hb => ?_⟩⟩
      have := List.all_eq_true.1 ha 0 (List.mem_range.2 hlt)
      rw [Array.getElem?_eq_getElem hlt, Option.map_some, Option.getD_some] at this
      have := Array.all_eq_true_iff_forall_mem.1 this e he
      rw [hb] at this
      simp at this
    | succ n ih =>
      intro j hj h
      have hlt : j < ops.size := by
        rw [← hs]
        rcases Nat.lt_or_ge j listed.size with g | g
        · exact g
        · rw [Array.getD_eq_getD_getElem?, Array.getElem?_eq_none (by omega)] at h
          simp at h
      by_cases hall : ∀ k, k < j → listed.getD k false = true
      · refine ⟨j, mem_ready.2 ⟨h, ops[j], Array.getElem?_eq_getElem hlt, fun e he hb => ?_⟩⟩
        have := List.all_eq_true.1 ha j (List.mem_range.2 hlt)
        rw [Array.getElem?_eq_getElem hlt, Option.map_some, Option.getD_some] at this
        have := Array.all_eq_true_iff_forall_mem.1 this e he
        rw [hb] at this
        simp at this
        exact hall _ this
      · obtain ⟨k, hk⟩ := Classical.not_forall.1 hall
        have hk1 : k < j := Classical.byContradiction fun g => hk (fun g' => absurd g' g)
        have hk2 : listed.getD k false ≠ true := fun g => hk (fun _ => g)
        refine ih k (by omega) ?_
        have hks : k < listed.size := by omega
        simp only [Array.getD_eq_getD_getElem?, Array.getElem?_eq_getElem hks, Option.getD_some] at hk2 ⊢
        simpa using hk2
  obtain ⟨j, hj⟩ := hex
  obtain ⟨k, hk⟩ := key j j (Nat.le_refl _) hj
  intro e
  rw [e] at hk
  cases hk
/-- An invariant that each ready operation keeps. -/
theorem wpAny_inv (ha : aheadOf md ops = true) (J : Array Bool → Act → World → Prop)
    (step : ∀ (listed : Array Bool) (a : Act) (w : World) (i : Nat), listed.size = ops.size → i ∈ Region.ready md ops listed → J listed a w → wpOp P ops Q i (J (listed.setIfInBounds i true)) a w)
    (last : ∀ (listed : Array Bool) (a : Act) (w : World), listed.size = ops.size → openOf listed = 0 → J listed a w → Q .normal a w) :
    ∀ (fuel : Nat) (listed : Array Bool) (a : Act) (w : World), listed.size = ops.size → openOf listed ≤ fuel → J listed a w → wpAny P md ops Q fuel listed a w := by
  intro fuel
  induction fuel with
  | zero =>
    intro listed a w hs ho hJ
    refine ⟨?_, last listed a w hs (by omega) hJ⟩
    cases e : Region.ready md ops listed with
    | nil => rfl
    | cons x xs =>
      have hx : x ∈ Region.ready md ops listed := by rw [e]; exact List.mem_cons_self
      have := openOf_set (mem_ready.1 hx).1
      omega
  | succ fuel ih =>
    intro listed a w hs ho hJ
    refine ⟨fun e => ?_, fun i hi => ?_⟩
    · refine last listed a w hs ?_ hJ
      exact Classical.byContradiction fun g => ready_some (md := md) ha hs g e
    · have h1 := openOf_set (mem_ready.1 hi).1
      exact wpOp_mono (fun a' w' hJ' => ih _ a' w' (by simpa using hs) (by omega) hJ') (step listed a w i hs hi hJ)
/-- Slots by the operation that writes them. -/
def upd (v : Nat → Value) (k : Nat) (x : Value) : Nat → Value := fun j => if j = k then x else v j
theorem upd_self (v : Nat → Value) (k : Nat) (x : Value) : upd v k x k = x := by simp [upd]
theorem upd_ne (v : Nat → Value) {k j : Nat} (x : Value) (h : j ≠ k) : upd v k x j = v j := by simp [upd, h]
/-- What has been listed is closed under forerunners. -/
def Closed (md : Region.Mode) (ops : Array Oper) (listed : Array Bool) : Prop := ∀ (j : Nat) (o : Oper) (e : Edge), ops[j]? = some o → listed.getD j false = true → e ∈ o.after → Region.binds md e = true → listed.getD e.on false = true
theorem openOf_false {listed : Array Bool} (h : openOf listed = 0) (k : Nat) (hk : k < listed.size) : listed.getD k false = true := by
  obtain ⟨l⟩ := listed
  have hk' : k < l.length := by simpa using hk
  unfold openOf at h
  have h1 : l.filter (!·) = [] := List.eq_nil_of_length_eq_zero h
  have h2 := List.filter_eq_nil_iff.1 h1 l[k] (List.getElem_mem hk')
  simp [Array.getD_eq_getD_getElem?, List.getElem?_eq_getElem hk']
  simpa using h2
/-- THE LAW: a region whose order is open, by a fact for each operation (F), what holds of the world (I), and how the world grows (G). -/
theorem region_facts {id : Nat} (hm : P.follows .mixedOrders = true) (ha : aheadOf .any ops = true) (frm : (Nat → Value) → Act) (F : Nat → Value → World → Prop) (I : Array Bool → World → Prop) (G : World → World → Prop) (v0 : Nat → Value) (w0 : World)
    (mono : ∀ k x w w', F k x w → G w w' → F k x w')
    (start : I (Array.replicate ops.size false) w0.drew)
    (step : ∀ (listed : Array Bool) (k : Nat) (o : Oper) (v : Nat → Value) (w : World), ops[k]? = some o → listed.size = ops.size → listed.getD k false = false → Closed .any ops listed → (∀ e ∈ o.after, Region.binds .any e = true → listed.getD e.on false = true ∧ F e.on (v e.on) w) → I listed w →
      wpOp P ops Q k (fun a' w' => ∃ x, a' = frm (upd v k x) ∧ F k x w' ∧ G w w' ∧ I (listed.setIfInBounds k true) w') (frm v) w)
    (last : ∀ (listed : Array Bool) (v : Nat → Value) (w : World), (∀ k, k < ops.size → listed.getD k false = true) → I listed w → (∀ k, k < ops.size → F k (v k) w) → Q .normal (frm v) w) :
    (Code.region id ops true).wp P Q (frm v0) w0 := by
  refine wp_region_any hm ?_
  refine wpAny_inv ha (fun listed a w => ∃ v, a = frm v ∧ I listed w ∧ Closed .any ops listed ∧ ∀ k, listed.getD k false = true → F k (v k) w) ?_ ?_ ops.size _ _ _ (by simp) (by unfold openOf; exact Nat.le_trans (List.length_filter_le _ _) (by simp)) ?_
  · rintro listed a w i hs hi ⟨v, rfl, hI, hC, hF⟩
    obtain ⟨h0, o, ho, hd⟩ := mem_ready.1 hi
    have hlt : i < listed.size := by rw [hs]; exact (Array.getElem?_eq_some_iff.1 ho).1
    have h0' : listed.getD i false = false := by
      simp only [Array.getD_eq_getD_getElem?, Array.getElem?_eq_getElem hlt, Option.getD_some] at h0 ⊢
      exact h0
    refine wpOp_mono ?_ (step listed i o v w ho hs h0' hC (fun e he hb => ⟨hd e he hb, hF _ (hd e he hb)⟩) hI)
    rintro a' w' ⟨x, rfl, hx, hg, hI'⟩
    refine ⟨_, rfl, hI', ?_, fun k hk => ?_⟩
    · intro j o' e hj hl he hb
      by_cases e1 : e.on = i
      · rw [e1]
        simp [Array.getD_eq_getD_getElem?, Array.getElem?_setIfInBounds_self_of_lt hlt]
      · rw [getD_set_ne false (fun h => e1 h.symm)]
        by_cases e2 : j = i
        · subst e2
          rw [ho] at hj
          cases hj
          exact hd e he hb
        · rw [getD_set_ne false (fun h => e2 h.symm)] at hl
          exact hC j o' e hj hl he hb
    · by_cases e1 : k = i
      · subst e1
        rw [upd_self]
        exact hx
      · rw [getD_set_ne false (fun h => e1 h.symm)] at hk
        rw [upd_ne _ _ e1]
        exact mono _ _ _ _ (hF k hk) hg
  · rintro listed a w hs ho ⟨v, rfl, hI, hC, hF⟩
    have hall : ∀ k, k < ops.size → listed.getD k false = true := fun k hk => openOf_false ho k (by omega)
    exact last listed v w hall hI (fun k hk => hF k (hall k hk))
  · refine ⟨v0, rfl, start, ?_, ?_⟩
    · intro j o e hj hl
      simp [Array.getD_eq_getD_getElem?, Array.getElem?_replicate] at hl
      split at hl <;> simp at hl
    · intro k hl
      simp [Array.getD_eq_getD_getElem?, Array.getElem?_replicate] at hl
      split at hl <;> simp at hl
/-- One operation that yields a value. -/
theorem wpOp_value {i : Nat} {o : Oper} {a : Act} {w w' : World} {K : Act → World → Prop} {v : Value} (hi : ops[i]? = some o) (hg : o.guard = none) (hrun : (execOp a.eval o).run P w = .ok (.value v) w') (h : K (a.put o.dst v) w') : wpOp P ops Q i K a w := by
  unfold wpOp
  rw [hi]
  have hw : Region.wanted o (yielded ops a.tmps) = true := by simp [Region.wanted, hg]
  simp only [hw, if_true]
  refine .inl ?_
  unfold Oper.wp
  rw [hrun, Oper.upon_value]
  exact h
/-- One operation that yields nothing (a store). -/
theorem wpOp_skip {i : Nat} {o : Oper} {a : Act} {w w' : World} {K : Act → World → Prop} (hi : ops[i]? = some o) (hg : o.guard = none) (hd : o.dst = none) (hrun : (execOp a.eval o).run P w = .ok .skip w') (h : K a w') : wpOp P ops Q i K a w := by
  unfold wpOp
  rw [hi]
  have hw : Region.wanted o (yielded ops a.tmps) = true := by simp [Region.wanted, hg]
  simp only [hw, if_true]
  refine .inl ?_
  unfold Oper.wp
  rw [hrun, Oper.upon_skip, hd]
  exact h
/-- One call by its contract. -/
theorem wpOp_call {i : Nat} {o : Oper} {a : Act} {w : World} {K : Act → World → Prop} {f : FuncId} {args : Array Value} {Post : Ending → World → Prop} (hi : ops[i]? = some o) (hg : o.guard = none) (hrun : (execOp a.eval o).run P w = .ok (.enter f args) w) (hc : Calls P f args w Post)
    (h : ∀ e w1, Post e w1 → ∃ v, e = .returned v ∧ K (a.put o.dst v) w1) : wpOp P ops Q i K a w := by
  unfold wpOp
  rw [hi]
  have hw : Region.wanted o (yielded ops a.tmps) = true := by simp [Region.wanted, hg]
  simp only [hw, if_true]
  refine .inl ?_
  unfold Oper.wp
  rw [hrun, Oper.upon_enter]
  refine hc.mono fun e w1 hp => ?_
  obtain ⟨v, rfl, hk⟩ := h e w1 hp
  exact hk
end
/-- What was read reads so. -/
def Grow (w w' : World) : Prop := ∀ (p : Addr) (u : Value), w.cell? p = some u → w'.cell? p = some u
theorem Grow.refl (w : World) : Grow w w := fun _ _ h => h
theorem Grow.of_below {w w1 : World} (hb : Below w.heap.size w w1) : Grow w w1 := fun _ _ h => keep_below h hb
theorem Grow.alloc (w : World) (o : Obj) : Grow w (w.alloc o) := fun _ _ h => keep_alloc h o
theorem Grow.bytes (w : World) (e : TypeId) (s : ByteArray) : Grow w (Lib.bytesWorld w e s) := fun _ _ h => keep_bytes h e s
theorem cell_freeze (w : World) (p q : Addr) (n : Nat) : (w.freeze p n).cell? q = w.cell? q := by
  unfold World.freeze
  split
  · rfl
  · simp only [World.cell?, Array.getElem?_modify]
    by_cases h : p.block = q.block
    · rw [if_pos h]
      cases e : w.heap[q.block]? with
      | none => simp
      | some o => cases o <;> simp
    · rw [if_neg h]
theorem Grow.freeze (w : World) (p : Addr) (n : Nat) : Grow w (w.freeze p n) := fun q u h => by rw [cell_freeze]; exact h
theorem C_grow {w w1 : World} {A : Option Addr} {n : Nat} {xs : List Int} {k : IntKind} (h : (Kd.int k).C w A n xs) (hg : Grow w w1) : (Kd.int k).C w1 A n xs := by
  have h2 := Kd.reads_of_C (enc := Value.int k) (d := (0 : Int)) (h1 := fun _ => rfl) h
  refine Kd.C_of_reads (d := (0 : Int)) ⟨h2.1, h2.2.1, fun hn => ?_⟩
  obtain ⟨ad, e, hc⟩ := h2.2.2 hn
  exact ⟨ad, e, fun j hj => hg _ _ (hc j hj)⟩
theorem PRow.grow {w w1 : World} {v : Value} {xs : List Int} (h : PRow w v xs) (hg : Grow w w1) : PRow w1 v xs := by
  obtain ⟨A, c, e, hc, hC⟩ := h
  exact ⟨A, c, e, hc, C_grow hC hg⟩
theorem CC_grow {w w1 : World} {A : Option Addr} {n : Nat} {xss : List (List Int)} (h : (Kd.slice 5 (Kd.int .u8)).C w A n xss) (hg : Grow w w1) : (Kd.slice 5 (Kd.int .u8)).C w1 A n xss := by
  refine ⟨h.1, h.2.1, fun hn => ?_⟩
  obtain ⟨ad, e, hc⟩ := h.2.2 hn
  refine ⟨ad, e, fun j p hj => ?_⟩
  obtain ⟨c, hl, ⟨A1, c1, e1, h1, hC⟩, hcell⟩ := hc j p hj
  exact ⟨c, hl, ⟨A1, c1, e1, h1, C_grow hC hg⟩, fun i u hu => hg _ _ (hcell i u hu)⟩
/-- '[]byte(lit)' of a literal: the same slice; its block is marked, nothing that is read turns. -/
theorem run_mark (w : World) (g o n c : Nat) : ∃ w', (convert 25 25 (.slice (some ⟨g, o, none⟩) n c)).run Try.prog w = .ok (.slice (some ⟨g, o, none⟩) n c) w' ∧ Grow w w' ∧ ∀ (B : Nat) (w0 : World), Below B w0 w → B ≤ g → Below B w0 w' := by
  have hr : (convert 25 25 (.slice (some ⟨g, o, none⟩) n c)).run Try.prog w = ((markStringish ⟨g, o, none⟩).run Try.prog w).andThen fun _ w' => .ok (.slice (some ⟨g, o, none⟩) n c) w' := by
    simp [convert, run_underlying Try.underlying25, run_underlying Try.underlying5, Result.andThen]
  rw [hr]
  unfold markStringish
  cases hs : w.shape? g with
  | none => exact ⟨w, by simp [hs, Result.andThen], Grow.refl _, fun _ _ h _ => h⟩
  | some q => exact ⟨w.freeze ⟨g, q.2, none⟩ 1, by simp [hs, Result.andThen], Grow.freeze _ _ _, fun _ _ h hb => Lib.below_freeze h hb 1⟩
end Go.Proofs.Ytlogocmojnhpbaa.Print
namespace Go.Proofs.Ytlogocmojnhpbaa.Print
open Go.RowKit Go.Proofs.YtlogocmojnhpbaaW.PrintWords Go.Proofs.YtlogocmojnhpbaaW.PrintLast Go.Proofs.YtlogocmojnhpbaaW.PrintMore
attribute [local go_sem] max2_int min2_int max_two min_two max_three min_three max_four min_four   -- for this text's walks alone
set_option linter.unusedVariables false
set_option linter.unusedSimpArgs false

/-! ### impl_four: function 149 -/
def impl_four.f (l0 : List Int) (a1 : Int) : Option (List Int) := (some (([(a1 / 16777216) % 256, (a1 / 65536) % 256, (a1 / 256) % 256, (a1) % 256] : List Int) : List Int)).bind fun y332 => (if l0.length + y332.length < 140737488355328 then (some (l0 ++ y332)) else (none))
set_option maxHeartbeats 8000000 in
set_option maxRecDepth 100000 in
theorem impl_four.calls (P0_ : Nat → Prop) (u9000_ : Value) (l0 : List Int) (a1 : Int) (r : List Int) (w0 w : World) (hB : Below w0.heap.size w0 w) (ho0 : Kd.R (Kd.int .u8) 5 w w0.heap.size P0_ u9000_ l0) (h : impl_four.f l0 a1 = some r) :
    Calls Try.prog 149 #[u9000_, .int .i64 a1] w fun e w' => ∃ v0_ : Value, e = .returned (v0_) ∧ Kd.R (Kd.int .u8) 5 w' w0.heap.size (fun k_ => (P0_ k_ ∨ w.heap.size ≤ k_)) v0_ r ∧ Below w0.heap.size w0 w' ∧ Kept w w' (fun k_ => P0_ k_) := by
  have HO0 := Aside0.mk (show Kd.R (Kd.int .u8) 5 w w0.heap.size (fun k_ => (P0_ k_ ∨ w.heap.size ≤ k_)) u9000_ l0 from Kd.R_mono ho0 (fun k_ hk => (.inl hk)))
  have HK := Aside0.mk (Kept.refl w (fun k_ => P0_ k_))
  have HW0 := Aside0.mk hB.size
  have HB := Aside0.mk hB
  clear hB
  have H : ((some (([(a1 / 16777216) % 256, (a1 / 65536) % 256, (a1 / 256) % 256, (a1) % 256] : List Int) : List Int)).bind fun y332 => (if l0.length + y332.length < 140737488355328 then (some (l0 ++ y332)) else (none))) = some r := h
  clear h
  obtain ⟨y332, hy332⟩ : ∃ y_ : List Int, y_ = (([(a1 / 16777216) % 256, (a1 / 65536) % 256, (a1 / 256) % 256, (a1) % 256] : List Int)) := ⟨_, rfl⟩
  replace H : (if l0.length + y332.length < 140737488355328 then (some (l0 ++ y332)) else (none)) = some r := by first | (rw [hy332]; with_reducible exact H) | (have H2_ := (Option.bind_some _ _).symm.trans H; rw [hy332]; with_reducible exact H2_) | (have H2_ := (Option.bind_some _ _).symm.trans H; with_reducible exact H2_) | with_reducible exact H | (rw [hy332]; exact H) | exact H
  have Ny332 := Aside0.mk hy332
  clear hy332
  by_cases c3 : l0.length + y332.length < 140737488355328
  · rw [if_pos c3] at H
    have LMc3 := Aside0.mk c3
    clear c3
    obtain ⟨y335, hy335⟩ : ∃ y_ : List Int, y_ = (l0 ++ y332) := ⟨_, rfl⟩
    replace H : (some y335) = some r := by first | (rw [hy335]; with_reducible exact H) | (have H2_ := (Option.bind_some _ _).symm.trans H; rw [hy335]; with_reducible exact H2_) | (have H2_ := (Option.bind_some _ _).symm.trans H; with_reducible exact H2_) | with_reducible exact H | (rw [hy335]; exact H) | exact H
    have Ny335 := Aside0.mk hy335
    clear hy335
    obtain rfl := Option.some.inj H
    go_enter Try.func149, Try.ntmps149
    go_wp2_with (first | ((with_reducible refine gate_dst (N := 17) rfl ?_); refine Kd.R_lit (Kd.int .u8) _ 5 ?hg (N := 17) ?hd (xs := ([(a1 / 16777216) % 256, (a1 / 65536) % 256, (a1 / 256) % 256, (a1) % 256] : List Int)) (inner := [.int .u8 ((a1 / 16777216) % 256), .int .u8 ((a1 / 65536) % 256), .int .u8 ((a1 / 256) % 256), .int .u8 ((a1) % 256)]) (ok := fun _ => True) (okp := fun _ => True) ?hr ?hp (fun _ hk => hk) trivial (Below.refl _ _) (Nat.le_refl _) (by simp) ?_; (case hd => rfl); (case hg => rfl); (case hr => first | (go_simp; done) | (go_simp; rfl)); (case hp => exact (Reps.one (show Kd.M (Kd.int .u8) _ _ _ ((a1 / 16777216) % 256) [.int .u8 ((a1 / 16777216) % 256)] from rfl) (Reps.one (show Kd.M (Kd.int .u8) _ _ _ ((a1 / 65536) % 256) [.int .u8 ((a1 / 65536) % 256)] from rfl) (Reps.one (show Kd.M (Kd.int .u8) _ _ _ ((a1 / 256) % 256) [.int .u8 ((a1 / 256) % 256)] from rfl) (Reps.one (show Kd.M (Kd.int .u8) _ _ _ ((a1) % 256) [.int .u8 ((a1) % 256)] from rfl) (Reps.none _ _)))))); intro v333 w4 ho5 hb hg_ hnew_; clear hg_ hnew_; (first | rw [← Ny332.out] at ho5 | (simp only [Int.reduceToNat] at ho5; rw [← Ny332.out] at ho5)); have n0_ := Aside0.mk (Kd.R_elder' (by (with_reducible repeat (first | apply Kd.R_alloc | apply Kd.R_drewN | apply Kd.R_drew)); exact HO0.out) (Kd.R_base ho5) hb); have n1_ := Aside0.mk (Kd.R_lower (Kd.R_new' (Kd.R_newM (M := fun k_ => (P0_ k_ ∨ w.heap.size ≤ k_)) ho5 (by first | exact HK.out.1 | exact (show Kept w _ (fun k_ => P0_ k_) from by repeat (first | (with_reducible first | exact HK.out | apply Kept.alloc | apply Kept.drewN | apply Kept.drew) | exact HK.out)).1) (fun k_ h_ => .inr h_)) (Kd.R_lt (by (with_reducible repeat (first | apply Kd.R_alloc | apply Kd.R_drewN | apply Kd.R_drew)); exact HO0.out))) (below_size (by repeat (first | (with_reducible first | exact HB.out | apply below_alloc | apply pw_below_drewN | apply below_drew1) | exact HB.out)))); have n2_ := Aside0.mk (Kept.below (S := (fun k_ => P0_ k_)) (by repeat (first | (with_reducible first | exact HK.out | apply Kept.alloc | apply Kept.drewN | apply Kept.drew) | exact HK.out)) hb); have n3_ := Aside0.mk (below_step (by repeat (first | (with_reducible first | exact HB.out | apply below_alloc | apply pw_below_drewN | apply below_drew1) | exact HB.out)) hb); clear HO0; clear HK; clear HB; have HO0 := n0_; have HO334 := n1_; have HK := n2_; have HB := n3_; clear n0_ n1_ n2_ n3_; clear hb ho5; obtain ⟨Ao7, co7, eo7⟩ := Kd.R_slice HO334.out; subst eo7) | ((with_reducible refine gate_builtin (b := .append) (xs := #[.tmp 5, .tmp 17]) rfl ?_); at_builtin; refine Kd.R_append_rows (Kd.int .u8) (w0 := w0) w0.heap.size rfl (.tmp 5) (.tmp 17) 25 5 (.int .u8 0) 1 rfl Try.underlying25 info5 rfl (by decide) (by omega) u9000_ l0 y332 _ _ _ (fun k_ => (P0_ k_ ∨ w.heap.size ≤ k_) ∧ some k_ ≠ (.slice Ao7 y332.length co7 : Value).ownBlock) (fun _ => False) rfl rfl ?aO ?aR (fun _ _ h => h) (fun _ h => h.elim) ?aF ?aB ?aS ?aL ?_; (case aR => repeat (first | exact (Kd.R_reads' HO334.out).2.2 | (with_reducible refine Kd.C_alloc ?_ _) | (with_reducible refine Kd.C_drewN ?_ _) | (with_reducible refine Kd.C_drew ?_))); (case aB => exact (by repeat (first | (with_reducible first | exact HB.out | apply below_alloc | apply pw_below_drewN | apply below_drew1) | exact HB.out))); (case aF => exact (fun k_ hk => ⟨(.inr (Nat.le_trans (by first | exact HK.out.1 | exact (show Kept w _ (fun k_ => P0_ k_) from by repeat (first | (with_reducible first | exact HK.out | apply Kept.alloc | apply Kept.drewN | apply Kept.drew) | exact HK.out)).1) hk)), Kd.fresh' (Kd.R_lt (by (with_reducible repeat (first | apply Kd.R_alloc | apply Kd.R_drewN | apply Kd.R_drew)); exact HO334.out)) k_ hk⟩)); (case aO => exact (by (with_reducible repeat (first | apply Kd.R_alloc | apply Kd.R_drewN | apply Kd.R_drew)); exact HO0.out)); (case aS => exact (below_size (by repeat (first | (with_reducible first | exact HB.out | apply below_alloc | apply pw_below_drewN | apply below_drew1) | exact HB.out)))); (case aL => have := LMc3.out; omega); intro v336 w6 ho hb hg hat; rw [← Ny335.out] at ho; have n0_ := Aside0.mk (Kd.R_after (ok := (fun k_ => (P0_ k_ ∨ w.heap.size ≤ k_))) (by (with_reducible repeat (first | apply Kd.R_alloc | apply Kd.R_drewN | apply Kd.R_drew)); exact Kd.R_mono HO334.out (fun _ hk => ⟨hk.1.1, hk.2⟩)) hg hat); have n1_ := Aside0.mk (hb); have n2_ := Aside0.mk (Kept.of_grown (S := (fun k_ => P0_ k_)) hg (by repeat (first | (with_reducible first | exact HK.out | apply Kept.alloc | apply Kept.drewN | apply Kept.drew) | exact HK.out)) (fun k_ e_ => (HO0.out.1 k_ e_).1)); have n3_ := Aside0.mk (ho); clear HO334; clear HB; clear HK; clear HO0; have HO334 := n0_; have HB := n1_; have HK := n2_; have HO337 := n3_; clear n0_ n1_ n2_ n3_; clear ho hb hg hat))
    go_ret
    exact ⟨_, by first | rfl | (simp [errW_none, errW_some] <;> rfl) | (simp [*, errW_none, errW_some] <;> rfl), by (with_reducible repeat (first | apply Kd.R_alloc | apply Kd.R_drewN | apply Kd.R_drew)); exact Kd.R_mono HO337.out (fun _ hk => hk.1), by repeat (first | (with_reducible first | exact HB.out | apply below_alloc | apply pw_below_drewN | apply below_drew1) | exact HB.out), by repeat (first | (with_reducible first | exact HK.out | apply Kept.alloc | apply Kept.drewN | apply Kept.drew) | exact HK.out)⟩
  · rw [if_neg c3] at H
    exact absurd H (by simp)

/-! ### impl_number: function 150 -/
def impl_number.l0 : Nat → Int → List Int → Int → Int → Option (Int)
  | 0, _, _, _, _ => none
  | k + 1, x3, x6, x7, x8 => if x8 < x7 then (if 0 ≤ x8 then (if x8 < (x6.length : Int) then (impl_number.l0 k (Go.bits .or .i64 (wrap64 (x3 * 256)) (wrap64 (rd x6 x8))) x6 x7 (wrap64 (x8 + 1))) else (none)) else (none)) else (some x3)
def impl_number.f (k : Nat) (l0 : List Int) : Option (Int) := impl_number.l0 k 0 l0 (l0.length : Int) 0
theorem impl_number.mono_l : ∀ k, (∀ y0 y1 y2 y3, LeO (impl_number.l0 k y0 y1 y2 y3) (impl_number.l0 (k + 1) y0 y1 y2 y3))
  | 0 => fun _ _ _ _ r h => by simp [impl_number.l0] at h
  | k + 1 => by
    have ih0 := impl_number.mono_l k
    · intro y0 y1 y2 y3
      unfold impl_number.l0
      repeat' first
      | (with_reducible exact ih0 _ _ _ _)
      | (with_reducible exact LeO.refl _)
      | (with_reducible exact LeO.none _)
      | (with_reducible refine LeO.ite ?_ ?_)
      | (with_reducible refine LeO.bind ?_ (fun _ => ?_))
      | exact ih0 _ _ _ _
      | exact LeO.none _
      | refine LeO.ite ?_ ?_
      | refine LeO.bind ?_ (fun _ => ?_)
theorem impl_number.mono : ∀ a0 k, LeO (impl_number.f k a0) (impl_number.f (k + 1) a0) := by
  intro a0 k
  have ih0 := impl_number.mono_l k
  unfold impl_number.f
  repeat' first
      | (with_reducible exact ih0 _ _ _ _)
      | (with_reducible exact LeO.refl _)
      | (with_reducible exact LeO.none _)
      | (with_reducible refine LeO.ite ?_ ?_)
      | (with_reducible refine LeO.bind ?_ (fun _ => ?_))
      | exact ih0 _ _ _ _
      | exact LeO.none _
      | refine LeO.ite ?_ ?_
      | refine LeO.bind ?_ (fun _ => ?_)
set_option maxHeartbeats 8000000 in
set_option maxRecDepth 100000 in
theorem impl_number.calls (k : Nat) (A0 : Option Addr) (c0 : Nat) (l0 : List Int) (r : Int) (w : World) (hr0 : Kd.C (Kd.int .u8) w A0 l0.length l0) (hc0 : l0.length ≤ c0) (h : impl_number.f k l0 = some r) :
    Calls Try.prog 150 #[.slice A0 l0.length c0] w fun e w' => e = .returned (.int .i64 r) ∧ Drawn0 w w' := by
  have HR0 := Aside0.mk hr0
  have HC0 := Aside0.mk hc0
  clear hr0 hc0
  have H : (impl_number.l0 k 0 l0 (l0.length : Int) 0) = some r := h
  clear h
  have H' := Aside0.mk H
  clear H
  go_enter Try.func150, Try.ntmps150
  go_wp2
  go_loopg [3, 8] k (fun kq v3 v8 w' => ∃ (x3_1 : Int) (x8_1 : Int), v3 = .int .i64 x3_1 ∧ v8 = .int .i64 x8_1 ∧ Aside0 (impl_number.l0 kq x3_1 l0 (l0.length : Int) x8_1 = some r) ∧ Aside0 (kq ≤ k) ∧ Drawn0 w w')
  case atStart => exact ⟨(0), (0), (by first | rfl | (simp; done) | (simp [*]; done)), (by first | rfl | (simp; done) | (simp [*]; done)), H', ⟨Nat.le_refl _⟩, by repeat (first | exact Drawn0.refl _ | apply Drawn0.step)⟩
  case round =>
    clear H'
    try clear c1
    obtain ⟨x3_1, x8_1, rfl, rfl, HA, HK1, ⟨m1, rfl⟩⟩ := hrel
    cases gk with
    | zero => exact absurd HA.out (by simp [impl_number.l0])
    | succ k1 =>
      have H := HA.out
      clear HA
      simp only [impl_number.l0] at H
      by_cases c2 : x8_1 < (l0.length : Int)
      · rw [if_pos c2] at H
        have c2b0 : decide (x8_1 < (l0.length : Int)) = true := decide_eq_true c2
        clear c2
        by_cases c3 : 0 ≤ x8_1
        · rw [if_pos c3] at H
          have c3b0 : decide (0 ≤ x8_1) = true := decide_eq_true c3
          clear c3
          by_cases c4 : x8_1 < (l0.length : Int)
          · rw [if_pos c4] at H
            have c4b0 : decide (x8_1 < (l0.length : Int)) = true := decide_eq_true c4
            clear c4
            have H' := Aside0.mk H
            clear H
            have p338 : 0 ≤ (x8_1 : Int) := of_decide_eq_true (by first | (with_reducible assumption) | assumption)
            have q338 : x8_1 < (l0.length : Int) := of_decide_eq_true (by first | (with_reducible assumption) | assumption)
            obtain ⟨ad338, e338, hx338_0⟩ := Kd.at_int HR0.out x8_1 p338 q338
            cases e338
            replace p338 := eq_true p338
            replace q338 := eq_true q338
            go_wp2
            go_roundg k1
            case measure => have := HK1.out; omega
            case rel => exact ⟨(Go.bits .or .i64 (wrap64 (x3_1 * 256)) (wrap64 (rd l0 x8_1))), (wrap64 (x8_1 + 1)), (by first | rfl | (simp; done) | (simp [*]; done)), (by first | rfl | (simp; done) | (simp [*]; done)), H', ⟨by have := HK1.out; omega⟩, by repeat (first | exact Drawn0.refl _ | apply Drawn0.step)⟩
          · rw [if_neg c4] at H
            exact absurd H (by simp)
        · rw [if_neg c3] at H
          exact absurd H (by simp)
      · rw [if_neg c2] at H
        have c2b0 : decide (x8_1 < (l0.length : Int)) = false := decide_eq_false c2
        clear c2
        obtain rfl := Option.some.inj H
        go_wp2
        go_ret
        exact ⟨by first | rfl | (simp; done) | (simp [*]; done), by repeat (first | exact Drawn0.refl _ | apply Drawn0.step)⟩

end Go.Proofs.Ytlogocmojnhpbaa.Print
/- The contract of (Source).does: whether the hash of state and nonce begins with so many noughts. -/
namespace Go.Proofs.Ytlogocmojnhpbaa.Print
open Go Go.RowKit Go.Proofs.YtlogocmojnhpbaaW.PrintWords Go.Proofs.YtlogocmojnhpbaaW.PrintLast
set_option linter.unusedVariables false
set_option linter.unusedSimpArgs false
/-- A number's four bytes. -/
def fourB (n : Int) : List Int := [(n / 16777216) % 256, (n / 65536) % 256, (n / 256) % 256, n % 256]
theorem fourB_in (n : Int) : AllB (fourB n) := by
  intro x hx
  unfold fourB at hx
  simp only [List.mem_cons, List.not_mem_nil, or_false] at hx
  unfold InB
  rcases hx with rfl | rfl | rfl | rfl <;> omega
theorem fourN.calls (n : Int) (w : World) : Calls Try.prog 149 #[.slice none 0 0, .int .i64 n] w fun e w' => ∃ v : Value, e = .returned v ∧ PRow w' v (fourB n) ∧ Below w.heap.size w w' := by
  have h := impl_four.calls (fun _ => True) (.slice none 0 0) [] n (fourB n) w w (Below.refl _ _) (Kd.R_nil _ _ _ _ _) (by unfold impl_four.f; simp [fourB])
  refine h.mono fun e w' ⟨v, he, hR, hb, _⟩ => ⟨v, he, PRow.of_R hR, hb⟩
def num4L (l : List Int) : Int := ((rd l 0 * 256 + rd l 1) * 256 + rd l 2) * 256 + rd l 3
theorem or_byte (x b : Int) (h0 : 0 ≤ x) (h1 : x < 16777216) (h2 : 0 ≤ b) (h3 : b ≤ 255) : Go.bits .or .i64 (wrap64 (x * 256)) (wrap64 b) = x * 256 + b := by
  have w1 : wrap64 (x * 256) = x * 256 := by unfold wrap64; omega
  have w2 : wrap64 b = b := by unfold wrap64; omega
  rw [w1, w2]
  have e8 : (2 : Int) ^ 8 = 256 := by decide
  have e63 : (2 : Int) ^ 63 = 9223372036854775808 := by decide
  exact bits_join .i64 63 (by decide) (fun n h0 h1 => by rw [e63] at h1; rw [IntKind.wrap_i64]; omega) 8 (x * 256) b (by omega) (by rw [e8]; omega) (by rw [e63]; omega) h2 (by rw [e8]; omega) (by rw [e63]; omega)
theorem num4_read {s : List Int} (hs : s.length = 4) (hb : AllB s) : impl_number.f 5 s = some (num4L s) := by
  have b0 := hb.getD 0
  have b1 := hb.getD 1
  have b2 := hb.getD 2
  have b3 := hb.getD 3
  unfold InB at b0 b1 b2 b3
  rw [show s.getD 0 0 = rd s 0 from rfl] at b0
  rw [show s.getD 1 0 = rd s 1 from rfl] at b1
  rw [show s.getD 2 0 = rd s 2 from rfl] at b2
  rw [show s.getD 3 0 = rd s 3 from rfl] at b3
  unfold impl_number.f num4L
  rw [impl_number.l0, if_pos (by omega), if_pos (by decide), if_pos (by omega), show wrap64 (0 + 1) = 1 by decide +kernel, or_byte _ _ (by omega) (by omega) b0.1 (by omega)]
  rw [impl_number.l0, if_pos (by omega), if_pos (by decide), if_pos (by omega), show wrap64 (1 + 1) = 2 by decide +kernel, or_byte _ _ (by omega) (by omega) b1.1 (by omega)]
  rw [impl_number.l0, if_pos (by omega), if_pos (by decide), if_pos (by omega), show wrap64 (2 + 1) = 3 by decide +kernel, or_byte _ _ (by omega) (by omega) b2.1 (by omega)]
  rw [impl_number.l0, if_pos (by omega), if_pos (by decide), if_pos (by omega), show wrap64 (3 + 1) = 4 by decide +kernel, or_byte _ _ (by omega) (by omega) b3.1 (by omega)]
  rw [impl_number.l0, if_neg (by omega)]
  simp
theorem num4_bd {l : List Int} (hb : AllB l) : 0 ≤ num4L l ∧ num4L l ≤ 4294967295 := by
  have b0 := hb.getD 0
  have b1 := hb.getD 1
  have b2 := hb.getD 2
  have b3 := hb.getD 3
  unfold InB at b0 b1 b2 b3
  rw [show l.getD 0 0 = rd l 0 from rfl] at b0
  rw [show l.getD 1 0 = rd l 1 from rfl] at b1
  rw [show l.getD 2 0 = rd l 2 from rfl] at b2
  rw [show l.getD 3 0 = rd l 3 from rfl] at b3
  unfold num4L
  omega
theorem C_take {w : World} {A : Option Addr} {n m : Nat} {xs : List Int} {k : IntKind} (h : (Kd.int k).C w A n xs) (hm : m ≤ n) : (Kd.int k).C w A m (xs.take m) := by
  have h2 := Kd.reads_of_C (enc := Value.int k) (d := (0 : Int)) (h1 := fun _ => rfl) h
  have hl : xs.length = n := h2.1
  refine Kd.C_of_reads (d := (0 : Int)) ⟨by simp; omega, by have := h2.2.1; omega, fun hn => ?_⟩
  obtain ⟨ad, e, hc⟩ := h2.2.2 (by omega)
  refine ⟨ad, e, fun j hj => ?_⟩
  rw [hc j (by omega)]
  simp only [List.getD_eq_getElem?_getD]
  rw [List.getElem?_take, if_pos hj]
def grindB : List Int := [103, 114, 105, 110, 100]
def doesB (st : ByteArray) (n : Int) : List Int := kHash (bytesOf st ++ grindB ++ fourB n)
def impl_Source_does.f (l0_0 : List (S79)) (a0_1 : Int) (a0_2 : ByteArray) (a0_3 : Int) (a1 : Int) (a2 : Int) : Option (Bool) :=
  if a0_2.size ≤ 1000 ∧ 0 ≤ a1 ∧ a1 ≤ 12 then some (decide (num4L ((doesB a0_2 a2).take 4) / 2 ^ (32 - a1).toNat = 0)) else none
set_option maxHeartbeats 8000000 in
set_option maxRecDepth 100000 in
theorem impl_Source_does.calls (A0_0 : Option Addr) (c0_0 : Nat) (l0_0 : List (S79)) (a0_1 : Int) (a0_2 : ByteArray) (a0_3 : Int) (a1 : Int) (a2 : Int) (r : Bool) (w : World) (hr0_0 : Kd.C k79 w A0_0 l0_0.length l0_0) (hc0_0 : l0_0.length ≤ c0_0) (h : impl_Source_does.f l0_0 a0_1 a0_2 a0_3 a1 a2 = some r) :
    Calls Try.prog 117 #[.agg #[.slice A0_0 l0_0.length c0_0, .int .i64 a0_1, .string a0_2, .int .i64 a0_3], .int .i64 a1, .int .i64 a2] w fun e w' => e = .returned (.bool r) ∧ Below w.heap.size w w' := by
  unfold impl_Source_does.f at h
  split at h
  · next hs =>
    obtain ⟨hs1, hs2, hs3⟩ := hs
    have hsz : a0_2.size ≤ 9223372036854775807 := by omega
    have hcv := fun W => print_bytes (P := Try.prog) 9 25 5 Try.underlying9 Try.underlying25 Try.underlying5 a0_2 W
    have hu36 := Try.underlying36
    have hrr := Aside0.mk (Option.some.inj h)
    generalize l0_0.length = ln at hc0_0 ⊢
    clear h hr0_0
    go_enter Try.func117, Try.ntmps117
    go_wp2
    have q := (show (w.alloc (.cells #[Value.slice A0_0 ln c0_0, .int .i64 a0_1, .string a0_2, .int .i64 a0_3] 36)).cell? ⟨w.heap.size, 2, none⟩ = some (.string a0_2) from blk_cell (blk_new _ _) 2)
    have HB := Aside0.mk (below_alloc (Below.refl w.heap.size w) (.cells #[Value.slice A0_0 ln c0_0, .int .i64 a0_1, .string a0_2, .int .i64 a0_3] 36))
    generalize w.alloc (.cells #[Value.slice A0_0 ln c0_0, .int .i64 a0_1, .string a0_2, .int .i64 a0_3] 36) = W0 at q HB ⊢
    generalize w.heap.size = B at q
    obtain ⟨R, hR⟩ : ∃ R, R = strOfNums (doesB a0_2 a2) := ⟨_, rfl⟩
    have hcat : strOfNums (kHash (kCat [bytesOf a0_2, grindB, fourB a2] 3)) = R := by rw [hR, kCat3]; rfl
    have hRs : R.size = 32 := by rw [hR, strOfNums_size]; exact kHash_length _
    have HCAT := Aside0.mk hcat
    have HR := Aside0.mk hR
    have HL : Aside0 (AllB (kCat [bytesOf a0_2, grindB, fourB a2] 3) ∧ (kCat [bytesOf a0_2, grindB, fourB a2] 3).length ≤ 140737488350000) := ⟨by
      rw [kCat3]
      refine ⟨((bytesOf_in _).append (okBytes_in (by decide))).append (fourB_in _), ?_⟩
      simp only [List.length_append, bytesOf_length]
      have : grindB.length = 5 := rfl
      have : (fourB a2).length = 4 := rfl
      omega⟩
    clear hcat hR
    refine region_facts (by kernel_rfl) (by kernel_rfl) (fun v => ⟨List.toArray (Value.agg #[Value.slice A0_0 ln c0_0, .int .i64 a0_1, .string a0_2, .int .i64 a0_3] :: Value.int .i64 a1 :: Value.int .i64 a2 :: Value.pointer (some ⟨B, 0, none⟩) :: undef :: undef :: Value.bool false :: v 10 :: v 0 :: v 1 :: v 2 :: v 3 :: v 4 :: v 5 :: v 6 :: v 7 :: v 8 :: v 9 :: undef :: undef :: undef :: undef :: undef :: undef :: undef :: []), []⟩)
      (fun k x w' => match k with
        | 0 => x = .pointer (some ⟨B, 2, none⟩)
        | 1 => x = .string a0_2
        | 2 => PRow w' x (bytesOf a0_2)
        | 3 => (∃ g, x = .slice (some ⟨g, 0, none⟩) 5 5 ∧ w.heap.size ≤ g) ∧ PRow w' x grindB
        | 4 => PRow w' x grindB
        | 5 => x = .int .i64 a2
        | 6 => PRow w' x (fourB a2)
        | 7 => ∃ g, x = .slice (some ⟨g, 0, none⟩) 3 3 ∧ (Kd.slice 5 (Kd.int .u8)).C w' (some ⟨g, 0, none⟩) 3 [bytesOf a0_2, grindB, fourB a2]
        | 8 => x = .string R
        | _ => ∃ g c, x = .slice (some ⟨g, 0, none⟩) 32 c ∧ 32 ≤ c ∧ (Kd.int .u8).C w' (some ⟨g, 0, none⟩) 32 (bytesOf R))
      (fun _ w' => w'.cell? ⟨B, 2, none⟩ = some (.string a0_2) ∧ Below w.heap.size w w') Grow (fun _ => undef) W0 ?mono ?start ?step ?last
    case mono =>
      intro k x w1 w2 h hg
      match k with
      | 0 => exact h
      | 1 => exact h
      | 2 => exact PRow.grow h hg
      | 3 => exact ⟨h.1, PRow.grow h.2 hg⟩
      | 4 => exact PRow.grow h hg
      | 5 => exact h
      | 6 => exact PRow.grow h hg
      | 7 =>
        obtain ⟨g, e, hC⟩ := h
        exact ⟨g, e, CC_grow hC hg⟩
      | 8 => exact h
      | k + 9 =>
        obtain ⟨g, c, e, h1, hC⟩ := h
        exact ⟨g, c, e, h1, C_grow hC hg⟩
    case start => exact ⟨q, below_drew1 HB.out⟩
    case step =>
      intro listed k o v W ho hs hl hC hd hI
      obtain ⟨hq, hb⟩ := hI
      have hsz1 : w.heap.size ≤ W.heap.size := hb.size
      match k, ho with
      | 0, ho =>
        obtain rfl := Option.some.inj ho
        refine wpOp_value rfl rfl (v := .pointer (some ⟨B, 2, none⟩)) (w' := W) (by kernel_rfl) ⟨_, rfl, rfl, Grow.refl _, hq, hb⟩
      | 1, ho =>
        obtain rfl := Option.some.inj ho
        have h0 : v 0 = _ := (hd ⟨0, .data⟩ (by simp) rfl).2
        refine wpOp_value rfl rfl (v := .string a0_2) (w' := W) ?_ ⟨_, rfl, rfl, Grow.refl _, hq, hb⟩
        simp only [h0]
        go_simp
      | 2, ho =>
        obtain rfl := Option.some.inj ho
        have h1 : v 1 = _ := (hd ⟨1, .data⟩ (by simp) rfl).2
        refine wpOp_value rfl rfl (v := .slice (some ⟨W.heap.size, 0, none⟩) a0_2.size (grownCap W a0_2.size 0 5)) (w' := Lib.bytesWorld W 5 a0_2) ?_ ⟨_, rfl, PRow.of_bytes _ _ hsz, Grow.bytes _ _ _, keep_bytes hq _ _, below_bytes hb hsz1 _ _⟩
        simp only [h1]
        go_simp
      | 3, ho =>
        obtain rfl := Option.some.inj ho
        refine wpOp_value rfl rfl (v := .slice (some ⟨W.heap.size, 0, none⟩) 5 5) (w' := W.alloc (.cells (nums .u8 grindB).toArray 5)) ?_ ⟨_, rfl, ⟨⟨_, rfl, hsz1⟩, PRow.of_lit _ grindB _ _ rfl rfl (by decide)⟩, Grow.alloc _ _, keep_alloc hq _, below_alloc hb _⟩
        go_simp
        rfl
      | 4, ho =>
        obtain rfl := Option.some.inj ho
        have h3 := (hd ⟨3, .data⟩ (by simp) rfl).2
        obtain ⟨⟨g, e3, hg⟩, h3⟩ := h3
        obtain ⟨w', hrun, hgr, hbl⟩ := run_mark W g 0 5 5
        refine wpOp_value rfl rfl (v := .slice (some ⟨g, 0, none⟩) 5 5) (w' := w') ?_ ⟨_, rfl, ?_, hgr, hgr _ _ hq, hbl _ _ hb hg⟩
        · simp only [e3]
          go_simp
        · rw [e3] at h3
          exact PRow.grow h3 hgr
      | 5, ho =>
        obtain rfl := Option.some.inj ho
        refine wpOp_value rfl rfl (v := .int .i64 a2) (w' := W) (by kernel_rfl) ⟨_, rfl, rfl, Grow.refl _, hq, hb⟩
      | 6, ho =>
        obtain rfl := Option.some.inj ho
        have h5 : v 5 = _ := (hd ⟨5, .data⟩ (by simp) rfl).2
        refine wpOp_call rfl rfl (f := 149) (args := #[.slice none 0 0, .int .i64 a2]) ?_ (fourN.calls a2 W) ?_
        · simp only [h5]
          kernel_rfl
        · rintro e w1 ⟨x, rfl, hP, hb1⟩
          exact ⟨x, rfl, _, rfl, hP, Grow.of_below hb1, keep_below hq hb1, below_step hb hb1⟩
      | 7, ho =>
        obtain rfl := Option.some.inj ho
        have h2 := (hd ⟨2, .data⟩ (by simp) rfl).2
        have h4 := (hd ⟨4, .data⟩ (by simp) rfl).2
        have h6 := (hd ⟨6, .data⟩ (by simp) rfl).2
        have hCC := pieces3 h2 h4 h6
        obtain ⟨A2, c2, e2, _, _⟩ := h2
        obtain ⟨A4, c4, e4, _, _⟩ := h4
        obtain ⟨A6, c6, e6, _, _⟩ := h6
        rw [e2, e4, e6] at hCC
        refine wpOp_value rfl rfl (v := .slice (some ⟨W.heap.size, 0, none⟩) 3 3) (w' := W.alloc (.cells #[.slice A2 (bytesOf a0_2).length c2, .slice A4 grindB.length c4, .slice A6 (fourB a2).length c6] 25)) ?_ ⟨_, rfl, ⟨_, rfl, hCC⟩, Grow.alloc _ _, keep_alloc hq _, below_alloc hb _⟩
        simp only [e2, e4, e6]
        go_simp
      | 8, ho =>
        obtain rfl := Option.some.inj ho
        obtain ⟨g, e7, h7⟩ := (hd ⟨7, .data⟩ (by simp) rfl).2
        refine wpOp_call rfl rfl (f := 88) (args := #[.slice (some ⟨g, 0, none⟩) 3 3]) ?_ (hashI.calls (some ⟨g, 0, none⟩) 3 3 [bytesOf a0_2, grindB, fourB a2] W h7 HL.out.1 HL.out.2) ?_
        · simp only [e7]
          kernel_rfl
        · rintro e w1 ⟨he, hb1⟩
          rw [HCAT.out] at he
          exact ⟨_, he, _, rfl, rfl, Grow.of_below hb1, keep_below hq hb1, below_step hb hb1⟩
      | 9, ho =>
        obtain rfl := Option.some.inj ho
        have h8 : v 8 = _ := (hd ⟨8, .data⟩ (by simp) rfl).2
        have hcv2 := fun W => print_bytes (P := Try.prog) 9 25 5 Try.underlying9 Try.underlying25 Try.underlying5 R W
        have hp := MRow.of_bytes W R (by omega)
        have hge : 32 ≤ grownCap W R.size 0 5 := by have := grownCap_ge W R.size 0 5; omega
        have hp := hp.reads
        rw [bytesOf_length, hRs] at hp
        refine wpOp_value rfl rfl (v := .slice (some ⟨W.heap.size, 0, none⟩) R.size (grownCap W R.size 0 5)) (w' := Lib.bytesWorld W 5 R) ?_ ⟨_, rfl, ⟨_, _, congrArg (fun n => Value.slice (some ⟨W.heap.size, 0, none⟩) n (grownCap W R.size 0 5)) hRs, hge, hp⟩, Grow.bytes _ _ _, keep_bytes hq _ _, below_bytes hb hsz1 _ _⟩
        simp only [h8]
        clear hRs
        go_simp
      | 10, ho =>
        obtain rfl := Option.some.inj ho
        obtain ⟨g, c, e9, h1, h2⟩ := (hd ⟨9, .data⟩ (by simp) rfl).2
        refine wpOp_value rfl rfl (v := .slice (some ⟨g, 0, none⟩) 32 c) (w' := W) ?_ ⟨_, rfl, ⟨g, c, rfl, h1, h2⟩, Grow.refl _, hq, hb⟩
        simp only [e9]
        kernel_rfl
      | k + 11, ho => cases ho
    case last =>
      intro listed v W hall hI hF
      obtain ⟨g, c, e10, hc, hC⟩ := hF 10 (by simp)
      have hDB : bytesOf R = doesB a0_2 a2 := by
        rw [HR.out]
        exact bytesOf_strOfNums (text_in _ _)
      have hC4 := C_take hC (m := 4) (by omega)
      have hl4 : ((bytesOf R).take 4).length = 4 := by rw [List.length_take, bytesOf_length, hRs]; rfl
      have L1 := impl_number.calls 5 (some ⟨g, 0, none⟩) c ((bytesOf R).take 4) _ W (by rw [hl4]; exact hC4) (by omega) (num4_read hl4 (AllB.take (bytesOf_in R) 4))
      rw [hl4] at L1
      have hN := num4_bd (AllB.take (bytesOf_in R) 4)
      rw [hDB] at L1 hN
      have hsl : ∀ w, (Instr.slice 25 (.slice (some ⟨g, 0, none⟩) 32 c) none (some (.int .i64 4)) none).run Try.prog w = .ok (.slice (some ⟨g, 0, none⟩) 4 c) w := fun w => slice_to _ 32 c 4 (by omega) hc w
      have hrr := hrr.out
      generalize num4L ((doesB a0_2 a2).take 4) = X at L1 hN hrr
      have hX0 : 0 ≤ X := hN.1
      have hX1 : X ≤ 4294967295 := hN.2
      have hmin : min (32 - a1).toNat 64 = (32 - a1).toNat := by omega
      have hrr := Aside0.mk hrr
      have L1 := Aside0.mk L1
      have HB9 := Aside0.mk hI.2
      clear hN hC4 hC hF hI hall hDB hl4 q hcv
      simp only [e10]
      clear e10
      generalize v 0 = s0
      generalize v 1 = s1
      generalize v 2 = s2
      generalize v 3 = s3
      generalize v 4 = s4
      generalize v 5 = s5
      generalize v 6 = s6
      generalize v 7 = s7
      generalize v 8 = s8
      generalize v 9 = s9
      go_wp2_with (go_at_call 150; refine L1.out.mono ?_; rintro e w1 ⟨rfl, hd1⟩)
      go_ret
      refine ⟨?_, below_step HB9.out hd1.below⟩
      have e := hrr.out
      clear hrr
      subst e
      rfl
  · cases h
end Go.Proofs.Ytlogocmojnhpbaa.Print
namespace Go.Proofs.Ytlogocmojnhpbaa.Print
open Go.RowKit Go.Proofs.YtlogocmojnhpbaaW.PrintWords Go.Proofs.YtlogocmojnhpbaaW.PrintLast Go.Proofs.YtlogocmojnhpbaaW.PrintMore
attribute [local go_sem] max2_int min2_int max_two min_two max_three min_three max_four min_four   -- for this text's walks alone
set_option linter.unusedVariables false
set_option linter.unusedSimpArgs false

/-! ### impl_isHash: function 93 -/
def impl_isHash.f (a0 : ByteArray) : Option (Bool) := some ((a0.size : Int) == 32)
set_option maxHeartbeats 8000000 in
set_option maxRecDepth 100000 in
theorem impl_isHash.calls (a0 : ByteArray) (r : Bool) (w : World) (h : impl_isHash.f a0 = some r) :
    Calls Try.prog 93 #[.string a0] w fun e w' => e = .returned (.bool r) ∧ Drawn0 w w' := by
  have H : (some ((a0.size : Int) == 32)) = some r := h
  clear h
  obtain rfl := Option.some.inj H
  go_enter Try.func93, Try.ntmps93
  go_wp2
  go_ret
  exact ⟨by first | rfl | (simp; done) | (simp [*]; done), by repeat (first | exact Drawn0.refl _ | apply Drawn0.step)⟩

/-! ### impl_SourceOK: function 116 -/
def impl_SourceOK.f (l0_0 : List (S79)) (a0_1 : Int) (a0_2 : ByteArray) (a0_3 : Int) : Option (Bool) := if (l0_0.length : Int) ≤ 64 then ((are_Ext.f l0_0).bind fun t328 => (if t328 = true then ((impl_isHash.f a0_2).bind fun t329 => (if t329 = true then ((impl_in.f a0_1 0 1000000).bind fun t330 => (if t330 = true then ((impl_in.f a0_3 0 1000000).bind fun t331 => (some t331)) else (some false))) else (some false))) else (some false))) else (some false)
set_option maxHeartbeats 8000000 in
set_option maxRecDepth 100000 in
theorem impl_SourceOK.calls (A0_0 : Option Addr) (c0_0 : Nat) (l0_0 : List (S79)) (a0_1 : Int) (a0_2 : ByteArray) (a0_3 : Int) (r : Bool) (w : World) (hr0_0 : Kd.C k79 w A0_0 l0_0.length l0_0) (hc0_0 : l0_0.length ≤ c0_0) (h : impl_SourceOK.f l0_0 a0_1 a0_2 a0_3 = some r) :
    Calls Try.prog 116 #[.agg #[.slice A0_0 l0_0.length c0_0, .int .i64 a0_1, .string a0_2, .int .i64 a0_3]] w fun e w' => e = .returned (.bool r) ∧ Below w.heap.size w w' := by
  have hu36 := Try.underlying36
  have HR0_0 := Aside0.mk hr0_0
  have HC0_0 := Aside0.mk hc0_0
  clear hr0_0 hc0_0
  have HB := Aside0.mk (Below.refl w.heap.size w)
  have H : (if (l0_0.length : Int) ≤ 64 then ((are_Ext.f l0_0).bind fun t328 => (if t328 = true then ((impl_isHash.f a0_2).bind fun t329 => (if t329 = true then ((impl_in.f a0_1 0 1000000).bind fun t330 => (if t330 = true then ((impl_in.f a0_3 0 1000000).bind fun t331 => (some t331)) else (some false))) else (some false))) else (some false))) else (some false)) = some r := h
  clear h
  by_cases c2 : (l0_0.length : Int) ≤ 64
  · rw [if_pos c2] at H
    have c2b0 : decide ((l0_0.length : Int) ≤ 64) = true := decide_eq_true c2
    have c2b1 : decide (l0_0.length ≤ 64) = true := decide_eq_true (by omega)
    clear c2
    replace H := Option.bind_eq_some_iff.mp H
    obtain ⟨t328, A30, H⟩ := H
    replace H : (if t328 = true then ((impl_isHash.f a0_2).bind fun t329 => (if t329 = true then ((impl_in.f a0_1 0 1000000).bind fun t330 => (if t330 = true then ((impl_in.f a0_3 0 1000000).bind fun t331 => (some t331)) else (some false))) else (some false))) else (some false)) = some r := H
    have A3 := Aside0.mk A30
    clear A30
    by_cases c4 : t328 = true
    · subst c4
      have H1 : ((impl_isHash.f a0_2).bind fun t329 => (if t329 = true then ((impl_in.f a0_1 0 1000000).bind fun t330 => (if t330 = true then ((impl_in.f a0_3 0 1000000).bind fun t331 => (some t331)) else (some false))) else (some false))) = some r := by rw [if_pos rfl] at H; exact H
      clear H
      have H := H1
      clear H1
      replace H := Option.bind_eq_some_iff.mp H
      obtain ⟨t329, A50, H⟩ := H
      replace H : (if t329 = true then ((impl_in.f a0_1 0 1000000).bind fun t330 => (if t330 = true then ((impl_in.f a0_3 0 1000000).bind fun t331 => (some t331)) else (some false))) else (some false)) = some r := H
      have A5 := Aside0.mk A50
      clear A50
      by_cases c6 : t329 = true
      · subst c6
        have H1 : ((impl_in.f a0_1 0 1000000).bind fun t330 => (if t330 = true then ((impl_in.f a0_3 0 1000000).bind fun t331 => (some t331)) else (some false))) = some r := by rw [if_pos rfl] at H; exact H
        clear H
        have H := H1
        clear H1
        replace H := Option.bind_eq_some_iff.mp H
        obtain ⟨t330, A70, H⟩ := H
        replace H : (if t330 = true then ((impl_in.f a0_3 0 1000000).bind fun t331 => (some t331)) else (some false)) = some r := H
        have A7 := Aside0.mk A70
        clear A70
        by_cases c8 : t330 = true
        · subst c8
          have H1 : ((impl_in.f a0_3 0 1000000).bind fun t331 => (some t331)) = some r := by rw [if_pos rfl] at H; exact H
          clear H
          have H := H1
          clear H1
          replace H := Option.bind_eq_some_iff.mp H
          obtain ⟨t331, A90, H⟩ := H
          replace H : (some t331) = some r := H
          have A9 := Aside0.mk A90
          clear A90
          obtain rfl := Option.some.inj H
          go_enter Try.func116, Try.ntmps116
          go_wp2_with (first | ((with_reducible refine gate_dst (N := 1) rfl ?_); refine box_event ?hg (N := 1) ?hd (cs := #[.slice A0_0 l0_0.length c0_0, .int .i64 a0_1, .string a0_2, .int .i64 a0_3]) (t := 36) ?hr ?_; (case hd => rfl); (case hg => rfl); (case hr => first | (go_simp; done) | (go_simp; rfl)); intro gb327 hg w10 hbox hb; have n0_ := Aside0.mk (below_step (by repeat (first | (with_reducible first | exact HB.out | apply below_alloc | apply pw_below_drewN | apply below_drew1) | exact HB.out)) hb); have n1_ := Aside0.mk (hbox); have n2_ := Aside0.mk ((by rw [hg]; exact (below_size (by repeat (first | (with_reducible first | exact HB.out | apply below_alloc | apply pw_below_drewN | apply below_drew1) | exact HB.out))) : w.heap.size ≤ gb327)); have n3_ := Aside0.mk ((by rw [hg]; exact (below_size (by repeat (first | (with_reducible first | exact HB.out | apply below_alloc | apply pw_below_drewN | apply below_drew1) | exact HB.out))) : w.heap.size ≤ gb327)); clear HB; have HB := n0_; have BK327 := n1_; have GW327 := n2_; have GE327 := n3_; clear n0_ n1_ n2_ n3_; clear hb hbox hg; have hcz11_0 : w10.cell? ⟨gb327, 0, none⟩ = some (.slice A0_0 l0_0.length c0_0) := (blk_cell BK327.out 0).trans rfl; have hcz11_1 : w10.cell? ⟨gb327, 1, none⟩ = some (.int .i64 a0_1) := (blk_cell BK327.out 1).trans rfl; have hcz11_2 : w10.cell? ⟨gb327, 2, none⟩ = some (.string a0_2) := (blk_cell BK327.out 2).trans rfl; have hcz11_3 : w10.cell? ⟨gb327, 3, none⟩ = some (.int .i64 a0_3) := (blk_cell BK327.out 3).trans rfl; have hfz11_0 := blk_frozen BK327.out 0; have hfz11_1 := blk_frozen BK327.out 1; have hfz11_2 := blk_frozen BK327.out 2; have hfz11_3 := blk_frozen BK327.out 3) | (go_at_call 122; (with_reducible refine (are_Ext.calls _ _ l0_0 true _ ?side1 ?side2 A3.out).mono ?_); (case side1 => repeat (first | exact (Kd.C_below HR0_0.out HB.out) | (with_reducible refine Kd.C_alloc ?_ _) | (with_reducible refine Kd.C_drewN ?_ _) | (with_reducible refine Kd.C_drew ?_))); (case side2 => exact HC0_0.out); rintro e w12 ⟨rfl, hb⟩; have n0_ := Aside0.mk (blk_below (g := gb327) (o := .cells #[.slice A0_0 l0_0.length c0_0, .int .i64 a0_1, .string a0_2, .int .i64 a0_3] 36 (0, 0)) (by (with_reducible repeat (first | apply bN | apply bd | apply bA)); exact BK327.out) hb); have n1_ := Aside0.mk (below_step (by repeat (first | (with_reducible first | exact HB.out | apply below_alloc | apply pw_below_drewN | apply below_drew1 | refine below_set ?_ GE327.out) | exact HB.out)) hb); clear BK327; clear HB; have BK327 := n0_; have HB := n1_; clear n0_ n1_; (try clear hb); (try clear hb2); (try clear hk); (try clear hi); have hcz13_0 : w12.cell? ⟨gb327, 0, none⟩ = some (.slice A0_0 l0_0.length c0_0) := (blk_cell BK327.out 0).trans rfl; have hcz13_1 : w12.cell? ⟨gb327, 1, none⟩ = some (.int .i64 a0_1) := (blk_cell BK327.out 1).trans rfl; have hcz13_2 : w12.cell? ⟨gb327, 2, none⟩ = some (.string a0_2) := (blk_cell BK327.out 2).trans rfl; have hcz13_3 : w12.cell? ⟨gb327, 3, none⟩ = some (.int .i64 a0_3) := (blk_cell BK327.out 3).trans rfl; have hfz13_0 := blk_frozen BK327.out 0; have hfz13_1 := blk_frozen BK327.out 1; have hfz13_2 := blk_frozen BK327.out 2; have hfz13_3 := blk_frozen BK327.out 3) | (go_at_call 93; (with_reducible refine (impl_isHash.calls a0_2 true _ A5.out).mono ?_); rintro e w' ⟨rfl, ⟨nd, rfl⟩⟩) | (go_at_call 95; (with_reducible refine (impl_in.calls a0_1 0 1000000 true _ A7.out).mono ?_); rintro e w' ⟨rfl, ⟨nd, rfl⟩⟩) | (go_at_call 95; (with_reducible refine (impl_in.calls a0_3 0 1000000 t331 _ A9.out).mono ?_); rintro e w' ⟨rfl, ⟨nd, rfl⟩⟩))
          go_ret
          exact ⟨by first | rfl | (simp [errW_none, errW_some] <;> rfl) | (simp [*, errW_none, errW_some] <;> rfl), by repeat (first | (with_reducible first | exact HB.out | apply below_alloc | apply pw_below_drewN | apply below_drew1 | refine below_set ?_ GE327.out) | exact HB.out)⟩
        · replace c8 := Bool.eq_false_iff.mpr c8
          subst c8
          have H1 : (some false) = some r := by rw [if_neg (show ¬ (false = true) by decide)] at H; exact H
          clear H
          have H := H1
          clear H1
          obtain rfl := Option.some.inj H
          go_enter Try.func116, Try.ntmps116
          go_wp2_with (first | ((with_reducible refine gate_dst (N := 1) rfl ?_); refine box_event ?hg (N := 1) ?hd (cs := #[.slice A0_0 l0_0.length c0_0, .int .i64 a0_1, .string a0_2, .int .i64 a0_3]) (t := 36) ?hr ?_; (case hd => rfl); (case hg => rfl); (case hr => first | (go_simp; done) | (go_simp; rfl)); intro gb327 hg w14 hbox hb; have n0_ := Aside0.mk (below_step (by repeat (first | (with_reducible first | exact HB.out | apply below_alloc | apply pw_below_drewN | apply below_drew1) | exact HB.out)) hb); have n1_ := Aside0.mk (hbox); have n2_ := Aside0.mk ((by rw [hg]; exact (below_size (by repeat (first | (with_reducible first | exact HB.out | apply below_alloc | apply pw_below_drewN | apply below_drew1) | exact HB.out))) : w.heap.size ≤ gb327)); have n3_ := Aside0.mk ((by rw [hg]; exact (below_size (by repeat (first | (with_reducible first | exact HB.out | apply below_alloc | apply pw_below_drewN | apply below_drew1) | exact HB.out))) : w.heap.size ≤ gb327)); clear HB; have HB := n0_; have BK327 := n1_; have GW327 := n2_; have GE327 := n3_; clear n0_ n1_ n2_ n3_; clear hb hbox hg; have hcz15_0 : w14.cell? ⟨gb327, 0, none⟩ = some (.slice A0_0 l0_0.length c0_0) := (blk_cell BK327.out 0).trans rfl; have hcz15_1 : w14.cell? ⟨gb327, 1, none⟩ = some (.int .i64 a0_1) := (blk_cell BK327.out 1).trans rfl; have hcz15_2 : w14.cell? ⟨gb327, 2, none⟩ = some (.string a0_2) := (blk_cell BK327.out 2).trans rfl; have hcz15_3 : w14.cell? ⟨gb327, 3, none⟩ = some (.int .i64 a0_3) := (blk_cell BK327.out 3).trans rfl; have hfz15_0 := blk_frozen BK327.out 0; have hfz15_1 := blk_frozen BK327.out 1; have hfz15_2 := blk_frozen BK327.out 2; have hfz15_3 := blk_frozen BK327.out 3) | (go_at_call 122; (with_reducible refine (are_Ext.calls _ _ l0_0 true _ ?side1 ?side2 A3.out).mono ?_); (case side1 => repeat (first | exact (Kd.C_below HR0_0.out HB.out) | (with_reducible refine Kd.C_alloc ?_ _) | (with_reducible refine Kd.C_drewN ?_ _) | (with_reducible refine Kd.C_drew ?_))); (case side2 => exact HC0_0.out); rintro e w16 ⟨rfl, hb⟩; have n0_ := Aside0.mk (blk_below (g := gb327) (o := .cells #[.slice A0_0 l0_0.length c0_0, .int .i64 a0_1, .string a0_2, .int .i64 a0_3] 36 (0, 0)) (by (with_reducible repeat (first | apply bN | apply bd | apply bA)); exact BK327.out) hb); have n1_ := Aside0.mk (below_step (by repeat (first | (with_reducible first | exact HB.out | apply below_alloc | apply pw_below_drewN | apply below_drew1 | refine below_set ?_ GE327.out) | exact HB.out)) hb); clear BK327; clear HB; have BK327 := n0_; have HB := n1_; clear n0_ n1_; (try clear hb); (try clear hb2); (try clear hk); (try clear hi); have hcz17_0 : w16.cell? ⟨gb327, 0, none⟩ = some (.slice A0_0 l0_0.length c0_0) := (blk_cell BK327.out 0).trans rfl; have hcz17_1 : w16.cell? ⟨gb327, 1, none⟩ = some (.int .i64 a0_1) := (blk_cell BK327.out 1).trans rfl; have hcz17_2 : w16.cell? ⟨gb327, 2, none⟩ = some (.string a0_2) := (blk_cell BK327.out 2).trans rfl; have hcz17_3 : w16.cell? ⟨gb327, 3, none⟩ = some (.int .i64 a0_3) := (blk_cell BK327.out 3).trans rfl; have hfz17_0 := blk_frozen BK327.out 0; have hfz17_1 := blk_frozen BK327.out 1; have hfz17_2 := blk_frozen BK327.out 2; have hfz17_3 := blk_frozen BK327.out 3) | (go_at_call 93; (with_reducible refine (impl_isHash.calls a0_2 true _ A5.out).mono ?_); rintro e w' ⟨rfl, ⟨nd, rfl⟩⟩) | (go_at_call 95; (with_reducible refine (impl_in.calls a0_1 0 1000000 false _ A7.out).mono ?_); rintro e w' ⟨rfl, ⟨nd, rfl⟩⟩))
          go_ret
          exact ⟨by first | rfl | (simp [errW_none, errW_some] <;> rfl) | (simp [*, errW_none, errW_some] <;> rfl), by repeat (first | (with_reducible first | exact HB.out | apply below_alloc | apply pw_below_drewN | apply below_drew1 | refine below_set ?_ GE327.out) | exact HB.out)⟩
      · replace c6 := Bool.eq_false_iff.mpr c6
        subst c6
        have H1 : (some false) = some r := by rw [if_neg (show ¬ (false = true) by decide)] at H; exact H
        clear H
        have H := H1
        clear H1
        obtain rfl := Option.some.inj H
        go_enter Try.func116, Try.ntmps116
        go_wp2_with (first | ((with_reducible refine gate_dst (N := 1) rfl ?_); refine box_event ?hg (N := 1) ?hd (cs := #[.slice A0_0 l0_0.length c0_0, .int .i64 a0_1, .string a0_2, .int .i64 a0_3]) (t := 36) ?hr ?_; (case hd => rfl); (case hg => rfl); (case hr => first | (go_simp; done) | (go_simp; rfl)); intro gb327 hg w18 hbox hb; have n0_ := Aside0.mk (below_step (by repeat (first | (with_reducible first | exact HB.out | apply below_alloc | apply pw_below_drewN | apply below_drew1) | exact HB.out)) hb); have n1_ := Aside0.mk (hbox); have n2_ := Aside0.mk ((by rw [hg]; exact (below_size (by repeat (first | (with_reducible first | exact HB.out | apply below_alloc | apply pw_below_drewN | apply below_drew1) | exact HB.out))) : w.heap.size ≤ gb327)); have n3_ := Aside0.mk ((by rw [hg]; exact (below_size (by repeat (first | (with_reducible first | exact HB.out | apply below_alloc | apply pw_below_drewN | apply below_drew1) | exact HB.out))) : w.heap.size ≤ gb327)); clear HB; have HB := n0_; have BK327 := n1_; have GW327 := n2_; have GE327 := n3_; clear n0_ n1_ n2_ n3_; clear hb hbox hg; have hcz19_0 : w18.cell? ⟨gb327, 0, none⟩ = some (.slice A0_0 l0_0.length c0_0) := (blk_cell BK327.out 0).trans rfl; have hcz19_1 : w18.cell? ⟨gb327, 1, none⟩ = some (.int .i64 a0_1) := (blk_cell BK327.out 1).trans rfl; have hcz19_2 : w18.cell? ⟨gb327, 2, none⟩ = some (.string a0_2) := (blk_cell BK327.out 2).trans rfl; have hcz19_3 : w18.cell? ⟨gb327, 3, none⟩ = some (.int .i64 a0_3) := (blk_cell BK327.out 3).trans rfl; have hfz19_0 := blk_frozen BK327.out 0; have hfz19_1 := blk_frozen BK327.out 1; have hfz19_2 := blk_frozen BK327.out 2; have hfz19_3 := blk_frozen BK327.out 3) | (go_at_call 122; (with_reducible refine (are_Ext.calls _ _ l0_0 true _ ?side1 ?side2 A3.out).mono ?_); (case side1 => repeat (first | exact (Kd.C_below HR0_0.out HB.out) | (with_reducible refine Kd.C_alloc ?_ _) | (with_reducible refine Kd.C_drewN ?_ _) | (with_reducible refine Kd.C_drew ?_))); (case side2 => exact HC0_0.out); rintro e w20 ⟨rfl, hb⟩; have n0_ := Aside0.mk (blk_below (g := gb327) (o := .cells #[.slice A0_0 l0_0.length c0_0, .int .i64 a0_1, .string a0_2, .int .i64 a0_3] 36 (0, 0)) (by (with_reducible repeat (first | apply bN | apply bd | apply bA)); exact BK327.out) hb); have n1_ := Aside0.mk (below_step (by repeat (first | (with_reducible first | exact HB.out | apply below_alloc | apply pw_below_drewN | apply below_drew1 | refine below_set ?_ GE327.out) | exact HB.out)) hb); clear BK327; clear HB; have BK327 := n0_; have HB := n1_; clear n0_ n1_; (try clear hb); (try clear hb2); (try clear hk); (try clear hi); have hcz21_0 : w20.cell? ⟨gb327, 0, none⟩ = some (.slice A0_0 l0_0.length c0_0) := (blk_cell BK327.out 0).trans rfl; have hcz21_1 : w20.cell? ⟨gb327, 1, none⟩ = some (.int .i64 a0_1) := (blk_cell BK327.out 1).trans rfl; have hcz21_2 : w20.cell? ⟨gb327, 2, none⟩ = some (.string a0_2) := (blk_cell BK327.out 2).trans rfl; have hcz21_3 : w20.cell? ⟨gb327, 3, none⟩ = some (.int .i64 a0_3) := (blk_cell BK327.out 3).trans rfl; have hfz21_0 := blk_frozen BK327.out 0; have hfz21_1 := blk_frozen BK327.out 1; have hfz21_2 := blk_frozen BK327.out 2; have hfz21_3 := blk_frozen BK327.out 3) | (go_at_call 93; (with_reducible refine (impl_isHash.calls a0_2 false _ A5.out).mono ?_); rintro e w' ⟨rfl, ⟨nd, rfl⟩⟩))
        go_ret
        exact ⟨by first | rfl | (simp [errW_none, errW_some] <;> rfl) | (simp [*, errW_none, errW_some] <;> rfl), by repeat (first | (with_reducible first | exact HB.out | apply below_alloc | apply pw_below_drewN | apply below_drew1 | refine below_set ?_ GE327.out) | exact HB.out)⟩
    · replace c4 := Bool.eq_false_iff.mpr c4
      subst c4
      have H1 : (some false) = some r := by rw [if_neg (show ¬ (false = true) by decide)] at H; exact H
      clear H
      have H := H1
      clear H1
      obtain rfl := Option.some.inj H
      go_enter Try.func116, Try.ntmps116
      go_wp2_with (first | ((with_reducible refine gate_dst (N := 1) rfl ?_); refine box_event ?hg (N := 1) ?hd (cs := #[.slice A0_0 l0_0.length c0_0, .int .i64 a0_1, .string a0_2, .int .i64 a0_3]) (t := 36) ?hr ?_; (case hd => rfl); (case hg => rfl); (case hr => first | (go_simp; done) | (go_simp; rfl)); intro gb327 hg w22 hbox hb; have n0_ := Aside0.mk (below_step (by repeat (first | (with_reducible first | exact HB.out | apply below_alloc | apply pw_below_drewN | apply below_drew1) | exact HB.out)) hb); have n1_ := Aside0.mk (hbox); have n2_ := Aside0.mk ((by rw [hg]; exact (below_size (by repeat (first | (with_reducible first | exact HB.out | apply below_alloc | apply pw_below_drewN | apply below_drew1) | exact HB.out))) : w.heap.size ≤ gb327)); have n3_ := Aside0.mk ((by rw [hg]; exact (below_size (by repeat (first | (with_reducible first | exact HB.out | apply below_alloc | apply pw_below_drewN | apply below_drew1) | exact HB.out))) : w.heap.size ≤ gb327)); clear HB; have HB := n0_; have BK327 := n1_; have GW327 := n2_; have GE327 := n3_; clear n0_ n1_ n2_ n3_; clear hb hbox hg; have hcz23_0 : w22.cell? ⟨gb327, 0, none⟩ = some (.slice A0_0 l0_0.length c0_0) := (blk_cell BK327.out 0).trans rfl; have hcz23_1 : w22.cell? ⟨gb327, 1, none⟩ = some (.int .i64 a0_1) := (blk_cell BK327.out 1).trans rfl; have hcz23_2 : w22.cell? ⟨gb327, 2, none⟩ = some (.string a0_2) := (blk_cell BK327.out 2).trans rfl; have hcz23_3 : w22.cell? ⟨gb327, 3, none⟩ = some (.int .i64 a0_3) := (blk_cell BK327.out 3).trans rfl; have hfz23_0 := blk_frozen BK327.out 0; have hfz23_1 := blk_frozen BK327.out 1; have hfz23_2 := blk_frozen BK327.out 2; have hfz23_3 := blk_frozen BK327.out 3) | (go_at_call 122; (with_reducible refine (are_Ext.calls _ _ l0_0 false _ ?side1 ?side2 A3.out).mono ?_); (case side1 => repeat (first | exact (Kd.C_below HR0_0.out HB.out) | (with_reducible refine Kd.C_alloc ?_ _) | (with_reducible refine Kd.C_drewN ?_ _) | (with_reducible refine Kd.C_drew ?_))); (case side2 => exact HC0_0.out); rintro e w24 ⟨rfl, hb⟩; have n0_ := Aside0.mk (blk_below (g := gb327) (o := .cells #[.slice A0_0 l0_0.length c0_0, .int .i64 a0_1, .string a0_2, .int .i64 a0_3] 36 (0, 0)) (by (with_reducible repeat (first | apply bN | apply bd | apply bA)); exact BK327.out) hb); have n1_ := Aside0.mk (below_step (by repeat (first | (with_reducible first | exact HB.out | apply below_alloc | apply pw_below_drewN | apply below_drew1 | refine below_set ?_ GE327.out) | exact HB.out)) hb); clear BK327; clear HB; have BK327 := n0_; have HB := n1_; clear n0_ n1_; (try clear hb); (try clear hb2); (try clear hk); (try clear hi)))
      go_ret
      exact ⟨by first | rfl | (simp [errW_none, errW_some] <;> rfl) | (simp [*, errW_none, errW_some] <;> rfl), by repeat (first | (with_reducible first | exact HB.out | apply below_alloc | apply pw_below_drewN | apply below_drew1 | refine below_set ?_ GE327.out) | exact HB.out)⟩
  · rw [if_neg c2] at H
    have c2b0 : decide ((l0_0.length : Int) ≤ 64) = false := decide_eq_false c2
    have c2b1 : decide (l0_0.length ≤ 64) = false := decide_eq_false (by omega)
    clear c2
    obtain rfl := Option.some.inj H
    go_enter Try.func116, Try.ntmps116
    go_wp2_with (first | ((with_reducible refine gate_dst (N := 1) rfl ?_); refine box_event ?hg (N := 1) ?hd (cs := #[.slice A0_0 l0_0.length c0_0, .int .i64 a0_1, .string a0_2, .int .i64 a0_3]) (t := 36) ?hr ?_; (case hd => rfl); (case hg => rfl); (case hr => first | (go_simp; done) | (go_simp; rfl)); intro gb327 hg w25 hbox hb; have n0_ := Aside0.mk (below_step (by repeat (first | (with_reducible first | exact HB.out | apply below_alloc | apply pw_below_drewN | apply below_drew1) | exact HB.out)) hb); have n1_ := Aside0.mk (hbox); have n2_ := Aside0.mk ((by rw [hg]; exact (below_size (by repeat (first | (with_reducible first | exact HB.out | apply below_alloc | apply pw_below_drewN | apply below_drew1) | exact HB.out))) : w.heap.size ≤ gb327)); have n3_ := Aside0.mk ((by rw [hg]; exact (below_size (by repeat (first | (with_reducible first | exact HB.out | apply below_alloc | apply pw_below_drewN | apply below_drew1) | exact HB.out))) : w.heap.size ≤ gb327)); clear HB; have HB := n0_; have BK327 := n1_; have GW327 := n2_; have GE327 := n3_; clear n0_ n1_ n2_ n3_; clear hb hbox hg; have hcz26_0 : w25.cell? ⟨gb327, 0, none⟩ = some (.slice A0_0 l0_0.length c0_0) := (blk_cell BK327.out 0).trans rfl; have hcz26_1 : w25.cell? ⟨gb327, 1, none⟩ = some (.int .i64 a0_1) := (blk_cell BK327.out 1).trans rfl; have hcz26_2 : w25.cell? ⟨gb327, 2, none⟩ = some (.string a0_2) := (blk_cell BK327.out 2).trans rfl; have hcz26_3 : w25.cell? ⟨gb327, 3, none⟩ = some (.int .i64 a0_3) := (blk_cell BK327.out 3).trans rfl; have hfz26_0 := blk_frozen BK327.out 0; have hfz26_1 := blk_frozen BK327.out 1; have hfz26_2 := blk_frozen BK327.out 2; have hfz26_3 := blk_frozen BK327.out 3))
    go_ret
    exact ⟨by first | rfl | (simp [errW_none, errW_some] <;> rfl) | (simp [*, errW_none, errW_some] <;> rfl), by repeat (first | (with_reducible first | exact HB.out | apply below_alloc | apply pw_below_drewN | apply below_drew1 | refine below_set ?_ GE327.out) | exact HB.out)⟩

/-! ### impl_Source_grind: function 119 -/
def impl_Source_grind.l0 : Nat → Int → Int → List (S79) → Int → ByteArray → Int → Option (Int)
  | 0, _, _, _, _, _, _ => none
  | k + 1, x1, x6, x378000, x378001, x378002, x378003 => if x6 < 65536 then ((impl_Source_does.f x378000 x378001 x378002 x378003 x1 x6).bind fun t378 => (if t378 = true then (some x6) else (impl_Source_grind.l0 k x1 (wrap64 (x6 + 1)) x378000 x378001 x378002 x378003))) else (some (-1))
def impl_Source_grind.f (k : Nat) (l0_0 : List (S79)) (a0_1 : Int) (a0_2 : ByteArray) (a0_3 : Int) (a1 : Int) : Option (Int) := impl_Source_grind.l0 k a1 0 l0_0 a0_1 a0_2 a0_3
theorem impl_Source_grind.mono_l : ∀ k, (∀ y0 y1 y2 y3 y4 y5, LeO (impl_Source_grind.l0 k y0 y1 y2 y3 y4 y5) (impl_Source_grind.l0 (k + 1) y0 y1 y2 y3 y4 y5))
  | 0 => fun _ _ _ _ _ _ r h => by simp [impl_Source_grind.l0] at h
  | k + 1 => by
    have ih0 := impl_Source_grind.mono_l k
    · intro y0 y1 y2 y3 y4 y5
      unfold impl_Source_grind.l0
      repeat' first
      | (with_reducible exact ih0 _ _ _ _ _ _)
      | (with_reducible exact LeO.refl _)
      | (with_reducible exact LeO.none _)
      | (with_reducible refine LeO.ite ?_ ?_)
      | (with_reducible refine LeO.bind ?_ (fun _ => ?_))
      | exact ih0 _ _ _ _ _ _
      | exact LeO.none _
      | refine LeO.ite ?_ ?_
      | refine LeO.bind ?_ (fun _ => ?_)
theorem impl_Source_grind.mono : ∀ a0 a1 a2 a3 a4 k, LeO (impl_Source_grind.f k a0 a1 a2 a3 a4) (impl_Source_grind.f (k + 1) a0 a1 a2 a3 a4) := by
  intro a0 a1 a2 a3 a4 k
  have ih0 := impl_Source_grind.mono_l k
  unfold impl_Source_grind.f
  repeat' first
      | (with_reducible exact ih0 _ _ _ _ _ _)
      | (with_reducible exact LeO.refl _)
      | (with_reducible exact LeO.none _)
      | (with_reducible refine LeO.ite ?_ ?_)
      | (with_reducible refine LeO.bind ?_ (fun _ => ?_))
      | exact ih0 _ _ _ _ _ _
      | exact LeO.none _
      | refine LeO.ite ?_ ?_
      | refine LeO.bind ?_ (fun _ => ?_)
set_option maxHeartbeats 8000000 in
set_option maxRecDepth 100000 in
theorem impl_Source_grind.calls (k : Nat) (A0_0 : Option Addr) (c0_0 : Nat) (l0_0 : List (S79)) (a0_1 : Int) (a0_2 : ByteArray) (a0_3 : Int) (a1 : Int) (r : Int) (w : World) (hr0_0 : Kd.C k79 w A0_0 l0_0.length l0_0) (hc0_0 : l0_0.length ≤ c0_0) (h : impl_Source_grind.f k l0_0 a0_1 a0_2 a0_3 a1 = some r) :
    Calls Try.prog 119 #[.agg #[.slice A0_0 l0_0.length c0_0, .int .i64 a0_1, .string a0_2, .int .i64 a0_3], .int .i64 a1] w fun e w' => e = .returned (.int .i64 r) ∧ Below w.heap.size w w' := by
  have hu36 := Try.underlying36
  have HR0_0 := Aside0.mk hr0_0
  have HC0_0 := Aside0.mk hc0_0
  clear hr0_0 hc0_0
  have HB := Aside0.mk (Below.refl w.heap.size w)
  have H : (impl_Source_grind.l0 k a1 0 l0_0 a0_1 a0_2 a0_3) = some r := h
  clear h
  have H' := Aside0.mk H
  clear H
  go_enter Try.func119, Try.ntmps119
  go_wp2_with (first | ((with_reducible refine gate_dst (N := 2) rfl ?_); refine box_event ?hg (N := 2) ?hd (cs := #[.slice A0_0 l0_0.length c0_0, .int .i64 a0_1, .string a0_2, .int .i64 a0_3]) (t := 36) ?hr ?_; (case hd => rfl); (case hg => rfl); (case hr => first | (go_simp; done) | (go_simp; rfl)); intro gb377 hg w3 hbox hb; have n0_ := Aside0.mk (below_step (by repeat (first | (with_reducible first | exact HB.out | apply below_alloc | apply pw_below_drewN | apply below_drew1) | exact HB.out)) hb); have n1_ := Aside0.mk (hbox); have n2_ := Aside0.mk ((by rw [hg]; exact (below_size (by repeat (first | (with_reducible first | exact HB.out | apply below_alloc | apply pw_below_drewN | apply below_drew1) | exact HB.out))) : w.heap.size ≤ gb377)); have n3_ := Aside0.mk ((by rw [hg]; exact (below_size (by repeat (first | (with_reducible first | exact HB.out | apply below_alloc | apply pw_below_drewN | apply below_drew1) | exact HB.out))) : w.heap.size ≤ gb377)); clear HB; have HB := n0_; have BK377 := n1_; have GW377 := n2_; have GE377 := n3_; clear n0_ n1_ n2_ n3_; clear hb hbox hg))
  go_loopg [6] k (fun kq v6 w' => ∃ (x6_1 : Int), v6 = .int .i64 x6_1 ∧ Aside0 (impl_Source_grind.l0 kq a1 x6_1 l0_0 a0_1 a0_2 a0_3 = some r) ∧ Aside0 (kq ≤ k) ∧ Aside0 (w'.heap[gb377]? = some (.cells #[(.slice A0_0 l0_0.length c0_0), .int .i64 a0_1, .string a0_2, .int .i64 a0_3] 36 (0, 0))) ∧ Aside0 (Below w.heap.size w w'))
  case atStart => exact ⟨(0), (by first | rfl | (simp; done) | (simp [*]; done)), H', ⟨Nat.le_refl _⟩, ⟨by (with_reducible repeat (first | apply bN | apply bd | apply bA)); exact BK377.out⟩, ⟨by repeat (first | (with_reducible first | exact HB.out | apply below_alloc | apply pw_below_drewN | apply below_drew1 | refine below_set ?_ GE377.out) | exact HB.out)⟩⟩
  case round =>
    clear H'
    try clear c1
    try clear p2
    obtain ⟨x6_1, rfl, HA, HK1, BK377, HB⟩ := hrel
    cases gk with
    | zero => exact absurd HA.out (by simp [impl_Source_grind.l0])
    | succ k1 =>
      have H := HA.out
      clear HA
      simp only [impl_Source_grind.l0] at H
      by_cases c4 : x6_1 < 65536
      · rw [if_pos c4] at H
        have c4b0 : decide (x6_1 < 65536) = true := decide_eq_true c4
        clear c4
        replace H := Option.bind_eq_some_iff.mp H
        obtain ⟨t378, A50, H⟩ := H
        replace H : (if t378 = true then (some x6_1) else (impl_Source_grind.l0 k1 a1 (wrap64 (x6_1 + 1)) l0_0 a0_1 a0_2 a0_3)) = some r := H
        have A5 := Aside0.mk A50
        clear A50
        by_cases c6 : t378 = true
        · subst c6
          have H1 : (some x6_1) = some r := by rw [if_pos rfl] at H; exact H
          clear H
          have H := H1
          clear H1
          obtain rfl := Option.some.inj H
          have hcz7_0 : wr.cell? ⟨gb377, 0, none⟩ = some (.slice A0_0 l0_0.length c0_0) := (blk_cell BK377.out 0).trans rfl
          have hcz7_1 : wr.cell? ⟨gb377, 1, none⟩ = some (.int .i64 a0_1) := (blk_cell BK377.out 1).trans rfl
          have hcz7_2 : wr.cell? ⟨gb377, 2, none⟩ = some (.string a0_2) := (blk_cell BK377.out 2).trans rfl
          have hcz7_3 : wr.cell? ⟨gb377, 3, none⟩ = some (.int .i64 a0_3) := (blk_cell BK377.out 3).trans rfl
          have hfz7_0 := blk_frozen BK377.out 0
          have hfz7_1 := blk_frozen BK377.out 1
          have hfz7_2 := blk_frozen BK377.out 2
          have hfz7_3 := blk_frozen BK377.out 3
          go_wp2_with (first | ((with_reducible refine gate_callee (f := 117) rfl ?_); refine goesL_ (some 12) rfl rfl Try.func117 (by kernel_rfl) rfl #[.agg #[.slice A0_0 l0_0.length c0_0, .int .i64 a0_1, .string a0_2, .int .i64 a0_3], .int .i64 a1, .int .i64 x6_1] rfl (by (try simp only [List.map_toArray, List.map_cons, List.map_nil]); first | done | rfl | (simp only [List.length_drop, List.length_take]; rfl)) ?_; (with_reducible refine (impl_Source_does.calls _ _ l0_0 a0_1 a0_2 a0_3 a1 x6_1 true _ ?side1 ?side2 A5.out).mono ?_); (case side1 => repeat (first | exact (Kd.C_below HR0_0.out HB.out) | (with_reducible refine Kd.C_alloc ?_ _) | (with_reducible refine Kd.C_drewN ?_ _) | (with_reducible refine Kd.C_drew ?_))); (case side2 => exact HC0_0.out); rintro e w8 ⟨rfl, hb⟩; refine ⟨_, rfl, ?_⟩; have n0_ := Aside0.mk (blk_below (g := gb377) (o := .cells #[.slice A0_0 l0_0.length c0_0, .int .i64 a0_1, .string a0_2, .int .i64 a0_3] 36 (0, 0)) (by (with_reducible repeat (first | apply bN | apply bd | apply bA)); exact BK377.out) hb); have n1_ := Aside0.mk (below_step (by repeat (first | (with_reducible first | exact HB.out | apply below_alloc | apply pw_below_drewN | apply below_drew1 | refine below_set ?_ GE377.out) | exact HB.out)) hb); clear BK377; clear HB; have BK377 := n0_; have HB := n1_; clear n0_ n1_; (try clear hb); (try clear hb2); (try clear hk); (try clear hi)))
          go_ret
          exact ⟨by first | rfl | (simp [errW_none, errW_some] <;> rfl) | (simp [*, errW_none, errW_some] <;> rfl), by repeat (first | (with_reducible first | exact HB.out | apply below_alloc | apply pw_below_drewN | apply below_drew1 | refine below_set ?_ GE377.out) | exact HB.out)⟩
        · replace c6 := Bool.eq_false_iff.mpr c6
          subst c6
          have H1 : (impl_Source_grind.l0 k1 a1 (wrap64 (x6_1 + 1)) l0_0 a0_1 a0_2 a0_3) = some r := by rw [if_neg (show ¬ (false = true) by decide)] at H; exact H
          clear H
          have H := H1
          clear H1
          have H' := Aside0.mk H
          clear H
          have hcz9_0 : wr.cell? ⟨gb377, 0, none⟩ = some (.slice A0_0 l0_0.length c0_0) := (blk_cell BK377.out 0).trans rfl
          have hcz9_1 : wr.cell? ⟨gb377, 1, none⟩ = some (.int .i64 a0_1) := (blk_cell BK377.out 1).trans rfl
          have hcz9_2 : wr.cell? ⟨gb377, 2, none⟩ = some (.string a0_2) := (blk_cell BK377.out 2).trans rfl
          have hcz9_3 : wr.cell? ⟨gb377, 3, none⟩ = some (.int .i64 a0_3) := (blk_cell BK377.out 3).trans rfl
          have hfz9_0 := blk_frozen BK377.out 0
          have hfz9_1 := blk_frozen BK377.out 1
          have hfz9_2 := blk_frozen BK377.out 2
          have hfz9_3 := blk_frozen BK377.out 3
          go_wp2_with (first | ((with_reducible refine gate_callee (f := 117) rfl ?_); refine goesL_ (some 12) rfl rfl Try.func117 (by kernel_rfl) rfl #[.agg #[.slice A0_0 l0_0.length c0_0, .int .i64 a0_1, .string a0_2, .int .i64 a0_3], .int .i64 a1, .int .i64 x6_1] rfl (by (try simp only [List.map_toArray, List.map_cons, List.map_nil]); first | done | rfl | (simp only [List.length_drop, List.length_take]; rfl)) ?_; (with_reducible refine (impl_Source_does.calls _ _ l0_0 a0_1 a0_2 a0_3 a1 x6_1 false _ ?side1 ?side2 A5.out).mono ?_); (case side1 => repeat (first | exact (Kd.C_below HR0_0.out HB.out) | (with_reducible refine Kd.C_alloc ?_ _) | (with_reducible refine Kd.C_drewN ?_ _) | (with_reducible refine Kd.C_drew ?_))); (case side2 => exact HC0_0.out); rintro e w10 ⟨rfl, hb⟩; refine ⟨_, rfl, ?_⟩; have n0_ := Aside0.mk (blk_below (g := gb377) (o := .cells #[.slice A0_0 l0_0.length c0_0, .int .i64 a0_1, .string a0_2, .int .i64 a0_3] 36 (0, 0)) (by (with_reducible repeat (first | apply bN | apply bd | apply bA)); exact BK377.out) hb); have n1_ := Aside0.mk (below_step (by repeat (first | (with_reducible first | exact HB.out | apply below_alloc | apply pw_below_drewN | apply below_drew1 | refine below_set ?_ GE377.out) | exact HB.out)) hb); clear BK377; clear HB; have BK377 := n0_; have HB := n1_; clear n0_ n1_; (try clear hb); (try clear hb2); (try clear hk); (try clear hi)))
          go_roundg k1
          case measure => have := HK1.out; omega
          case rel => exact ⟨(wrap64 (x6_1 + 1)), (by first | rfl | (simp; done) | (simp [*]; done)), H', ⟨by have := HK1.out; omega⟩, ⟨by (with_reducible repeat (first | apply bN | apply bd | apply bA)); exact BK377.out⟩, ⟨by repeat (first | (with_reducible first | exact HB.out | apply below_alloc | apply pw_below_drewN | apply below_drew1 | refine below_set ?_ GE377.out) | exact HB.out)⟩⟩
      · rw [if_neg c4] at H
        have c4b0 : decide (x6_1 < 65536) = false := decide_eq_false c4
        clear c4
        obtain rfl := Option.some.inj H
        go_wp2
        go_ret
        exact ⟨by first | rfl | (simp [errW_none, errW_some] <;> rfl) | (simp [*, errW_none, errW_some] <;> rfl), by repeat (first | (with_reducible first | exact HB.out | apply below_alloc | apply pw_below_drewN | apply below_drew1 | refine below_set ?_ GE377.out) | exact HB.out)⟩

end Go.Proofs.Ytlogocmojnhpbaa.Print
