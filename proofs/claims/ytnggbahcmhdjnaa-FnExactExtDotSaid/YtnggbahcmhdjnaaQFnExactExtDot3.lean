-- Packed by a program of this session (slim.py) out of printed texts; not trusted, Lean checks it.
import Derived.Test.YtnggbahcmhdjnaaPrint0
import Derived.Test.YtnggbahcmhdjnaaPrint1
import Derived.Test.YtnggbahcmhdjnaaQFnExactExtDot1
import Derived.Test.YtnggbahcmhdjnaaQFnExactExtDot2
namespace Go.Proofs.Ytnggbahcmhdjnaa.Print
open Go.RowKit Go.Proofs.YtnggbahcmhdjnaaW.PrintWords Go.Proofs.YtnggbahcmhdjnaaW.PrintLast Go.Proofs.YtnggbahcmhdjnaaW.PrintMore
attribute [local go_sem] max2_int min2_int max_two min_two max_three min_three max_four min_four   -- for this text's walks alone
set_option linter.unusedVariables false
set_option linter.unusedSimpArgs false

/-! ### spec_ExtDot: function 58 -/
mutual
def spec_ExtDot.j0 : Nat → List (S24) → List (S24) → Bool → Option (Int × Int × Int)
  | 0, _, _, _ => none
  | k + 1, x0, x1, x15 => if x15 = true then (some (0, 0, 2)) else ((spec_l02List.f k x0).bind fun t685 => (if t685 = true then ((spec_l02List.f k x1).bind fun t686 => (spec_ExtDot.j1 k x0 x1 (!t686))) else (spec_ExtDot.j1 k x0 x1 true)))
def spec_ExtDot.j1 : Nat → List (S24) → List (S24) → Bool → Option (Int × Int × Int)
  | 0, _, _, _ => none
  | k + 1, x0, x1, x24 => if x24 = true then (some (0, 0, 1)) else (if (x0.length : Int) = (x1.length : Int) then (spec_ExtDot.l0 k x0 x1 0 0 0) else (some (0, 0, 8)))
def spec_ExtDot.l0 : Nat → List (S24) → List (S24) → Int → Int → Int → Option (Int × Int × Int)
  | 0, _, _, _, _, _ => none
  | k + 1, x0, x1, x7, x688000, x688001 => if x7 < (x0.length : Int) then (if 0 ≤ x7 then (if x7 < (x1.length : Int) then ((spec_l02Mul.f ((rd_T24 x0 x7).f0) ((rd_T24 x0 x7).f1) ((rd_T24 x1 x7).f0) ((rd_T24 x1 x7).f1)).bind fun bt690 => ((spec_l02Add.f x688000 x688001 bt690.1 bt690.2).bind fun bt692 => (spec_ExtDot.l0 k x0 x1 (wrap64 (x7 + 1)) bt692.1 bt692.2))) else (none)) else (none)) else (some (x688000, x688001, 0))
end
def spec_ExtDot.f (k : Nat) (l0 : List (S24)) (l1 : List (S24)) : Option (Int × Int × Int) := if (l0.length : Int) > 4096 then (spec_ExtDot.j0 k l0 l1 true) else (spec_ExtDot.j0 k l0 l1 (decide ((l1.length : Int) > 4096)))
theorem spec_ExtDot.mono_l : ∀ k, (∀ y0 y1 y2, LeO (spec_ExtDot.j0 k y0 y1 y2) (spec_ExtDot.j0 (k + 1) y0 y1 y2)) ∧ (∀ y0 y1 y2, LeO (spec_ExtDot.j1 k y0 y1 y2) (spec_ExtDot.j1 (k + 1) y0 y1 y2)) ∧ (∀ y0 y1 y2 y3 y4, LeO (spec_ExtDot.l0 k y0 y1 y2 y3 y4) (spec_ExtDot.l0 (k + 1) y0 y1 y2 y3 y4))
  | 0 => ⟨fun _ _ _ r h => by simp [spec_ExtDot.j0] at h, fun _ _ _ r h => by simp [spec_ExtDot.j1] at h, fun _ _ _ _ _ r h => by simp [spec_ExtDot.l0] at h⟩
  | k + 1 => by
    obtain ⟨ih0, ih1, ih2⟩ := spec_ExtDot.mono_l k
    refine ⟨?_, ?_, ?_⟩
    · intro y0 y1 y2
      unfold spec_ExtDot.j0
      repeat' first
      | (with_reducible exact ih0 _ _ _)
      | (with_reducible exact ih1 _ _ _)
      | (with_reducible exact ih2 _ _ _ _ _)
      | (with_reducible exact spec_l02List.mono _ _)
      | (with_reducible exact LeO.refl _)
      | (with_reducible exact LeO.none _)
      | (with_reducible refine LeO.ite ?_ ?_)
      | (with_reducible refine LeO.bind ?_ (fun _ => ?_))
      | exact ih0 _ _ _
      | exact ih1 _ _ _
      | exact ih2 _ _ _ _ _
      | exact spec_l02List.mono _ _
      | exact LeO.none _
      | refine LeO.ite ?_ ?_
      | refine LeO.bind ?_ (fun _ => ?_)
    · intro y0 y1 y2
      unfold spec_ExtDot.j1
      repeat' first
      | (with_reducible exact ih0 _ _ _)
      | (with_reducible exact ih1 _ _ _)
      | (with_reducible exact ih2 _ _ _ _ _)
      | (with_reducible exact spec_l02List.mono _ _)
      | (with_reducible exact LeO.refl _)
      | (with_reducible exact LeO.none _)
      | (with_reducible refine LeO.ite ?_ ?_)
      | (with_reducible refine LeO.bind ?_ (fun _ => ?_))
      | exact ih0 _ _ _
      | exact ih1 _ _ _
      | exact ih2 _ _ _ _ _
      | exact spec_l02List.mono _ _
      | exact LeO.none _
      | refine LeO.ite ?_ ?_
      | refine LeO.bind ?_ (fun _ => ?_)
    · intro y0 y1 y2 y3 y4
      unfold spec_ExtDot.l0
      repeat' first
      | (with_reducible exact ih0 _ _ _)
      | (with_reducible exact ih1 _ _ _)
      | (with_reducible exact ih2 _ _ _ _ _)
      | (with_reducible exact spec_l02List.mono _ _)
      | (with_reducible exact LeO.refl _)
      | (with_reducible exact LeO.none _)
      | (with_reducible refine LeO.ite ?_ ?_)
      | (with_reducible refine LeO.bind ?_ (fun _ => ?_))
      | exact ih0 _ _ _
      | exact ih1 _ _ _
      | exact ih2 _ _ _ _ _
      | exact spec_l02List.mono _ _
      | exact LeO.none _
      | refine LeO.ite ?_ ?_
      | refine LeO.bind ?_ (fun _ => ?_)
theorem spec_ExtDot.mono : ∀ a0 a1 k, LeO (spec_ExtDot.f k a0 a1) (spec_ExtDot.f (k + 1) a0 a1) := by
  intro a0 a1 k
  obtain ⟨ih0, ih1, ih2⟩ := spec_ExtDot.mono_l k
  unfold spec_ExtDot.f
  repeat' first
      | (with_reducible exact ih0 _ _ _)
      | (with_reducible exact ih1 _ _ _)
      | (with_reducible exact ih2 _ _ _ _ _)
      | (with_reducible exact spec_l02List.mono _ _)
      | (with_reducible exact LeO.refl _)
      | (with_reducible exact LeO.none _)
      | (with_reducible refine LeO.ite ?_ ?_)
      | (with_reducible refine LeO.bind ?_ (fun _ => ?_))
      | exact ih0 _ _ _
      | exact ih1 _ _ _
      | exact ih2 _ _ _ _ _
      | exact spec_l02List.mono _ _
      | exact LeO.none _
      | refine LeO.ite ?_ ?_
      | refine LeO.bind ?_ (fun _ => ?_)
def spec_ExtDot.T11 : Bool × List (List Nat × List Nat) := (true, [([], []), ([], []), ([], []), ([1, 2], [1, 2]), ([3], [3]), ([], []), ([], []), ([5, 6], [5, 6]), ([7], [7]), ([4, 8], [4, 8]), ([0, 9, 9], [0, 9]), ([10, 10, 0, 1, 2, 3, 4, 5, 6, 7, 8, 9, 10], [10])])
def spec_ExtDot.B11 : List Nat := [0, 0, 0, 6, 14, 0, 0, 96, 224, 510, 1023, 2047]
theorem spec_ExtDot.tab11 : rtab .any (opsOf Try.f58 11) = spec_ExtDot.T11 := by kernel_rfl
theorem spec_ExtDot.bits11 : waitsOk spec_ExtDot.T11.2 spec_ExtDot.B11 = true := by kernel_rfl
set_option maxHeartbeats 8000000 in
set_option maxRecDepth 100000 in
theorem spec_ExtDot.calls (k : Nat) (A0 : Option Addr) (c0 : Nat) (l0 : List (S24)) (A1 : Option Addr) (c1 : Nat) (l1 : List (S24)) (r1 : Int) (r2 : Int) (r3 : Int) (w : World) (hr0 : Kd.C k24 w A0 l0.length l0) (hc0 : l0.length ≤ c0) (hr1 : Kd.C k24 w A1 l1.length l1) (hc1 : l1.length ≤ c1) (h : spec_ExtDot.f k l0 l1 = some (r1, r2, r3)) :
    Calls Try.prog 58 #[.slice A0 l0.length c0, .slice A1 l1.length c1] w fun e w' => e = .returned (.tuple #[.agg #[.int .i64 r1, .int .i64 r2], .int .i64 r3]) ∧ Below w.heap.size w w' := by
  have hu24 := Try.underlying24
  have HR0 := Aside0.mk hr0
  have HC0 := Aside0.mk hc0
  clear hr0 hc0
  have HR1 := Aside0.mk hr1
  have HC1 := Aside0.mk hc1
  clear hr1 hc1
  have HB := Aside0.mk (Below.refl w.heap.size w)
  have H : (if (l0.length : Int) > 4096 then (spec_ExtDot.j0 k l0 l1 true) else (spec_ExtDot.j0 k l0 l1 (decide ((l1.length : Int) > 4096)))) = some (r1, r2, r3) := h
  clear h
  have HC3 := Aside0.mk H
  clear H
  go_enter Try.func58, Try.ntmps58
  go_upto_region 1 with (first | ((with_reducible refine gate_dst (N := 4) rfl ?_); (try (refine gate_guard (by rfl) ?_; dsimp only)); refine box_event ?hg (N := 4) ?hd (cs := #[.int .i64 0, .int .i64 0]) (t := 24) ?hr ?_; (case hd => rfl); (case hg => rfl); (case hr => first | (go_simp; done) | (go_simp; rfl)); intro gb684 hg w4 hbox hb; have n0_ := Aside0.mk (below_step (by repeat (first | (with_reducible first | exact HB.out | apply below_alloc | apply pw_below_drewN | apply below_drew1) | exact HB.out)) hb); have n1_ := Aside0.mk (hbox); have n2_ := Aside0.mk ((by rw [hg]; exact (below_size (by repeat (first | (with_reducible first | exact HB.out | apply below_alloc | apply pw_below_drewN | apply below_drew1) | exact HB.out))) : w.heap.size ≤ gb684)); have n3_ := Aside0.mk ((by rw [hg]; exact (below_size (by repeat (first | (with_reducible first | exact HB.out | apply below_alloc | apply pw_below_drewN | apply below_drew1) | exact HB.out))) : w.heap.size ≤ gb684)); clear HB; have HB := n0_; have BK684 := n1_; have GW684 := n2_; have GE684 := n3_; clear n0_ n1_ n2_ n3_; clear hb hbox hg))
  (try simp only [Act.put, List.setIfInBounds_toArray, List.set_cons_zero, List.set_cons_succ])
  go_cut [15] (fun v15 wc => ∃ (kq : Nat) (x15_2 : Bool), v15 = .bool x15_2 ∧ Aside0 (spec_ExtDot.j0 kq l0 l1 x15_2 = some (r1, r2, r3)) ∧ Aside0 (kq ≤ k) ∧ Aside0 (wc.heap[gb684]? = some (.cells #[.int .i64 0, .int .i64 0] 24 (0, 0))) ∧ Aside0 (Below w.heap.size w wc))
  case first =>
    have H := HC3.out
    clear HC3
    by_cases c5 : (l0.length : Int) > 4096
    · rw [if_pos c5] at H
      have c5b0 : decide (4096 < (l0.length : Int)) = true := decide_eq_true c5
      have c5b1 : decide (4096 < l0.length) = true := decide_eq_true (by omega)
      clear c5
      (first | rw [c5b0] | (simp only [i64_w, i32_w]; rw [c5b0]) | skip)
      have H' := Aside0.mk H
      clear H
      go_wp2
      go_meet
      case rel => exact ⟨_, (true), (by first | rfl | (simp; done) | (simp [*]; done)), H', ⟨by first | omega | exact Nat.le_refl _⟩, ⟨by (with_reducible repeat (first | apply bN | apply bd | apply bA)); exact BK684.out⟩, ⟨by repeat (first | (with_reducible first | exact HB.out | apply below_alloc | apply pw_below_drewN | apply below_drew1 | refine below_set ?_ GE684.out) | exact HB.out)⟩⟩
    · rw [if_neg c5] at H
      have c5b0 : decide (4096 < (l0.length : Int)) = false := decide_eq_false c5
      have c5b1 : decide (4096 < l0.length) = false := decide_eq_false (by omega)
      clear c5
      (first | rw [c5b0] | (simp only [i64_w, i32_w]; rw [c5b0]) | skip)
      have H' := Aside0.mk H
      clear H
      go_wp2
      go_meet
      case rel => exact ⟨_, (decide ((l1.length : Int) > 4096)), (by first | rfl | (simp; done) | (simp [*]; done)), H', ⟨by first | omega | exact Nat.le_refl _⟩, ⟨by (with_reducible repeat (first | apply bN | apply bd | apply bA)); exact BK684.out⟩, ⟨by repeat (first | (with_reducible first | exact HB.out | apply below_alloc | apply pw_below_drewN | apply below_drew1 | refine below_set ?_ GE684.out) | exact HB.out)⟩⟩
  case rest =>
    clear HC3
    try clear c1
    try clear p2
    try clear c5
    try clear c5b0
    try clear c5b1
    obtain ⟨kq, x15_2, rfl, HA, HJ2, BK684, HB⟩ := hcut
    cases kq with
    | zero => exact absurd HA.out (by simp [spec_ExtDot.j0])
    | succ kj2 =>
      have H := HA.out
      clear HA
      simp only [spec_ExtDot.j0] at H
      by_cases c6 : x15_2 = true
      · subst c6
        have H1 : (some (0, 0, 2)) = some (r1, r2, r3) := by rw [if_pos rfl] at H; exact H
        clear H
        have H := H1
        clear H1
        simp only [Option.some.injEq, Prod.mk.injEq] at H
        obtain ⟨rfl, rfl, rfl⟩ := H
        have hcz7_0 : wc.cell? ⟨gb684, 0, none⟩ = some (.int .i64 0) := (blk_cell BK684.out 0).trans rfl
        have hcz7_1 : wc.cell? ⟨gb684, 1, none⟩ = some (.int .i64 0) := (blk_cell BK684.out 1).trans rfl
        have hfz7_0 := blk_frozen BK684.out 0
        have hfz7_1 := blk_frozen BK684.out 1
        go_wp2
        refine bodyPost_ret (results_ct rfl _ _ gb684 24 #[.int .i64 0, .int .i64 0] (0, 0) _ rfl (by (with_reducible repeat (first | apply bN | apply bd | apply bA)); refine blk_put (cs := #[.int .i64 0, .int .i64 0]) ?_ 1 _ rfl; (with_reducible repeat (first | apply bN | apply bd | apply bA)); refine blk_put (cs := #[.int .i64 0, .int .i64 0]) ?_ 0 _ rfl; (with_reducible repeat (first | apply bN | apply bd | apply bA)); exact BK684.out) Try.underlying24 rfl (by kernel_rfl)) rfl ?_
        exact ⟨by first | rfl | (simp [errW_none, errW_some] <;> rfl) | (simp [*, errW_none, errW_some] <;> rfl), by repeat (first | (with_reducible first | exact HB.out | apply below_alloc | apply pw_below_drewN | apply below_drew1 | refine below_set ?_ GE684.out) | exact HB.out)⟩
      · replace c6 := Bool.eq_false_iff.mpr c6
        subst c6
        have H1 : ((spec_l02List.f kj2 l0).bind fun t685 => (if t685 = true then ((spec_l02List.f kj2 l1).bind fun t686 => (spec_ExtDot.j1 kj2 l0 l1 (!t686))) else (spec_ExtDot.j1 kj2 l0 l1 true))) = some (r1, r2, r3) := by rw [if_neg (show ¬ (false = true) by decide)] at H; exact H
        clear H
        have H := H1
        clear H1
        have HC8 := Aside0.mk H
        clear H
        go_upto_region 3 with (fail)
        go_cut [24] (fun v24 wc => ∃ (kq : Nat) (x24_7 : Bool), v24 = .bool x24_7 ∧ Aside0 (spec_ExtDot.j1 kq l0 l1 x24_7 = some (r1, r2, r3)) ∧ Aside0 (kq ≤ kj2) ∧ Aside0 (wc.heap[gb684]? = some (.cells #[.int .i64 0, .int .i64 0] 24 (0, 0))) ∧ Aside0 (Below w.heap.size w wc))
        case first =>
          have H := HC8.out
          clear HC8
          replace H := Option.bind_eq_some_iff.mp H
          obtain ⟨t685, A90, H⟩ := H
          replace H : (if t685 = true then ((spec_l02List.f kj2 l1).bind fun t686 => (spec_ExtDot.j1 kj2 l0 l1 (!t686))) else (spec_ExtDot.j1 kj2 l0 l1 true)) = some (r1, r2, r3) := H
          have A9 := Aside0.mk A90
          clear A90
          by_cases c10 : t685 = true
          · subst c10
            have H1 : ((spec_l02List.f kj2 l1).bind fun t686 => (spec_ExtDot.j1 kj2 l0 l1 (!t686))) = some (r1, r2, r3) := by rw [if_pos rfl] at H; exact H
            clear H
            have H := H1
            clear H1
            replace H := Option.bind_eq_some_iff.mp H
            obtain ⟨t686, A110, H⟩ := H
            replace H : (spec_ExtDot.j1 kj2 l0 l1 (!t686)) = some (r1, r2, r3) := H
            have A11 := Aside0.mk A110
            clear A110
            have H' := Aside0.mk H
            clear H
            go_wp2_with (first | ((with_reducible refine gate_callee (f := 104) rfl ?_); refine goesL_ (some 18) rfl rfl Try.func104 (by kernel_rfl) rfl #[.slice A0 l0.length c0] rfl (by (try simp only [List.map_toArray, List.map_cons, List.map_nil]); first | done | rfl | (simp only [List.length_drop, List.length_take]; rfl)) ?_; (with_reducible refine (spec_l02List.calls kj2 _ _ l0 true _ ?side1 ?side2 A9.out).mono ?_); (case side1 => repeat (first | exact (Kd.C_below HR0.out HB.out) | (with_reducible refine Kd.C_alloc ?_ _) | (with_reducible refine Kd.C_drewN ?_ _) | (with_reducible refine Kd.C_drew ?_))); (case side2 => exact HC0.out); rintro e w12 ⟨rfl, hb⟩; refine ⟨_, rfl, ?_⟩; have n0_ := Aside0.mk (blk_below (g := gb684) (o := .cells #[.int .i64 0, .int .i64 0] 24 (0, 0)) (by (with_reducible repeat (first | apply bN | apply bd | apply bA)); exact BK684.out) hb); have n1_ := Aside0.mk (below_step (by repeat (first | (with_reducible first | exact HB.out | apply below_alloc | apply pw_below_drewN | apply below_drew1 | refine below_set ?_ GE684.out) | exact HB.out)) hb); clear BK684; clear HB; have BK684 := n0_; have HB := n1_; clear n0_ n1_; (try clear hb); (try clear hb2); (try clear hk); (try clear hi)) | (go_at_call 104; (with_reducible refine (spec_l02List.calls kj2 _ _ l1 t686 _ ?side1 ?side2 A11.out).mono ?_); (case side1 => repeat (first | exact (Kd.C_below HR1.out HB.out) | (with_reducible refine Kd.C_alloc ?_ _) | (with_reducible refine Kd.C_drewN ?_ _) | (with_reducible refine Kd.C_drew ?_))); (case side2 => exact HC1.out); rintro e w13 ⟨rfl, hb⟩; have n0_ := Aside0.mk (blk_below (g := gb684) (o := .cells #[.int .i64 0, .int .i64 0] 24 (0, 0)) (by (with_reducible repeat (first | apply bN | apply bd | apply bA)); exact BK684.out) hb); have n1_ := Aside0.mk (below_step (by repeat (first | (with_reducible first | exact HB.out | apply below_alloc | apply pw_below_drewN | apply below_drew1 | refine below_set ?_ GE684.out) | exact HB.out)) hb); clear BK684; clear HB; have BK684 := n0_; have HB := n1_; clear n0_ n1_; (try clear hb); (try clear hb2); (try clear hk); (try clear hi)))
            go_meet
            case rel => exact ⟨_, (!t686), (by first | rfl | (simp; done) | (simp [*]; done)), H', ⟨by have := HJ2.out; first | omega | exact Nat.le_refl _⟩, ⟨by (with_reducible repeat (first | apply bN | apply bd | apply bA)); exact BK684.out⟩, ⟨by repeat (first | (with_reducible first | exact HB.out | apply below_alloc | apply pw_below_drewN | apply below_drew1 | refine below_set ?_ GE684.out) | exact HB.out)⟩⟩
          · replace c10 := Bool.eq_false_iff.mpr c10
            subst c10
            have H1 : (spec_ExtDot.j1 kj2 l0 l1 true) = some (r1, r2, r3) := by rw [if_neg (show ¬ (false = true) by decide)] at H; exact H
            clear H
            have H := H1
            clear H1
            have H' := Aside0.mk H
            clear H
            go_wp2_with (first | ((with_reducible refine gate_callee (f := 104) rfl ?_); refine goesL_ (some 18) rfl rfl Try.func104 (by kernel_rfl) rfl #[.slice A0 l0.length c0] rfl (by (try simp only [List.map_toArray, List.map_cons, List.map_nil]); first | done | rfl | (simp only [List.length_drop, List.length_take]; rfl)) ?_; (with_reducible refine (spec_l02List.calls kj2 _ _ l0 false _ ?side1 ?side2 A9.out).mono ?_); (case side1 => repeat (first | exact (Kd.C_below HR0.out HB.out) | (with_reducible refine Kd.C_alloc ?_ _) | (with_reducible refine Kd.C_drewN ?_ _) | (with_reducible refine Kd.C_drew ?_))); (case side2 => exact HC0.out); rintro e w14 ⟨rfl, hb⟩; refine ⟨_, rfl, ?_⟩; have n0_ := Aside0.mk (blk_below (g := gb684) (o := .cells #[.int .i64 0, .int .i64 0] 24 (0, 0)) (by (with_reducible repeat (first | apply bN | apply bd | apply bA)); exact BK684.out) hb); have n1_ := Aside0.mk (below_step (by repeat (first | (with_reducible first | exact HB.out | apply below_alloc | apply pw_below_drewN | apply below_drew1 | refine below_set ?_ GE684.out) | exact HB.out)) hb); clear BK684; clear HB; have BK684 := n0_; have HB := n1_; clear n0_ n1_; (try clear hb); (try clear hb2); (try clear hk); (try clear hi)))
            go_meet
            case rel => exact ⟨_, (true), (by first | rfl | (simp; done) | (simp [*]; done)), H', ⟨by have := HJ2.out; first | omega | exact Nat.le_refl _⟩, ⟨by (with_reducible repeat (first | apply bN | apply bd | apply bA)); exact BK684.out⟩, ⟨by repeat (first | (with_reducible first | exact HB.out | apply below_alloc | apply pw_below_drewN | apply below_drew1 | refine below_set ?_ GE684.out) | exact HB.out)⟩⟩
        case rest =>
          clear HC8
          try clear c1
          try clear p2
          try clear c5
          try clear c5b0
          try clear c5b1
          try clear c6
          try clear c10
          try clear hcz7_0
          try clear hcz7_1
          try clear hfz7_0
          try clear hfz7_1
          try clear p2
          obtain ⟨kq, x24_7, rfl, HA, HJ7, BK684, HB⟩ := hcut
          cases kq with
          | zero => exact absurd HA.out (by simp [spec_ExtDot.j1])
          | succ kj7 =>
            have H := HA.out
            clear HA
            simp only [spec_ExtDot.j1] at H
            by_cases c15 : x24_7 = true
            · subst c15
              have H1 : (some (0, 0, 1)) = some (r1, r2, r3) := by rw [if_pos rfl] at H; exact H
              clear H
              have H := H1
              clear H1
              simp only [Option.some.injEq, Prod.mk.injEq] at H
              obtain ⟨rfl, rfl, rfl⟩ := H
              have hcz16_0 : wc.cell? ⟨gb684, 0, none⟩ = some (.int .i64 0) := (blk_cell BK684.out 0).trans rfl
              have hcz16_1 : wc.cell? ⟨gb684, 1, none⟩ = some (.int .i64 0) := (blk_cell BK684.out 1).trans rfl
              have hfz16_0 := blk_frozen BK684.out 0
              have hfz16_1 := blk_frozen BK684.out 1
              go_wp2
              refine bodyPost_ret (results_ct rfl _ _ gb684 24 #[.int .i64 0, .int .i64 0] (0, 0) _ rfl (by (with_reducible repeat (first | apply bN | apply bd | apply bA)); refine blk_put (cs := #[.int .i64 0, .int .i64 0]) ?_ 1 _ rfl; (with_reducible repeat (first | apply bN | apply bd | apply bA)); refine blk_put (cs := #[.int .i64 0, .int .i64 0]) ?_ 0 _ rfl; (with_reducible repeat (first | apply bN | apply bd | apply bA)); exact BK684.out) Try.underlying24 rfl (by kernel_rfl)) rfl ?_
              exact ⟨by first | rfl | (simp [errW_none, errW_some] <;> rfl) | (simp [*, errW_none, errW_some] <;> rfl), by repeat (first | (with_reducible first | exact HB.out | apply below_alloc | apply pw_below_drewN | apply below_drew1 | refine below_set ?_ GE684.out) | exact HB.out)⟩
            · replace c15 := Bool.eq_false_iff.mpr c15
              subst c15
              have H1 : (if (l0.length : Int) = (l1.length : Int) then (spec_ExtDot.l0 kj7 l0 l1 0 0 0) else (some (0, 0, 8))) = some (r1, r2, r3) := by rw [if_neg (show ¬ (false = true) by decide)] at H; exact H
              clear H
              have H := H1
              clear H1
              by_cases c17 : (l0.length : Int) = (l1.length : Int)
              · rw [if_pos c17] at H
                have c17b0 : ((l0.length : Int) == (l1.length : Int)) = true := beq_iff_eq.mpr c17
                have c17b1 : ((l0.length : Int) != (l1.length : Int)) = false := bne_eq_false_iff_eq.mpr c17
                have c17b2 : (l0.length == l1.length) = true := by first | simpa using c17 | (simp at c17 ⊢; omega)
                clear c17
                have H' := Aside0.mk H
                clear H
                go_wp2_with (first | ((with_reducible refine gate_dst (N := 6) rfl ?_); (try (refine gate_guard (by rfl) ?_; dsimp only)); refine box_event ?hg (N := 6) ?hd (cs := #[.int .i64 0, .int .i64 0]) (t := 24) ?hr ?_; (case hd => rfl); (case hg => rfl); (case hr => first | (go_simp; done) | (go_simp; rfl)); intro gb687 hg w18 hbox hb; have n0_ := Aside0.mk (blk_below (g := gb684) (o := .cells #[.int .i64 0, .int .i64 0] 24 (0, 0)) (by (with_reducible repeat (first | apply bN | apply bd | apply bA)); exact BK684.out) hb); have n1_ := Aside0.mk (below_step (by repeat (first | (with_reducible first | exact HB.out | apply below_alloc | apply pw_below_drewN | apply below_drew1 | refine below_set ?_ GE684.out) | exact HB.out)) hb); have n2_ := Aside0.mk (hbox); have n3_ := Aside0.mk ((by rw [hg]; exact (below_size (by repeat (first | (with_reducible first | exact HB.out | apply below_alloc | apply pw_below_drewN | apply below_drew1 | refine below_set ?_ GE684.out) | exact HB.out))) : w.heap.size ≤ gb687)); have n4_ := Aside0.mk ((by rw [hg]; exact (below_size (by repeat (first | (with_reducible first | exact HB.out | apply below_alloc | apply pw_below_drewN | apply below_drew1 | refine below_set ?_ GE684.out) | exact HB.out))) : w.heap.size ≤ gb687)); have n5_ := Aside0.mk ((by rw [hg]; exact Nat.ne_of_lt (blk_lt (g := gb684) (o := .cells #[.int .i64 0, .int .i64 0] 24 (0, 0)) (by (with_reducible repeat (first | apply bN | apply bd | apply bA)); exact BK684.out)) : gb684 ≠ gb687)); have n6_ := Aside0.mk ((by rw [hg]; exact Nat.ne_of_gt (blk_lt (g := gb684) (o := .cells #[.int .i64 0, .int .i64 0] 24 (0, 0)) (by (with_reducible repeat (first | apply bN | apply bd | apply bA)); exact BK684.out)) : gb687 ≠ gb684)); clear BK684; clear HB; have BK684 := n0_; have HB := n1_; have BK687 := n2_; have GW687 := n3_; have GE687 := n4_; have NB684_687 := n5_; have NB687_684 := n6_; clear n0_ n1_ n2_ n3_ n4_ n5_ n6_; clear hb hbox hg; have hnb19 := NB687_684.out; have hnc19 := NB684_687.out; have hcz20_0 : w18.cell? ⟨gb687, 0, none⟩ = some (.int .i64 0) := (blk_cell BK687.out 0).trans rfl; have hcz20_1 : w18.cell? ⟨gb687, 1, none⟩ = some (.int .i64 0) := (blk_cell BK687.out 1).trans rfl; have hfz20_0 := blk_frozen BK687.out 0; have hfz20_1 := blk_frozen BK687.out 1))
                go_loopg [7] kj7 (fun kq v7 w' => ∃ (x7_3 : Int) (x688000_3 : Int) (x688001_3 : Int), v7 = .int .i64 x7_3 ∧ Aside0 (spec_ExtDot.l0 kq l0 l1 x7_3 x688000_3 x688001_3 = some (r1, r2, r3)) ∧ Aside0 (kq ≤ kj7) ∧ Aside0 (w'.heap[gb684]? = some (.cells #[.int .i64 0, .int .i64 0] 24 (0, 0))) ∧ Aside0 (w'.heap[gb687]? = some (.cells #[.int .i64 x688000_3, .int .i64 x688001_3] 24 (0, 0))) ∧ Aside0 (Below w.heap.size w w'))
                case atStart => exact ⟨(0), (0), (0), (by first | rfl | (simp; done) | (simp [*]; done)), H', ⟨Nat.le_refl _⟩, ⟨by (with_reducible repeat (first | apply bN | apply bd | apply bA)); refine blk_far ?_ NB684_687.out _; (with_reducible repeat (first | apply bN | apply bd | apply bA)); refine blk_far ?_ NB684_687.out _; (with_reducible repeat (first | apply bN | apply bd | apply bA)); exact BK684.out⟩, ⟨by (with_reducible repeat (first | apply bN | apply bd | apply bA)); refine blk_put (cs := #[.int .i64 0, .int .i64 0]) ?_ 1 _ rfl; (with_reducible repeat (first | apply bN | apply bd | apply bA)); refine blk_put (cs := #[.int .i64 0, .int .i64 0]) ?_ 0 _ rfl; (with_reducible repeat (first | apply bN | apply bd | apply bA)); exact BK687.out⟩, ⟨by repeat (first | (with_reducible first | exact HB.out | apply below_alloc | apply pw_below_drewN | apply below_drew1 | refine below_set ?_ GE684.out | refine below_set ?_ GE687.out) | exact HB.out)⟩⟩
                case round =>
                  clear H'
                  try clear c1
                  try clear p2
                  try clear c5
                  try clear c5b0
                  try clear c5b1
                  try clear c6
                  try clear c10
                  try clear c15
                  try clear c17
                  try clear c17b0
                  try clear c17b1
                  try clear c17b2
                  try clear c19
                  try clear hcz16_0
                  try clear hcz16_1
                  try clear hcz20_0
                  try clear hcz20_1
                  try clear hcz7_0
                  try clear hcz7_1
                  try clear hfz16_0
                  try clear hfz16_1
                  try clear hfz20_0
                  try clear hfz20_1
                  try clear hfz7_0
                  try clear hfz7_1
                  try clear p2
                  obtain ⟨x7_3, x688000_3, x688001_3, rfl, HA, HK3, BK684, BK687, HB⟩ := hrel
                  cases gk with
                  | zero => exact absurd HA.out (by simp [spec_ExtDot.l0])
                  | succ k3 =>
                    have H := HA.out
                    clear HA
                    simp only [spec_ExtDot.l0] at H
                    by_cases c21 : x7_3 < (l0.length : Int)
                    · rw [if_pos c21] at H
                      have c21b0 : decide (x7_3 < (l0.length : Int)) = true := decide_eq_true c21
                      clear c21
                      by_cases c22 : 0 ≤ x7_3
                      · rw [if_pos c22] at H
                        have c22b0 : decide (0 ≤ x7_3) = true := decide_eq_true c22
                        clear c22
                        by_cases c23 : x7_3 < (l1.length : Int)
                        · rw [if_pos c23] at H
                          have c23b0 : decide (x7_3 < (l1.length : Int)) = true := decide_eq_true c23
                          clear c23
                          replace H := Option.bind_eq_some_iff.mp H
                          obtain ⟨⟨t690, t691⟩, A240, H⟩ := H
                          replace H : ((spec_l02Add.f x688000_3 x688001_3 t690 t691).bind fun bt692 => (spec_ExtDot.l0 k3 l0 l1 (wrap64 (x7_3 + 1)) bt692.1 bt692.2)) = some (r1, r2, r3) := H
                          have A24 := Aside0.mk A240
                          clear A240
                          replace H := Option.bind_eq_some_iff.mp H
                          obtain ⟨⟨t692, t693⟩, A250, H⟩ := H
                          replace H : (spec_ExtDot.l0 k3 l0 l1 (wrap64 (x7_3 + 1)) t692 t693) = some (r1, r2, r3) := H
                          have A25 := Aside0.mk A250
                          clear A250
                          have H' := Aside0.mk H
                          clear H
                          try go_wp2
                          have n0_ := Aside0.mk (blk_drew BK684.out)
                          have n1_ := Aside0.mk (blk_drew BK687.out)
                          have n2_ := Aside0.mk (below_drew1 HB.out)
                          clear BK684
                          clear BK687
                          clear HB
                          have BK684 := n0_
                          have BK687 := n1_
                          have HB := n2_
                          clear n0_ n1_ n2_
                          have p688 : 0 ≤ (x7_3 : Int) := of_decide_eq_true (by first | (with_reducible assumption) | assumption)
                          have q688 : x7_3 < (l0.length : Int) := of_decide_eq_true (by first | (with_reducible assumption) | assumption)
                          obtain ⟨ad688, e688, hx688_0, hx688_1⟩ := at_T24 HR0.out x7_3 p688 q688
                          have hw688_1 := hx688_1
                          have hw688_0 := hx688_0
                          cases e688
                          replace hx688_0 := (HB.out.cell (World.block_lt_of_cell? w _ hx688_0)).trans hx688_0
                          replace hx688_1 := (HB.out.cell (World.block_lt_of_cell? w _ hx688_1)).trans hx688_1
                          replace p688 := eq_true p688
                          replace q688 := eq_true q688
                          have p689 : 0 ≤ (x7_3 : Int) := of_decide_eq_true (by first | (with_reducible assumption) | assumption)
                          have q689 : x7_3 < (l1.length : Int) := of_decide_eq_true (by first | (with_reducible assumption) | assumption)
                          obtain ⟨ad689, e689, hx689_0, hx689_1⟩ := at_T24 HR1.out x7_3 p689 q689
                          have hw689_1 := hx689_1
                          have hw689_0 := hx689_0
                          cases e689
                          replace hx689_0 := (HB.out.cell (World.block_lt_of_cell? w _ hx689_0)).trans hx689_0
                          replace hx689_1 := (HB.out.cell (World.block_lt_of_cell? w _ hx689_1)).trans hx689_1
                          replace p689 := eq_true p689
                          replace q689 := eq_true q689
                          refine start_ (n := 12) (S := fun w' => w'.cell? ⟨gb687, 0, none⟩ = some (.int .i64 x688000_3) ∧ w'.cell? ⟨gb687, 1, none⟩ = some (.int .i64 x688001_3) ∧ w'.cell? (ad688.add ((x7_3).toNat * 2)) = some (.int .i64 ((rd_T24 l0 x7_3).f0)) ∧ w'.cell? ⟨(ad688.add ((x7_3).toNat * 2)).block, (ad688.add ((x7_3).toNat * 2)).off + 1, none⟩ = some (.int .i64 ((rd_T24 l0 x7_3).f1)) ∧ w'.cell? (ad689.add ((x7_3).toNat * 2)) = some (.int .i64 ((rd_T24 l1 x7_3).f0)) ∧ w'.cell? ⟨(ad689.add ((x7_3).toNat * 2)).block, (ad689.add ((x7_3).toNat * 2)).off + 1, none⟩ = some (.int .i64 ((rd_T24 l1 x7_3).f1))) (ds := [11]) #[false, false, false, false, false, false, false, false, false, false, false, false] (by kernel_rfl) rfl rfl ⟨(blk_cell BK687.out 0).trans rfl, (blk_cell BK687.out 1).trans rfl, ((HB.out.cell (World.block_lt_of_cell? w _ hw688_0)).trans hw688_0), ((HB.out.cell (World.block_lt_of_cell? w _ hw688_1)).trans hw688_1), ((HB.out.cell (World.block_lt_of_cell? w _ hw689_0)).trans hw689_0), ((HB.out.cell (World.block_lt_of_cell? w _ hw689_1)).trans hw689_1)⟩ (fun hHeld => ?_); refine with_tabW spec_ExtDot.tab11 spec_ExtDot.bits11 (fun HT_ HW_ => ?_)
                          generalize wr.drew = w26 at BK684 BK687 HB hx688_0 hx688_1 hx689_0 hx689_1 hHeld ⊢
                          refine pure_ (i := 1) (N := some 40) (v := ?_) (a' := ?_) #[false, true, false, false, false, false, false, false, false, false, false, false] rfl rfl (any_of HT_.out (by kernel_rfl)) (fun _ _ _ h => h) (Or.inl ⟨by rfl, ?_⟩) ?_ ?_
                          rotate_left
                          · intro w'
                            go_simp
                            with_reducible rfl
                          rotate_left
                          · simp only [Act.put, List.setIfInBounds_toArray, List.set_cons_zero, List.set_cons_succ, i64_w, i32_w]
                            rfl
                          refine pure_ (i := 2) (N := some 41) (v := ?_) (a' := ?_) #[false, true, true, false, false, false, false, false, false, false, false, false] rfl rfl (any_of HT_.out (by kernel_rfl)) (fun _ _ _ h => h) (Or.inl ⟨by rfl, ?_⟩) ?_ ?_
                          rotate_left
                          · intro w'
                            go_simp
                            with_reducible rfl
                          rotate_left
                          · simp only [Act.put, List.setIfInBounds_toArray, List.set_cons_zero, List.set_cons_succ, i64_w, i32_w]
                            rfl
                          refine pure_ (i := 3) (N := some 42) (v := ?_) (a' := ?_) #[false, true, true, true, false, false, false, false, false, false, false, false] rfl rfl (any_of HT_.out (by kernel_rfl)) (fun _ _ _ h => h) (Or.inl ⟨by rfl, ?_⟩) ?_ ?_
                          rotate_left
                          · intro w'
                            go_simp
                            with_reducible rfl
                          rotate_left
                          · simp only [Act.put, List.setIfInBounds_toArray, List.set_cons_zero, List.set_cons_succ, i64_w, i32_w]
                            rfl
                          refine pure_ (i := 5) (N := some 44) (v := ?_) (a' := ?_) #[false, true, true, true, false, true, false, false, false, false, false, false] rfl rfl (any_of HT_.out (by kernel_rfl)) (fun _ _ _ h => h) (Or.inl ⟨by rfl, ?_⟩) ?_ ?_
                          rotate_left
                          · intro w'
                            go_simp
                            with_reducible rfl
                          rotate_left
                          · simp only [Act.put, List.setIfInBounds_toArray, List.set_cons_zero, List.set_cons_succ, i64_w, i32_w]
                            rfl
                          refine pure_ (i := 6) (N := some 45) (v := ?_) (a' := ?_) #[false, true, true, true, false, true, true, false, false, false, false, false] rfl rfl (any_of HT_.out (by kernel_rfl)) (fun _ _ _ h => h) (Or.inl ⟨by rfl, ?_⟩) ?_ ?_
                          rotate_left
                          · intro w'
                            go_simp
                            with_reducible rfl
                          rotate_left
                          · simp only [Act.put, List.setIfInBounds_toArray, List.set_cons_zero, List.set_cons_succ, i64_w, i32_w]
                            rfl
                          refine pure_ (i := 7) (N := some 46) (v := ?_) (a' := ?_) #[false, true, true, true, false, true, true, true, false, false, false, false] rfl rfl (any_of HT_.out (by kernel_rfl)) (fun _ _ _ h => h) (Or.inl ⟨by rfl, ?_⟩) ?_ ?_
                          rotate_left
                          · intro w'
                            go_simp
                            with_reducible rfl
                          rotate_left
                          · simp only [Act.put, List.setIfInBounds_toArray, List.set_cons_zero, List.set_cons_succ, i64_w, i32_w]
                            rfl
                          refine take_ (i := 0) (N := some 39) (v := ?_) (a' := ?_) #[true, true, true, true, false, true, true, true, false, false, false, false] rfl rfl (take_ofW HT_.out HW_.out (by kernel_rfl)) (fun _ _ _ h => h) (Or.inl ⟨by rfl, ?_⟩) hHeld ?_ ?_
                          rotate_left
                          · rintro w' ⟨s0, s1, s2, s3, s4, s5⟩
                            go_simp
                            with_reducible rfl
                          rotate_left
                          · simp only [Act.put, List.setIfInBounds_toArray, List.set_cons_zero, List.set_cons_succ, i64_w, i32_w]
                            rfl
                          refine take_ (i := 4) (N := some 43) (v := ?_) (a' := ?_) #[true, true, true, true, true, true, true, true, false, false, false, false] rfl rfl (take_ofW HT_.out HW_.out (by kernel_rfl)) (fun _ _ _ h => h) (Or.inl ⟨by rfl, ?_⟩) hHeld ?_ ?_
                          rotate_left
                          · rintro w' ⟨s0, s1, s2, s3, s4, s5⟩
                            go_simp
                            with_reducible rfl
                          rotate_left
                          · simp only [Act.put, List.setIfInBounds_toArray, List.set_cons_zero, List.set_cons_succ, i64_w, i32_w]
                            rfl
                          refine take_ (i := 8) (N := some 47) (v := ?_) (a' := ?_) #[true, true, true, true, true, true, true, true, true, false, false, false] rfl rfl (take_ofW HT_.out HW_.out (by kernel_rfl)) (fun _ _ _ h => h) (Or.inl ⟨by rfl, ?_⟩) hHeld ?_ ?_
                          rotate_left
                          · rintro w' ⟨s0, s1, s2, s3, s4, s5⟩
                            go_simp
                            with_reducible rfl
                          rotate_left
                          · simp only [Act.put, List.setIfInBounds_toArray, List.set_cons_zero, List.set_cons_succ, i64_w, i32_w]
                            rfl
                          refine one_ (i := 9) (N := some 48) #[true, true, true, true, true, true, true, true, true, true, false, false] rfl rfl (one_of HT_.out (by kernel_rfl)) (by decide) (fun K hK => ?_)
                          refine goes_ Try.func79 (by kernel_rfl) rfl #[.agg #[.int .i64 ((rd_T24 l0 x7_3).f0), .int .i64 ((rd_T24 l0 x7_3).f1)], .agg #[.int .i64 ((rd_T24 l1 x7_3).f0), .int .i64 ((rd_T24 l1 x7_3).f1)]] (by rfl) rfl rfl (by (try simp only [List.map_toArray, List.map_cons, List.map_nil]); first | done | rfl | (simp only [List.length_drop, List.length_take]; rfl)) ?_
                          with_reducible refine (spec_l02Mul.calls ((rd_T24 l0 x7_3).f0) ((rd_T24 l0 x7_3).f1) ((rd_T24 l1 x7_3).f0) ((rd_T24 l1 x7_3).f1) t690 t691 _ A24.out).mono ?_
                          rintro e w27 ⟨rfl, hb⟩
                          refine ⟨_, rfl, ?_⟩
                          have n0_ := Aside0.mk (blk_below (g := gb684) (o := .cells #[.int .i64 0, .int .i64 0] 24 (0, 0)) (by (with_reducible repeat (first | apply bN | apply bd | apply bA)); exact BK684.out) hb)
                          have n1_ := Aside0.mk (blk_below (g := gb687) (o := .cells #[.int .i64 x688000_3, .int .i64 x688001_3] 24 (0, 0)) (by (with_reducible repeat (first | apply bN | apply bd | apply bA)); exact BK687.out) hb)
                          have n2_ := Aside0.mk (below_step (by repeat (first | (with_reducible first | exact HB.out | apply below_alloc | apply pw_below_drewN | apply below_drew1 | refine below_set ?_ GE684.out | refine below_set ?_ GE687.out) | exact HB.out)) hb)
                          clear BK684
                          clear BK687
                          clear HB
                          have BK684 := n0_
                          have BK687 := n1_
                          have HB := n2_
                          clear n0_ n1_ n2_
                          (try clear hb)
                          (try clear hb2)
                          (try clear hk)
                          (try clear hi)
                          refine hK.out _ _ ⟨(blk_cell BK687.out 0).trans rfl, (blk_cell BK687.out 1).trans rfl, ((HB.out.cell (World.block_lt_of_cell? w _ hw688_0)).trans hw688_0), ((HB.out.cell (World.block_lt_of_cell? w _ hw688_1)).trans hw688_1), ((HB.out.cell (World.block_lt_of_cell? w _ hw689_0)).trans hw689_0), ((HB.out.cell (World.block_lt_of_cell? w _ hw689_1)).trans hw689_1)⟩ (fun hHeld => ?_)
                          clear hK K
                          refine norm_ (a' := ?_) ?_ ?_
                          rotate_left
                          · show Act.put _ (some 48) _ = _
                            simp only [Act.put, List.setIfInBounds_toArray, List.set_cons_zero, List.set_cons_succ, i64_w, i32_w]
                            rfl
                          refine one_ (i := 10) (N := some 49) #[true, true, true, true, true, true, true, true, true, true, true, false] rfl rfl (one_of HT_.out (by kernel_rfl)) (by decide) (fun K hK => ?_)
                          refine goes_ Try.func74 (by kernel_rfl) rfl #[.agg #[.int .i64 x688000_3, .int .i64 x688001_3], .agg #[.int .i64 t690, .int .i64 t691]] (by rfl) rfl rfl (by (try simp only [List.map_toArray, List.map_cons, List.map_nil]); first | done | rfl | (simp only [List.length_drop, List.length_take]; rfl)) ?_
                          with_reducible refine (spec_l02Add.calls x688000_3 x688001_3 t690 t691 t692 t693 _ A25.out).mono ?_
                          rintro e w28 ⟨rfl, hb⟩
                          refine ⟨_, rfl, ?_⟩
                          have n0_ := Aside0.mk (blk_below (g := gb684) (o := .cells #[.int .i64 0, .int .i64 0] 24 (0, 0)) (by (with_reducible repeat (first | apply bN | apply bd | apply bA)); exact BK684.out) hb)
                          have n1_ := Aside0.mk (blk_below (g := gb687) (o := .cells #[.int .i64 x688000_3, .int .i64 x688001_3] 24 (0, 0)) (by (with_reducible repeat (first | apply bN | apply bd | apply bA)); exact BK687.out) hb)
                          have n2_ := Aside0.mk (below_step (by repeat (first | (with_reducible first | exact HB.out | apply below_alloc | apply pw_below_drewN | apply below_drew1 | refine below_set ?_ GE684.out | refine below_set ?_ GE687.out) | exact HB.out)) hb)
                          clear BK684
                          clear BK687
                          clear HB
                          have BK684 := n0_
                          have BK687 := n1_
                          have HB := n2_
                          clear n0_ n1_ n2_
                          (try clear hb)
                          (try clear hb2)
                          (try clear hk)
                          (try clear hi)
                          refine hK.out _ _ ⟨(blk_cell BK687.out 0).trans rfl, (blk_cell BK687.out 1).trans rfl, ((HB.out.cell (World.block_lt_of_cell? w _ hw688_0)).trans hw688_0), ((HB.out.cell (World.block_lt_of_cell? w _ hw688_1)).trans hw688_1), ((HB.out.cell (World.block_lt_of_cell? w _ hw689_0)).trans hw689_0), ((HB.out.cell (World.block_lt_of_cell? w _ hw689_1)).trans hw689_1)⟩ (fun hHeld => ?_)
                          clear hK K
                          refine norm_ (a' := ?_) ?_ ?_
                          rotate_left
                          · show Act.put _ (some 49) _ = _
                            simp only [Act.put, List.setIfInBounds_toArray, List.set_cons_zero, List.set_cons_succ, i64_w, i32_w]
                            rfl
                          refine last_ (i := 11) (N := none) #[true, true, true, true, true, true, true, true, true, true, true, true] rfl rfl (one_of HT_.out (by kernel_rfl)) (by decide) (fun K hK => ?_)
                          have hs29 : w28.cell? ⟨gb687, 0, none⟩ = some (.int .i64 x688000_3) := (blk_cell BK687.out 0).trans rfl
                          have hfs29 := blk_frozen BK687.out 0
                          have hns29_0 := NB684_687.out
                          have hms29_0 := NB687_684.out
                          have hs30 : w28.cell? ⟨gb687, 1, none⟩ = some (.int .i64 x688001_3) := (blk_cell BK687.out 1).trans rfl
                          have hfs30 := blk_frozen BK687.out 1
                          have hns30_0 := NB684_687.out
                          have hms30_0 := NB687_684.out
                          refine skip_ (w1 := ?_) (by rfl) rfl ?_ ?_
                          rotate_left
                          · go_simp
                            rfl
                          refine hK.out _ _ ?_
                          clear hK K
                          refine done_ (done_of HT_.out (by kernel_rfl)) ?_
                          try go_wp2
                          go_roundg k3
                          case measure => have := HJ2.out; have := HJ7.out; have := HK3.out; omega
                          case rel => exact ⟨(wrap64 (x7_3 + 1)), (t692), (t693), (by first | rfl | (simp; done) | (simp [*]; done)), H', ⟨by have := HJ2.out; have := HJ7.out; have := HK3.out; omega⟩, ⟨by (with_reducible repeat (first | apply bN | apply bd | apply bA)); refine blk_far ?_ NB684_687.out _; (with_reducible repeat (first | apply bN | apply bd | apply bA)); refine blk_far ?_ NB684_687.out _; (with_reducible repeat (first | apply bN | apply bd | apply bA)); exact BK684.out⟩, ⟨by (with_reducible repeat (first | apply bN | apply bd | apply bA)); refine blk_put (cs := #[.int .i64 t692, .int .i64 x688001_3]) ?_ 1 _ rfl; (with_reducible repeat (first | apply bN | apply bd | apply bA)); refine blk_put (cs := #[.int .i64 x688000_3, .int .i64 x688001_3]) ?_ 0 _ rfl; (with_reducible repeat (first | apply bN | apply bd | apply bA)); exact BK687.out⟩, ⟨by repeat (first | (with_reducible first | exact HB.out | apply below_alloc | apply pw_below_drewN | apply below_drew1 | refine below_set ?_ GE684.out | refine below_set ?_ GE687.out) | exact HB.out)⟩⟩
                        · rw [if_neg c23] at H
                          exact absurd H (by simp)
                      · rw [if_neg c22] at H
                        exact absurd H (by simp)
                    · rw [if_neg c21] at H
                      have c21b0 : decide (x7_3 < (l0.length : Int)) = false := decide_eq_false c21
                      clear c21
                      simp only [Option.some.injEq, Prod.mk.injEq] at H
                      obtain ⟨rfl, rfl, rfl⟩ := H
                      have hnb31 := NB687_684.out
                      have hnc31 := NB684_687.out
                      have hcz32_0 : wr.cell? ⟨gb687, 0, none⟩ = some (.int .i64 x688000_3) := (blk_cell BK687.out 0).trans rfl
                      have hcz32_1 : wr.cell? ⟨gb687, 1, none⟩ = some (.int .i64 x688001_3) := (blk_cell BK687.out 1).trans rfl
                      have hfz32_0 := blk_frozen BK687.out 0
                      have hfz32_1 := blk_frozen BK687.out 1
                      have hcz33_0 : wr.cell? ⟨gb684, 0, none⟩ = some (.int .i64 0) := (blk_cell BK684.out 0).trans rfl
                      have hcz33_1 : wr.cell? ⟨gb684, 1, none⟩ = some (.int .i64 0) := (blk_cell BK684.out 1).trans rfl
                      have hfz33_0 := blk_frozen BK684.out 0
                      have hfz33_1 := blk_frozen BK684.out 1
                      go_wp2
                      refine bodyPost_ret (results_ct rfl _ _ gb684 24 #[.int .i64 x688000_3, .int .i64 x688001_3] (0, 0) _ rfl (by (with_reducible repeat (first | apply bN | apply bd | apply bA)); refine blk_put (cs := #[.int .i64 x688000_3, .int .i64 0]) ?_ 1 _ rfl; (with_reducible repeat (first | apply bN | apply bd | apply bA)); refine blk_put (cs := #[.int .i64 0, .int .i64 0]) ?_ 0 _ rfl; (with_reducible repeat (first | apply bN | apply bd | apply bA)); exact BK684.out) Try.underlying24 rfl (by kernel_rfl)) rfl ?_
                      exact ⟨by first | rfl | (simp [errW_none, errW_some] <;> rfl) | (simp [*, errW_none, errW_some] <;> rfl), by repeat (first | (with_reducible first | exact HB.out | apply below_alloc | apply pw_below_drewN | apply below_drew1 | refine below_set ?_ GE684.out | refine below_set ?_ GE687.out) | exact HB.out)⟩
              · rw [if_neg c17] at H
                have c17b0 : ((l0.length : Int) == (l1.length : Int)) = false := beq_eq_false_iff_ne.mpr c17
                have c17b1 : ((l0.length : Int) != (l1.length : Int)) = true := bne_iff_ne.mpr c17
                have c17b2 : (l0.length == l1.length) = false := by first | simpa using c17 | (simp at c17 ⊢; omega)
                simp only [Option.some.injEq, Prod.mk.injEq] at H
                obtain ⟨rfl, rfl, rfl⟩ := H
                have hcz34_0 : wc.cell? ⟨gb684, 0, none⟩ = some (.int .i64 0) := (blk_cell BK684.out 0).trans rfl
                have hcz34_1 : wc.cell? ⟨gb684, 1, none⟩ = some (.int .i64 0) := (blk_cell BK684.out 1).trans rfl
                have hfz34_0 := blk_frozen BK684.out 0
                have hfz34_1 := blk_frozen BK684.out 1
                go_wp2
                refine bodyPost_ret (results_ct rfl _ _ gb684 24 #[.int .i64 0, .int .i64 0] (0, 0) _ rfl (by (with_reducible repeat (first | apply bN | apply bd | apply bA)); refine blk_put (cs := #[.int .i64 0, .int .i64 0]) ?_ 1 _ rfl; (with_reducible repeat (first | apply bN | apply bd | apply bA)); refine blk_put (cs := #[.int .i64 0, .int .i64 0]) ?_ 0 _ rfl; (with_reducible repeat (first | apply bN | apply bd | apply bA)); exact BK684.out) Try.underlying24 rfl (by kernel_rfl)) rfl ?_
                exact ⟨by first | rfl | (simp [errW_none, errW_some] <;> rfl) | (simp [*, errW_none, errW_some] <;> rfl), by repeat (first | (with_reducible first | exact HB.out | apply below_alloc | apply pw_below_drewN | apply below_drew1 | refine below_set ?_ GE684.out) | exact HB.out)⟩

/-! ### laws_FnExactExtDot: function 15 -/
def laws_FnExactExtDot.j0 : Nat → List (S23) → List (S23) → List (S24) → List (S24) → Bool → Option (Bool)
  | 0, _, _, _, _, _ => none
  | k + 1, x0, x1, x8, x9, x48 => if x48 = true then (none) else ((laws_toExtS.f k x0).bind fun t732 => ((laws_eqExtS.f k x8 t732).bind fun t735 => (if t735 = true then ((laws_toExtS.f k x1).bind fun t736 => ((laws_eqExtS.f k x9 t736).bind fun t739 => (if t739 = true then (some true) else (none)))) else (none))))
def laws_FnExactExtDot.f (k : Nat) (l0 : List (S23)) (l1 : List (S23)) : Option (Bool) := (laws_szExtS.f l0 1048576).bind fun t709 => (if t709 < 0 then (some true) else ((laws_szExtS.f l1 t709).bind fun t710 => (if t710 < 0 then (some true) else ((laws_toExtS.f k l0).bind fun t711 => ((laws_toExtS.f k l1).bind fun t714 => ((spec_ExtDot.f k t711 t714).bind fun bt717 => ((laws_toExtS.f k l0).bind fun t721 => ((laws_toExtS.f k l1).bind fun t724 => ((impl_ExtDot.f k t721 t724).bind fun bt727 => ((laws_eqExt.f bt727.1 bt727.2.1 bt717.1 bt717.2.1).bind fun t731 => (if t731 = true then (laws_FnExactExtDot.j0 k l0 l1 t721 t724 (bt727.2.2 != bt717.2.2)) else (laws_FnExactExtDot.j0 k l0 l1 t721 t724 true))))))))))))
theorem laws_FnExactExtDot.mono_l : ∀ k, (∀ y0 y1 y2 y3 y4, LeO (laws_FnExactExtDot.j0 k y0 y1 y2 y3 y4) (laws_FnExactExtDot.j0 (k + 1) y0 y1 y2 y3 y4))
  | 0 => fun _ _ _ _ _ r h => by simp [laws_FnExactExtDot.j0] at h
  | k + 1 => by
    have ih0 := laws_FnExactExtDot.mono_l k
    · intro y0 y1 y2 y3 y4
      unfold laws_FnExactExtDot.j0
      repeat' first
      | (with_reducible exact ih0 _ _ _ _ _)
      | (with_reducible exact impl_ExtDot.mono _ _ _)
      | (with_reducible exact laws_eqExtS.mono _ _ _)
      | (with_reducible exact laws_toExtS.mono _ _)
      | (with_reducible exact spec_ExtDot.mono _ _ _)
      | (with_reducible exact LeO.refl _)
      | (with_reducible exact LeO.none _)
      | (with_reducible refine LeO.ite ?_ ?_)
      | (with_reducible refine LeO.bind ?_ (fun _ => ?_))
      | exact ih0 _ _ _ _ _
      | exact impl_ExtDot.mono _ _ _
      | exact laws_eqExtS.mono _ _ _
      | exact laws_toExtS.mono _ _
      | exact spec_ExtDot.mono _ _ _
      | exact LeO.none _
      | refine LeO.ite ?_ ?_
      | refine LeO.bind ?_ (fun _ => ?_)
theorem laws_FnExactExtDot.mono : ∀ a0 a1 k, LeO (laws_FnExactExtDot.f k a0 a1) (laws_FnExactExtDot.f (k + 1) a0 a1) := by
  intro a0 a1 k
  have ih0 := laws_FnExactExtDot.mono_l k
  unfold laws_FnExactExtDot.f
  repeat' first
      | (with_reducible exact ih0 _ _ _ _ _)
      | (with_reducible exact impl_ExtDot.mono _ _ _)
      | (with_reducible exact laws_eqExtS.mono _ _ _)
      | (with_reducible exact laws_toExtS.mono _ _)
      | (with_reducible exact spec_ExtDot.mono _ _ _)
      | (with_reducible exact LeO.refl _)
      | (with_reducible exact LeO.none _)
      | (with_reducible refine LeO.ite ?_ ?_)
      | (with_reducible refine LeO.bind ?_ (fun _ => ?_))
      | exact ih0 _ _ _ _ _
      | exact impl_ExtDot.mono _ _ _
      | exact laws_eqExtS.mono _ _ _
      | exact laws_toExtS.mono _ _
      | exact spec_ExtDot.mono _ _ _
      | exact LeO.none _
      | refine LeO.ite ?_ ?_
      | refine LeO.bind ?_ (fun _ => ?_)
set_option maxHeartbeats 8000000 in
set_option maxRecDepth 100000 in
theorem laws_FnExactExtDot.calls (k : Nat) (A0 : Option Addr) (c0 : Nat) (l0 : List (S23)) (A1 : Option Addr) (c1 : Nat) (l1 : List (S23)) (r : Bool) (w : World) (hr0 : Kd.C k23 w A0 l0.length l0) (hc0 : l0.length ≤ c0) (hr1 : Kd.C k23 w A1 l1.length l1) (hc1 : l1.length ≤ c1) (h : laws_FnExactExtDot.f k l0 l1 = some r) :
    Calls Try.prog 15 #[.slice A0 l0.length c0, .slice A1 l1.length c1] w fun e w' => e = .returned (.bool r) ∧ Below w.heap.size w w' := by
  have hu24 := Try.underlying24
  have HR0 := Aside0.mk hr0
  have HC0 := Aside0.mk hc0
  clear hr0 hc0
  have HR1 := Aside0.mk hr1
  have HC1 := Aside0.mk hc1
  clear hr1 hc1
  have HB := Aside0.mk (Below.refl w.heap.size w)
  have H : ((laws_szExtS.f l0 1048576).bind fun t709 => (if t709 < 0 then (some true) else ((laws_szExtS.f l1 t709).bind fun t710 => (if t710 < 0 then (some true) else ((laws_toExtS.f k l0).bind fun t711 => ((laws_toExtS.f k l1).bind fun t714 => ((spec_ExtDot.f k t711 t714).bind fun bt717 => ((laws_toExtS.f k l0).bind fun t721 => ((laws_toExtS.f k l1).bind fun t724 => ((impl_ExtDot.f k t721 t724).bind fun bt727 => ((laws_eqExt.f bt727.1 bt727.2.1 bt717.1 bt717.2.1).bind fun t731 => (if t731 = true then (laws_FnExactExtDot.j0 k l0 l1 t721 t724 (bt727.2.2 != bt717.2.2)) else (laws_FnExactExtDot.j0 k l0 l1 t721 t724 true))))))))))))) = some r := h
  clear h
  replace H := Option.bind_eq_some_iff.mp H
  obtain ⟨t709, A30, H⟩ := H
  replace H : (if t709 < 0 then (some true) else ((laws_szExtS.f l1 t709).bind fun t710 => (if t710 < 0 then (some true) else ((laws_toExtS.f k l0).bind fun t711 => ((laws_toExtS.f k l1).bind fun t714 => ((spec_ExtDot.f k t711 t714).bind fun bt717 => ((laws_toExtS.f k l0).bind fun t721 => ((laws_toExtS.f k l1).bind fun t724 => ((impl_ExtDot.f k t721 t724).bind fun bt727 => ((laws_eqExt.f bt727.1 bt727.2.1 bt717.1 bt717.2.1).bind fun t731 => (if t731 = true then (laws_FnExactExtDot.j0 k l0 l1 t721 t724 (bt727.2.2 != bt717.2.2)) else (laws_FnExactExtDot.j0 k l0 l1 t721 t724 true)))))))))))) = some r := H
  have A3 := Aside0.mk A30
  clear A30
  by_cases c4 : t709 < 0
  · rw [if_pos c4] at H
    have c4b0 : decide (t709 < 0) = true := decide_eq_true c4
    clear c4
    obtain rfl := Option.some.inj H
    go_enter Try.func15, Try.ntmps15
    go_wp2_with (first | ((with_reducible refine gate_callee (f := 57) rfl ?_); refine goesL_ (some 14) rfl rfl Try.func57 (by kernel_rfl) rfl #[.slice A0 l0.length c0, .int .i64 1048576] rfl (by (try simp only [List.map_toArray, List.map_cons, List.map_nil]); first | done | rfl | (simp only [List.length_drop, List.length_take]; rfl)) ?_; (with_reducible refine (laws_szExtS.calls _ _ l0 1048576 t709 _ ?side1 ?side2 A3.out).mono ?_); (case side1 => repeat (first | exact HR0.out | (with_reducible refine Kd.C_alloc ?_ _) | (with_reducible refine Kd.C_drewN ?_ _) | (with_reducible refine Kd.C_drew ?_))); (case side2 => exact HC0.out); rintro e w' ⟨rfl, ⟨nd, rfl⟩⟩; refine ⟨_, rfl, ?_⟩))
    go_ret
    exact ⟨by first | rfl | (simp [errW_none, errW_some] <;> rfl) | (simp [*, errW_none, errW_some] <;> rfl), by repeat (first | (with_reducible first | exact HB.out | apply below_alloc | apply pw_below_drewN | apply below_drew1) | exact HB.out)⟩
  · rw [if_neg c4] at H
    have c4b0 : decide (t709 < 0) = false := decide_eq_false c4
    clear c4
    replace H := Option.bind_eq_some_iff.mp H
    obtain ⟨t710, A50, H⟩ := H
    replace H : (if t710 < 0 then (some true) else ((laws_toExtS.f k l0).bind fun t711 => ((laws_toExtS.f k l1).bind fun t714 => ((spec_ExtDot.f k t711 t714).bind fun bt717 => ((laws_toExtS.f k l0).bind fun t721 => ((laws_toExtS.f k l1).bind fun t724 => ((impl_ExtDot.f k t721 t724).bind fun bt727 => ((laws_eqExt.f bt727.1 bt727.2.1 bt717.1 bt717.2.1).bind fun t731 => (if t731 = true then (laws_FnExactExtDot.j0 k l0 l1 t721 t724 (bt727.2.2 != bt717.2.2)) else (laws_FnExactExtDot.j0 k l0 l1 t721 t724 true)))))))))) = some r := H
    have A5 := Aside0.mk A50
    clear A50
    by_cases c6 : t710 < 0
    · rw [if_pos c6] at H
      have c6b0 : decide (t710 < 0) = true := decide_eq_true c6
      clear c6
      obtain rfl := Option.some.inj H
      go_enter Try.func15, Try.ntmps15
      go_wp2_with (first | ((with_reducible refine gate_callee (f := 57) rfl ?_); refine goesL_ (some 14) rfl rfl Try.func57 (by kernel_rfl) rfl #[.slice A0 l0.length c0, .int .i64 1048576] rfl (by (try simp only [List.map_toArray, List.map_cons, List.map_nil]); first | done | rfl | (simp only [List.length_drop, List.length_take]; rfl)) ?_; (with_reducible refine (laws_szExtS.calls _ _ l0 1048576 t709 _ ?side1 ?side2 A3.out).mono ?_); (case side1 => repeat (first | exact HR0.out | (with_reducible refine Kd.C_alloc ?_ _) | (with_reducible refine Kd.C_drewN ?_ _) | (with_reducible refine Kd.C_drew ?_))); (case side2 => exact HC0.out); rintro e w' ⟨rfl, ⟨nd, rfl⟩⟩; refine ⟨_, rfl, ?_⟩) | ((with_reducible refine gate_callee (f := 57) rfl ?_); refine goesL_ (some 19) rfl rfl Try.func57 (by kernel_rfl) rfl #[.slice A1 l1.length c1, .int .i64 t709] rfl (by (try simp only [List.map_toArray, List.map_cons, List.map_nil]); first | done | rfl | (simp only [List.length_drop, List.length_take]; rfl)) ?_; (with_reducible refine (laws_szExtS.calls _ _ l1 t709 t710 _ ?side1 ?side2 A5.out).mono ?_); (case side1 => repeat (first | exact HR1.out | (with_reducible refine Kd.C_alloc ?_ _) | (with_reducible refine Kd.C_drewN ?_ _) | (with_reducible refine Kd.C_drew ?_))); (case side2 => exact HC1.out); rintro e w' ⟨rfl, ⟨nd, rfl⟩⟩; refine ⟨_, rfl, ?_⟩))
      go_ret
      exact ⟨by first | rfl | (simp [errW_none, errW_some] <;> rfl) | (simp [*, errW_none, errW_some] <;> rfl), by repeat (first | (with_reducible first | exact HB.out | apply below_alloc | apply pw_below_drewN | apply below_drew1) | exact HB.out)⟩
    · rw [if_neg c6] at H
      have c6b0 : decide (t710 < 0) = false := decide_eq_false c6
      clear c6
      replace H := Option.bind_eq_some_iff.mp H
      obtain ⟨t711, A70, H⟩ := H
      replace H : ((laws_toExtS.f k l1).bind fun t714 => ((spec_ExtDot.f k t711 t714).bind fun bt717 => ((laws_toExtS.f k l0).bind fun t721 => ((laws_toExtS.f k l1).bind fun t724 => ((impl_ExtDot.f k t721 t724).bind fun bt727 => ((laws_eqExt.f bt727.1 bt727.2.1 bt717.1 bt717.2.1).bind fun t731 => (if t731 = true then (laws_FnExactExtDot.j0 k l0 l1 t721 t724 (bt727.2.2 != bt717.2.2)) else (laws_FnExactExtDot.j0 k l0 l1 t721 t724 true)))))))) = some r := H
      have A7 := Aside0.mk A70
      clear A70
      replace H := Option.bind_eq_some_iff.mp H
      obtain ⟨t714, A80, H⟩ := H
      replace H : ((spec_ExtDot.f k t711 t714).bind fun bt717 => ((laws_toExtS.f k l0).bind fun t721 => ((laws_toExtS.f k l1).bind fun t724 => ((impl_ExtDot.f k t721 t724).bind fun bt727 => ((laws_eqExt.f bt727.1 bt727.2.1 bt717.1 bt717.2.1).bind fun t731 => (if t731 = true then (laws_FnExactExtDot.j0 k l0 l1 t721 t724 (bt727.2.2 != bt717.2.2)) else (laws_FnExactExtDot.j0 k l0 l1 t721 t724 true))))))) = some r := H
      have A8 := Aside0.mk A80
      clear A80
      replace H := Option.bind_eq_some_iff.mp H
      obtain ⟨⟨t717, t718, t719⟩, A90, H⟩ := H
      replace H : ((laws_toExtS.f k l0).bind fun t721 => ((laws_toExtS.f k l1).bind fun t724 => ((impl_ExtDot.f k t721 t724).bind fun bt727 => ((laws_eqExt.f bt727.1 bt727.2.1 t717 t718).bind fun t731 => (if t731 = true then (laws_FnExactExtDot.j0 k l0 l1 t721 t724 (bt727.2.2 != t719)) else (laws_FnExactExtDot.j0 k l0 l1 t721 t724 true)))))) = some r := H
      have A9 := Aside0.mk A90
      clear A90
      replace H := Option.bind_eq_some_iff.mp H
      obtain ⟨t721, A100, H⟩ := H
      replace H : ((laws_toExtS.f k l1).bind fun t724 => ((impl_ExtDot.f k t721 t724).bind fun bt727 => ((laws_eqExt.f bt727.1 bt727.2.1 t717 t718).bind fun t731 => (if t731 = true then (laws_FnExactExtDot.j0 k l0 l1 t721 t724 (bt727.2.2 != t719)) else (laws_FnExactExtDot.j0 k l0 l1 t721 t724 true))))) = some r := H
      have A10 := Aside0.mk A100
      clear A100
      replace H := Option.bind_eq_some_iff.mp H
      obtain ⟨t724, A110, H⟩ := H
      replace H : ((impl_ExtDot.f k t721 t724).bind fun bt727 => ((laws_eqExt.f bt727.1 bt727.2.1 t717 t718).bind fun t731 => (if t731 = true then (laws_FnExactExtDot.j0 k l0 l1 t721 t724 (bt727.2.2 != t719)) else (laws_FnExactExtDot.j0 k l0 l1 t721 t724 true)))) = some r := H
      have A11 := Aside0.mk A110
      clear A110
      replace H := Option.bind_eq_some_iff.mp H
      obtain ⟨⟨t727, t728, t729⟩, A120, H⟩ := H
      replace H : ((laws_eqExt.f t727 t728 t717 t718).bind fun t731 => (if t731 = true then (laws_FnExactExtDot.j0 k l0 l1 t721 t724 (t729 != t719)) else (laws_FnExactExtDot.j0 k l0 l1 t721 t724 true))) = some r := H
      have A12 := Aside0.mk A120
      clear A120
      have HC13 := Aside0.mk H
      clear H
      go_enter Try.func15, Try.ntmps15
      go_upto_region 12 with (first | ((with_reducible refine gate_callee (f := 57) rfl ?_); refine goesL_ (some 14) rfl rfl Try.func57 (by kernel_rfl) rfl #[.slice A0 l0.length c0, .int .i64 1048576] rfl (by (try simp only [List.map_toArray, List.map_cons, List.map_nil]); first | done | rfl | (simp only [List.length_drop, List.length_take]; rfl)) ?_; (with_reducible refine (laws_szExtS.calls _ _ l0 1048576 t709 _ ?side1 ?side2 A3.out).mono ?_); (case side1 => repeat (first | exact HR0.out | (with_reducible refine Kd.C_alloc ?_ _) | (with_reducible refine Kd.C_drewN ?_ _) | (with_reducible refine Kd.C_drew ?_))); (case side2 => exact HC0.out); rintro e w' ⟨rfl, ⟨nd, rfl⟩⟩; refine ⟨_, rfl, ?_⟩) | ((with_reducible refine gate_callee (f := 57) rfl ?_); refine goesL_ (some 19) rfl rfl Try.func57 (by kernel_rfl) rfl #[.slice A1 l1.length c1, .int .i64 t709] rfl (by (try simp only [List.map_toArray, List.map_cons, List.map_nil]); first | done | rfl | (simp only [List.length_drop, List.length_take]; rfl)) ?_; (with_reducible refine (laws_szExtS.calls _ _ l1 t709 t710 _ ?side1 ?side2 A5.out).mono ?_); (case side1 => repeat (first | exact HR1.out | (with_reducible refine Kd.C_alloc ?_ _) | (with_reducible refine Kd.C_drewN ?_ _) | (with_reducible refine Kd.C_drew ?_))); (case side2 => exact HC1.out); rintro e w' ⟨rfl, ⟨nd, rfl⟩⟩; refine ⟨_, rfl, ?_⟩) | ((with_reducible refine gate_callee (f := 59) rfl ?_); refine goesL_ (some 24) rfl rfl Try.func59 (by kernel_rfl) rfl #[.slice A0 l0.length c0] rfl (by (try simp only [List.map_toArray, List.map_cons, List.map_nil]); first | done | rfl | (simp only [List.length_drop, List.length_take]; rfl)) ?_; (with_reducible refine (laws_toExtS.calls k _ _ l0 t711 _ ?side1 ?side2 A7.out).mono ?_); (case side1 => repeat (first | exact HR0.out | (with_reducible refine Kd.C_alloc ?_ _) | (with_reducible refine Kd.C_drewN ?_ _) | (with_reducible refine Kd.C_drew ?_))); (case side2 => exact HC0.out); rintro e w14 ⟨v712, rfl, ho0, hb⟩; refine ⟨_, rfl, ?_⟩; have n0_ := Aside0.mk (Kd.R_lower ho0 (below_size (by repeat (first | (with_reducible first | exact HB.out | apply below_alloc | apply pw_below_drewN | apply below_drew1) | exact HB.out)))); have n1_ := Aside0.mk (below_step (by repeat (first | (with_reducible first | exact HB.out | apply below_alloc | apply pw_below_drewN | apply below_drew1) | exact HB.out)) hb); clear HB; have HO713 := n0_; have HB := n1_; clear n0_ n1_; (try clear hb); (try clear hb2); (try clear hk); (try clear hi); (try clear ho0)) | ((with_reducible refine gate_callee (f := 59) rfl ?_); refine goesL_ (some 26) rfl rfl Try.func59 (by kernel_rfl) rfl #[.slice A1 l1.length c1] rfl (by (try simp only [List.map_toArray, List.map_cons, List.map_nil]); first | done | rfl | (simp only [List.length_drop, List.length_take]; rfl)) ?_; (with_reducible refine (laws_toExtS.calls k _ _ l1 t714 _ ?side1 ?side2 A8.out).mono ?_); (case side1 => repeat (first | exact (Kd.C_below HR1.out HB.out) | (with_reducible refine Kd.C_alloc ?_ _) | (with_reducible refine Kd.C_drewN ?_ _) | (with_reducible refine Kd.C_drew ?_))); (case side2 => exact HC1.out); rintro e w15 ⟨v715, rfl, ho0, hb⟩; refine ⟨_, rfl, ?_⟩; have n0_ := Aside0.mk (Kd.R_elder' (by (with_reducible repeat (first | apply Kd.R_alloc | apply Kd.R_drewN | apply Kd.R_drew)); exact HO713.out) (Kd.R_base ho0) hb); have n1_ := Aside0.mk (Kd.R_lower (Kd.R_new' ho0 (Kd.R_lt (by (with_reducible repeat (first | apply Kd.R_alloc | apply Kd.R_drewN | apply Kd.R_drew)); exact HO713.out))) (below_size (by repeat (first | (with_reducible first | exact HB.out | apply below_alloc | apply pw_below_drewN | apply below_drew1) | exact HB.out)))); have n2_ := Aside0.mk (below_step (by repeat (first | (with_reducible first | exact HB.out | apply below_alloc | apply pw_below_drewN | apply below_drew1) | exact HB.out)) hb); clear HO713; clear HB; have HO713 := n0_; have HO716 := n1_; have HB := n2_; clear n0_ n1_ n2_; (try clear hb); (try clear hb2); (try clear hk); (try clear hi); (try clear ho0); obtain ⟨Ao16, co16, eo16⟩ := Kd.R_slice HO713.out; subst eo16; obtain ⟨Ao17, co17, eo17⟩ := Kd.R_slice HO716.out; subst eo17) | ((with_reducible refine gate_callee (f := 58) rfl ?_); refine goesL_ (some 27) rfl rfl Try.func58 (by kernel_rfl) rfl #[.slice Ao16 t711.length co16, .slice Ao17 t714.length co17] rfl (by (try simp only [List.map_toArray, List.map_cons, List.map_nil]); first | done | rfl | (simp only [List.length_drop, List.length_take]; rfl)) ?_; (with_reducible refine (spec_ExtDot.calls k _ _ t711 _ _ t714 t717 t718 t719 _ ?side1 ?side2 ?side3 ?side4 A9.out).mono ?_); (case side1 => repeat (first | exact (Kd.R_reads' HO713.out).2.2 | (with_reducible refine Kd.C_alloc ?_ _) | (with_reducible refine Kd.C_drewN ?_ _) | (with_reducible refine Kd.C_drew ?_))); (case side2 => exact (Kd.R_reads' HO713.out).2.1); (case side3 => repeat (first | exact (Kd.R_reads' HO716.out).2.2 | (with_reducible refine Kd.C_alloc ?_ _) | (with_reducible refine Kd.C_drewN ?_ _) | (with_reducible refine Kd.C_drew ?_))); (case side4 => exact (Kd.R_reads' HO716.out).2.1); rintro e w18 ⟨rfl, hb⟩; refine ⟨_, rfl, ?_⟩; have n0_ := Aside0.mk (Kd.R_below (by (with_reducible repeat (first | apply Kd.R_alloc | apply Kd.R_drewN | apply Kd.R_drew)); exact HO713.out) hb); have n1_ := Aside0.mk (Kd.R_below (by (with_reducible repeat (first | apply Kd.R_alloc | apply Kd.R_drewN | apply Kd.R_drew)); exact HO716.out) hb); have n2_ := Aside0.mk (below_step (by repeat (first | (with_reducible first | exact HB.out | apply below_alloc | apply pw_below_drewN | apply below_drew1) | exact HB.out)) hb); clear HO713; clear HO716; clear HB; have HO713 := n0_; have HO716 := n1_; have HB := n2_; clear n0_ n1_ n2_; (try clear hb); (try clear hb2); (try clear hk); (try clear hi)) | ((with_reducible refine gate_dst (N := 6) rfl ?_); refine box_event ?hg (N := 6) ?hd (cs := #[.int .i64 0, .int .i64 0]) (t := 24) ?hr ?_; (case hd => rfl); (case hg => rfl); (case hr => first | (go_simp; done) | (go_simp; rfl)); intro gb720 hg w19 hbox hb; have n0_ := Aside0.mk (Kd.R_below (Kd.R_elderB (by (with_reducible repeat (first | apply Kd.R_alloc | apply Kd.R_drewN | apply Kd.R_drew)); exact HO713.out) gb720 (Nat.le_of_eq hg.symm)) hb); have n1_ := Aside0.mk (Kd.R_below (Kd.R_elderB (by (with_reducible repeat (first | apply Kd.R_alloc | apply Kd.R_drewN | apply Kd.R_drew)); exact HO716.out) gb720 (Nat.le_of_eq hg.symm)) hb); have n2_ := Aside0.mk (below_step (by repeat (first | (with_reducible first | exact HB.out | apply below_alloc | apply pw_below_drewN | apply below_drew1) | exact HB.out)) hb); have n3_ := Aside0.mk (hbox); have n4_ := Aside0.mk ((by rw [hg]; exact (below_size (by repeat (first | (with_reducible first | exact HB.out | apply below_alloc | apply pw_below_drewN | apply below_drew1) | exact HB.out))) : w.heap.size ≤ gb720)); have n5_ := Aside0.mk ((by rw [hg]; exact (below_size (by repeat (first | (with_reducible first | exact HB.out | apply below_alloc | apply pw_below_drewN | apply below_drew1) | exact HB.out))) : w.heap.size ≤ gb720)); clear HO713; clear HO716; clear HB; have HO713 := n0_; have HO716 := n1_; have HB := n2_; have BK720 := n3_; have GW720 := n4_; have GE720 := n5_; clear n0_ n1_ n2_ n3_ n4_ n5_; clear hb hbox hg; have hcz20_0 : w19.cell? ⟨gb720, 0, none⟩ = some (.int .i64 0) := (blk_cell BK720.out 0).trans rfl; have hcz20_1 : w19.cell? ⟨gb720, 1, none⟩ = some (.int .i64 0) := (blk_cell BK720.out 1).trans rfl; have hfz20_0 := blk_frozen BK720.out 0; have hfz20_1 := blk_frozen BK720.out 1) | ((with_reducible refine gate_callee (f := 59) rfl ?_); refine goesL_ (some 31) rfl rfl Try.func59 (by kernel_rfl) rfl #[.slice A0 l0.length c0] rfl (by (try simp only [List.map_toArray, List.map_cons, List.map_nil]); first | done | rfl | (simp only [List.length_drop, List.length_take]; rfl)) ?_; (with_reducible refine (laws_toExtS.calls k _ _ l0 t721 _ ?side1 ?side2 A10.out).mono ?_); (case side1 => exact Kd.C_below HR0.out (by repeat (first | (with_reducible first | exact HB.out | apply below_alloc | apply pw_below_drewN | apply below_drew1 | refine below_set ?_ GE720.out) | exact HB.out))); (case side2 => exact HC0.out); rintro e w21 ⟨v722, rfl, ho0, hb⟩; refine ⟨_, rfl, ?_⟩; have n0_ := Aside0.mk (Kd.R_elder' (by (with_reducible repeat (first | apply Kd.R_alloc | apply Kd.R_drewN | apply Kd.R_drew)); exact (Kd.R_mono (Kd.R_far (p := ⟨gb720, 1, none⟩) (Kd.R_far (p := ⟨gb720, 0, none⟩) (Kd.R_mono HO713.out (fun k_ hk => (⟨hk, hk.2⟩ : _ ∧ k_ ≠ gb720))) (fun _ hk => hk.2) (.int .i64 t717)) (fun _ hk => hk.2) (.int .i64 t718)) (fun _ h_ => h_.1))) (Kd.R_base ho0) hb); have n1_ := Aside0.mk (Kd.R_elder' (by (with_reducible repeat (first | apply Kd.R_alloc | apply Kd.R_drewN | apply Kd.R_drew)); exact (Kd.R_mono (Kd.R_far (p := ⟨gb720, 1, none⟩) (Kd.R_far (p := ⟨gb720, 0, none⟩) (Kd.R_mono HO716.out (fun k_ hk => (⟨hk, hk.2⟩ : _ ∧ k_ ≠ gb720))) (fun _ hk => hk.2) (.int .i64 t717)) (fun _ hk => hk.2) (.int .i64 t718)) (fun _ h_ => h_.1))) (Kd.R_base ho0) hb); have n2_ := Aside0.mk (Kd.R_lower (Kd.R_newB (Kd.R_new' (Kd.R_new' ho0 (Kd.R_lt (by (with_reducible repeat (first | apply Kd.R_alloc | apply Kd.R_drewN | apply Kd.R_drew)); exact (Kd.R_mono (Kd.R_far (p := ⟨gb720, 1, none⟩) (Kd.R_far (p := ⟨gb720, 0, none⟩) (Kd.R_mono HO713.out (fun k_ hk => (⟨hk, hk.2⟩ : _ ∧ k_ ≠ gb720))) (fun _ hk => hk.2) (.int .i64 t717)) (fun _ hk => hk.2) (.int .i64 t718)) (fun _ h_ => h_.1))))) (Kd.R_lt (by (with_reducible repeat (first | apply Kd.R_alloc | apply Kd.R_drewN | apply Kd.R_drew)); exact (Kd.R_mono (Kd.R_far (p := ⟨gb720, 1, none⟩) (Kd.R_far (p := ⟨gb720, 0, none⟩) (Kd.R_mono HO716.out (fun k_ hk => (⟨hk, hk.2⟩ : _ ∧ k_ ≠ gb720))) (fun _ hk => hk.2) (.int .i64 t717)) (fun _ hk => hk.2) (.int .i64 t718)) (fun _ h_ => h_.1))))) (g := gb720) (o := .cells #[.int .i64 t717, .int .i64 t718] 24 (0, 0)) (by (with_reducible repeat (first | apply bN | apply bd | apply bA)); refine blk_put (cs := #[.int .i64 t717, .int .i64 0]) ?_ 1 _ rfl; (with_reducible repeat (first | apply bN | apply bd | apply bA)); refine blk_put (cs := #[.int .i64 0, .int .i64 0]) ?_ 0 _ rfl; (with_reducible repeat (first | apply bN | apply bd | apply bA)); exact BK720.out)) (below_size (by repeat (first | (with_reducible first | exact HB.out | apply below_alloc | apply pw_below_drewN | apply below_drew1 | refine below_set ?_ GE720.out) | exact HB.out)))); have n3_ := Aside0.mk (blk_below (g := gb720) (o := .cells #[.int .i64 t717, .int .i64 t718] 24 (0, 0)) (by (with_reducible repeat (first | apply bN | apply bd | apply bA)); refine blk_put (cs := #[.int .i64 t717, .int .i64 0]) ?_ 1 _ rfl; (with_reducible repeat (first | apply bN | apply bd | apply bA)); refine blk_put (cs := #[.int .i64 0, .int .i64 0]) ?_ 0 _ rfl; (with_reducible repeat (first | apply bN | apply bd | apply bA)); exact BK720.out) hb); have n4_ := Aside0.mk (below_step (by repeat (first | (with_reducible first | exact HB.out | apply below_alloc | apply pw_below_drewN | apply below_drew1 | refine below_set ?_ GE720.out) | exact HB.out)) hb); clear HO713; clear HO716; clear BK720; clear HB; have HO713 := n0_; have HO716 := n1_; have HO723 := n2_; have BK720 := n3_; have HB := n4_; clear n0_ n1_ n2_ n3_ n4_; (try clear hb); (try clear hb2); (try clear hk); (try clear hi); (try clear ho0)) | ((with_reducible refine gate_callee (f := 59) rfl ?_); refine goesL_ (some 33) rfl rfl Try.func59 (by kernel_rfl) rfl #[.slice A1 l1.length c1] rfl (by (try simp only [List.map_toArray, List.map_cons, List.map_nil]); first | done | rfl | (simp only [List.length_drop, List.length_take]; rfl)) ?_; (with_reducible refine (laws_toExtS.calls k _ _ l1 t724 _ ?side1 ?side2 A11.out).mono ?_); (case side1 => repeat (first | exact (Kd.C_below HR1.out HB.out) | (with_reducible refine Kd.C_alloc ?_ _) | (with_reducible refine Kd.C_drewN ?_ _) | (with_reducible refine Kd.C_drew ?_))); (case side2 => exact HC1.out); rintro e w22 ⟨v725, rfl, ho0, hb⟩; refine ⟨_, rfl, ?_⟩; have n0_ := Aside0.mk (Kd.R_elder' (by (with_reducible repeat (first | apply Kd.R_alloc | apply Kd.R_drewN | apply Kd.R_drew)); exact HO713.out) (Kd.R_base ho0) hb); have n1_ := Aside0.mk (Kd.R_elder' (by (with_reducible repeat (first | apply Kd.R_alloc | apply Kd.R_drewN | apply Kd.R_drew)); exact HO716.out) (Kd.R_base ho0) hb); have n2_ := Aside0.mk (Kd.R_elder' (by (with_reducible repeat (first | apply Kd.R_alloc | apply Kd.R_drewN | apply Kd.R_drew)); exact HO723.out) (Kd.R_base ho0) hb); have n3_ := Aside0.mk (Kd.R_lower (Kd.R_newB (Kd.R_new' (Kd.R_new' (Kd.R_new' ho0 (Kd.R_lt (by (with_reducible repeat (first | apply Kd.R_alloc | apply Kd.R_drewN | apply Kd.R_drew)); exact HO713.out))) (Kd.R_lt (by (with_reducible repeat (first | apply Kd.R_alloc | apply Kd.R_drewN | apply Kd.R_drew)); exact HO716.out))) (Kd.R_lt (by (with_reducible repeat (first | apply Kd.R_alloc | apply Kd.R_drewN | apply Kd.R_drew)); exact HO723.out))) (g := gb720) (o := .cells #[.int .i64 t717, .int .i64 t718] 24 (0, 0)) (by (with_reducible repeat (first | apply bN | apply bd | apply bA)); exact BK720.out)) (below_size (by repeat (first | (with_reducible first | exact HB.out | apply below_alloc | apply pw_below_drewN | apply below_drew1 | refine below_set ?_ GE720.out) | exact HB.out)))); have n4_ := Aside0.mk (blk_below (g := gb720) (o := .cells #[.int .i64 t717, .int .i64 t718] 24 (0, 0)) (by (with_reducible repeat (first | apply bN | apply bd | apply bA)); exact BK720.out) hb); have n5_ := Aside0.mk (below_step (by repeat (first | (with_reducible first | exact HB.out | apply below_alloc | apply pw_below_drewN | apply below_drew1 | refine below_set ?_ GE720.out) | exact HB.out)) hb); clear HO713; clear HO716; clear HO723; clear BK720; clear HB; have HO713 := n0_; have HO716 := n1_; have HO723 := n2_; have HO726 := n3_; have BK720 := n4_; have HB := n5_; clear n0_ n1_ n2_ n3_ n4_ n5_; (try clear hb); (try clear hb2); (try clear hk); (try clear hi); (try clear ho0); obtain ⟨Ao23, co23, eo23⟩ := Kd.R_slice HO723.out; subst eo23; obtain ⟨Ao24, co24, eo24⟩ := Kd.R_slice HO726.out; subst eo24) | ((with_reducible refine gate_callee (f := 60) rfl ?_); refine goesL_ (some 37) rfl rfl Try.func60 (by kernel_rfl) rfl #[.slice Ao23 t721.length co23, .slice Ao24 t724.length co24] rfl (by (try simp only [List.map_toArray, List.map_cons, List.map_nil]); first | done | rfl | (simp only [List.length_drop, List.length_take]; rfl)) ?_; (with_reducible refine (impl_ExtDot.calls k _ _ t721 _ _ t724 t727 t728 t729 _ ?side1 ?side2 ?side3 ?side4 A12.out).mono ?_); (case side1 => repeat (first | exact (Kd.R_reads' HO723.out).2.2 | (with_reducible refine Kd.C_alloc ?_ _) | (with_reducible refine Kd.C_drewN ?_ _) | (with_reducible refine Kd.C_drew ?_))); (case side2 => exact (Kd.R_reads' HO723.out).2.1); (case side3 => repeat (first | exact (Kd.R_reads' HO726.out).2.2 | (with_reducible refine Kd.C_alloc ?_ _) | (with_reducible refine Kd.C_drewN ?_ _) | (with_reducible refine Kd.C_drew ?_))); (case side4 => exact (Kd.R_reads' HO726.out).2.1); rintro e w25 ⟨rfl, hb⟩; refine ⟨_, rfl, ?_⟩; have n0_ := Aside0.mk (Kd.R_below (by (with_reducible repeat (first | apply Kd.R_alloc | apply Kd.R_drewN | apply Kd.R_drew)); exact HO713.out) hb); have n1_ := Aside0.mk (Kd.R_below (by (with_reducible repeat (first | apply Kd.R_alloc | apply Kd.R_drewN | apply Kd.R_drew)); exact HO716.out) hb); have n2_ := Aside0.mk (Kd.R_below (by (with_reducible repeat (first | apply Kd.R_alloc | apply Kd.R_drewN | apply Kd.R_drew)); exact HO723.out) hb); have n3_ := Aside0.mk (Kd.R_below (by (with_reducible repeat (first | apply Kd.R_alloc | apply Kd.R_drewN | apply Kd.R_drew)); exact HO726.out) hb); have n4_ := Aside0.mk (blk_below (g := gb720) (o := .cells #[.int .i64 t717, .int .i64 t718] 24 (0, 0)) (by (with_reducible repeat (first | apply bN | apply bd | apply bA)); exact BK720.out) hb); have n5_ := Aside0.mk (below_step (by repeat (first | (with_reducible first | exact HB.out | apply below_alloc | apply pw_below_drewN | apply below_drew1 | refine below_set ?_ GE720.out) | exact HB.out)) hb); clear HO713; clear HO716; clear HO723; clear HO726; clear BK720; clear HB; have HO713 := n0_; have HO716 := n1_; have HO723 := n2_; have HO726 := n3_; have BK720 := n4_; have HB := n5_; clear n0_ n1_ n2_ n3_ n4_ n5_; (try clear hb); (try clear hb2); (try clear hk); (try clear hi)) | ((with_reducible refine gate_dst (N := 10) rfl ?_); refine box_event ?hg (N := 10) ?hd (cs := #[.int .i64 0, .int .i64 0]) (t := 24) ?hr ?_; (case hd => rfl); (case hg => rfl); (case hr => first | (go_simp; done) | (go_simp; rfl)); intro gb730 hg w26 hbox hb; have n0_ := Aside0.mk (Kd.R_below (Kd.R_elderB (by (with_reducible repeat (first | apply Kd.R_alloc | apply Kd.R_drewN | apply Kd.R_drew)); exact HO713.out) gb730 (Nat.le_of_eq hg.symm)) hb); have n1_ := Aside0.mk (Kd.R_below (Kd.R_elderB (by (with_reducible repeat (first | apply Kd.R_alloc | apply Kd.R_drewN | apply Kd.R_drew)); exact HO716.out) gb730 (Nat.le_of_eq hg.symm)) hb); have n2_ := Aside0.mk (Kd.R_below (Kd.R_elderB (by (with_reducible repeat (first | apply Kd.R_alloc | apply Kd.R_drewN | apply Kd.R_drew)); exact HO723.out) gb730 (Nat.le_of_eq hg.symm)) hb); have n3_ := Aside0.mk (Kd.R_below (Kd.R_elderB (by (with_reducible repeat (first | apply Kd.R_alloc | apply Kd.R_drewN | apply Kd.R_drew)); exact HO726.out) gb730 (Nat.le_of_eq hg.symm)) hb); have n4_ := Aside0.mk (blk_below (g := gb720) (o := .cells #[.int .i64 t717, .int .i64 t718] 24 (0, 0)) (by (with_reducible repeat (first | apply bN | apply bd | apply bA)); exact BK720.out) hb); have n5_ := Aside0.mk (below_step (by repeat (first | (with_reducible first | exact HB.out | apply below_alloc | apply pw_below_drewN | apply below_drew1 | refine below_set ?_ GE720.out) | exact HB.out)) hb); have n6_ := Aside0.mk (hbox); have n7_ := Aside0.mk ((by rw [hg]; exact (below_size (by repeat (first | (with_reducible first | exact HB.out | apply below_alloc | apply pw_below_drewN | apply below_drew1 | refine below_set ?_ GE720.out) | exact HB.out))) : w.heap.size ≤ gb730)); have n8_ := Aside0.mk ((by rw [hg]; exact (below_size (by repeat (first | (with_reducible first | exact HB.out | apply below_alloc | apply pw_below_drewN | apply below_drew1 | refine below_set ?_ GE720.out) | exact HB.out))) : w.heap.size ≤ gb730)); have n9_ := Aside0.mk ((by rw [hg]; exact Nat.ne_of_lt (blk_lt (g := gb720) (o := .cells #[.int .i64 t717, .int .i64 t718] 24 (0, 0)) (by (with_reducible repeat (first | apply bN | apply bd | apply bA)); exact BK720.out)) : gb720 ≠ gb730)); have n10_ := Aside0.mk ((by rw [hg]; exact Nat.ne_of_gt (blk_lt (g := gb720) (o := .cells #[.int .i64 t717, .int .i64 t718] 24 (0, 0)) (by (with_reducible repeat (first | apply bN | apply bd | apply bA)); exact BK720.out)) : gb730 ≠ gb720)); clear HO713; clear HO716; clear HO723; clear HO726; clear BK720; clear HB; have HO713 := n0_; have HO716 := n1_; have HO723 := n2_; have HO726 := n3_; have BK720 := n4_; have HB := n5_; have BK730 := n6_; have GW730 := n7_; have GE730 := n8_; have NB720_730 := n9_; have NB730_720 := n10_; clear n0_ n1_ n2_ n3_ n4_ n5_ n6_ n7_ n8_ n9_ n10_; clear hb hbox hg; have hnb27 := NB730_720.out; have hnc27 := NB720_730.out; have hcz28_0 : w26.cell? ⟨gb730, 0, none⟩ = some (.int .i64 0) := (blk_cell BK730.out 0).trans rfl; have hcz28_1 : w26.cell? ⟨gb730, 1, none⟩ = some (.int .i64 0) := (blk_cell BK730.out 1).trans rfl; have hfz28_0 := blk_frozen BK730.out 0; have hfz28_1 := blk_frozen BK730.out 1))
      (try simp only [Act.put, List.setIfInBounds_toArray, List.set_cons_zero, List.set_cons_succ])
      go_cut [48] (fun v48 wc => ∃ (kq : Nat) (x48_12 : Bool), v48 = .bool x48_12 ∧ Aside0 (laws_FnExactExtDot.j0 kq l0 l1 t721 t724 x48_12 = some r) ∧ Aside0 (kq ≤ k) ∧ Aside0 (Kd.R k24 24 wc w.heap.size (fun k_ => some k_ ≠ ((.slice Ao24 t724.length co24) : Value).ownBlock ∧ k_ ≠ gb720 ∧ k_ ≠ gb730) (.slice Ao23 t721.length co23) t721) ∧ Aside0 (Kd.R k24 24 wc w.heap.size (fun k_ => some k_ ≠ ((.slice Ao23 t721.length co23) : Value).ownBlock ∧ k_ ≠ gb720 ∧ k_ ≠ gb730) (.slice Ao24 t724.length co24) t724) ∧ Aside0 (wc.heap[gb720]? = some (.cells #[.int .i64 t717, .int .i64 t718] 24 (0, 0))) ∧ Aside0 (wc.heap[gb730]? = some (.cells #[.int .i64 t727, .int .i64 t728] 24 (0, 0))) ∧ Aside0 (Below w.heap.size w wc))
      case first =>
        have H := HC13.out
        clear HC13
        replace H := Option.bind_eq_some_iff.mp H
        obtain ⟨t731, A290, H⟩ := H
        replace H : (if t731 = true then (laws_FnExactExtDot.j0 k l0 l1 t721 t724 (t729 != t719)) else (laws_FnExactExtDot.j0 k l0 l1 t721 t724 true)) = some r := H
        have A29 := Aside0.mk A290
        clear A290
        by_cases c30 : t731 = true
        · subst c30
          have H1 : (laws_FnExactExtDot.j0 k l0 l1 t721 t724 (t729 != t719)) = some r := by rw [if_pos rfl] at H; exact H
          clear H
          have H := H1
          clear H1
          have H' := Aside0.mk H
          clear H
          have hnb31 := NB730_720.out
          have hnc31 := NB720_730.out
          have hcz32_0 : w26.cell? ⟨gb730, 0, none⟩ = some (.int .i64 0) := (blk_cell BK730.out 0).trans rfl
          have hcz32_1 : w26.cell? ⟨gb730, 1, none⟩ = some (.int .i64 0) := (blk_cell BK730.out 1).trans rfl
          have hfz32_0 := blk_frozen BK730.out 0
          have hfz32_1 := blk_frozen BK730.out 1
          have hcz33_0 : w26.cell? ⟨gb720, 0, none⟩ = some (.int .i64 t717) := (blk_cell BK720.out 0).trans rfl
          have hcz33_1 : w26.cell? ⟨gb720, 1, none⟩ = some (.int .i64 t718) := (blk_cell BK720.out 1).trans rfl
          have hfz33_0 := blk_frozen BK720.out 0
          have hfz33_1 := blk_frozen BK720.out 1
          go_wp2_with (first | ((with_reducible refine gate_callee (f := 22) rfl ?_); refine goesL_ (some 42) rfl rfl Try.func22 (by kernel_rfl) rfl #[.agg #[.int .i64 t727, .int .i64 t728], .agg #[.int .i64 t717, .int .i64 t718]] rfl (by (try simp only [List.map_toArray, List.map_cons, List.map_nil]); first | done | rfl | (simp only [List.length_drop, List.length_take]; rfl)) ?_; (with_reducible refine (laws_eqExt.calls t727 t728 t717 t718 true _ A29.out).mono ?_); rintro e w34 ⟨rfl, hb⟩; refine ⟨_, rfl, ?_⟩; have n0_ := Aside0.mk (Kd.R_below (by (with_reducible repeat (first | apply Kd.R_alloc | apply Kd.R_drewN | apply Kd.R_drew)); exact (Kd.R_mono (Kd.R_far (p := ⟨gb730, 1, none⟩) (Kd.R_far (p := ⟨gb730, 0, none⟩) (Kd.R_mono HO713.out (fun k_ hk => (⟨hk, hk.2⟩ : _ ∧ k_ ≠ gb730))) (fun _ hk => hk.2) (.int .i64 t727)) (fun _ hk => hk.2) (.int .i64 t728)) (fun _ h_ => h_.1))) hb); have n1_ := Aside0.mk (Kd.R_below (by (with_reducible repeat (first | apply Kd.R_alloc | apply Kd.R_drewN | apply Kd.R_drew)); exact (Kd.R_mono (Kd.R_far (p := ⟨gb730, 1, none⟩) (Kd.R_far (p := ⟨gb730, 0, none⟩) (Kd.R_mono HO716.out (fun k_ hk => (⟨hk, hk.2⟩ : _ ∧ k_ ≠ gb730))) (fun _ hk => hk.2) (.int .i64 t727)) (fun _ hk => hk.2) (.int .i64 t728)) (fun _ h_ => h_.1))) hb); have n2_ := Aside0.mk (Kd.R_below (by (with_reducible repeat (first | apply Kd.R_alloc | apply Kd.R_drewN | apply Kd.R_drew)); exact (Kd.R_mono (Kd.R_far (p := ⟨gb730, 1, none⟩) (Kd.R_far (p := ⟨gb730, 0, none⟩) (Kd.R_mono HO723.out (fun k_ hk => (⟨hk, hk.2⟩ : _ ∧ k_ ≠ gb730))) (fun _ hk => hk.2) (.int .i64 t727)) (fun _ hk => hk.2) (.int .i64 t728)) (fun _ h_ => h_.1))) hb); have n3_ := Aside0.mk (Kd.R_below (by (with_reducible repeat (first | apply Kd.R_alloc | apply Kd.R_drewN | apply Kd.R_drew)); exact (Kd.R_mono (Kd.R_far (p := ⟨gb730, 1, none⟩) (Kd.R_far (p := ⟨gb730, 0, none⟩) (Kd.R_mono HO726.out (fun k_ hk => (⟨hk, hk.2⟩ : _ ∧ k_ ≠ gb730))) (fun _ hk => hk.2) (.int .i64 t727)) (fun _ hk => hk.2) (.int .i64 t728)) (fun _ h_ => h_.1))) hb); have n4_ := Aside0.mk (blk_below (g := gb720) (o := .cells #[.int .i64 t717, .int .i64 t718] 24 (0, 0)) (by (with_reducible repeat (first | apply bN | apply bd | apply bA)); refine blk_far ?_ NB720_730.out _; (with_reducible repeat (first | apply bN | apply bd | apply bA)); refine blk_far ?_ NB720_730.out _; (with_reducible repeat (first | apply bN | apply bd | apply bA)); exact BK720.out) hb); have n5_ := Aside0.mk (blk_below (g := gb730) (o := .cells #[.int .i64 t727, .int .i64 t728] 24 (0, 0)) (by (with_reducible repeat (first | apply bN | apply bd | apply bA)); refine blk_put (cs := #[.int .i64 t727, .int .i64 0]) ?_ 1 _ rfl; (with_reducible repeat (first | apply bN | apply bd | apply bA)); refine blk_put (cs := #[.int .i64 0, .int .i64 0]) ?_ 0 _ rfl; (with_reducible repeat (first | apply bN | apply bd | apply bA)); exact BK730.out) hb); have n6_ := Aside0.mk (below_step (by repeat (first | (with_reducible first | exact HB.out | apply below_alloc | apply pw_below_drewN | apply below_drew1 | refine below_set ?_ GE720.out | refine below_set ?_ GE730.out) | exact HB.out)) hb); clear HO713; clear HO716; clear HO723; clear HO726; clear BK720; clear BK730; clear HB; have HO713 := n0_; have HO716 := n1_; have HO723 := n2_; have HO726 := n3_; have BK720 := n4_; have BK730 := n5_; have HB := n6_; clear n0_ n1_ n2_ n3_ n4_ n5_ n6_; (try clear hb); (try clear hb2); (try clear hk); (try clear hi)))
          go_meet
          case rel => exact ⟨_, ((t729 != t719)), (by first | rfl | (simp; done) | (simp [*]; done)), H', ⟨by first | omega | exact Nat.le_refl _⟩, ⟨by (with_reducible repeat (first | apply Kd.R_alloc | apply Kd.R_drewN | apply Kd.R_drew)); exact Kd.R_mono HO723.out (fun _ hk => ⟨hk.1.2, ⟨hk.1.1.2, hk.2⟩⟩)⟩, ⟨by (with_reducible repeat (first | apply Kd.R_alloc | apply Kd.R_drewN | apply Kd.R_drew)); exact Kd.R_mono HO726.out (fun _ hk => ⟨hk.1.1.2, ⟨hk.1.2, hk.2⟩⟩)⟩, ⟨by (with_reducible repeat (first | apply bN | apply bd | apply bA)); exact BK720.out⟩, ⟨by (with_reducible repeat (first | apply bN | apply bd | apply bA)); exact BK730.out⟩, ⟨by repeat (first | (with_reducible first | exact HB.out | apply below_alloc | apply pw_below_drewN | apply below_drew1 | refine below_set ?_ GE720.out | refine below_set ?_ GE730.out) | exact HB.out)⟩⟩
        · replace c30 := Bool.eq_false_iff.mpr c30
          subst c30
          have H1 : (laws_FnExactExtDot.j0 k l0 l1 t721 t724 true) = some r := by rw [if_neg (show ¬ (false = true) by decide)] at H; exact H
          clear H
          have H := H1
          clear H1
          have H' := Aside0.mk H
          clear H
          have hnb35 := NB730_720.out
          have hnc35 := NB720_730.out
          have hcz36_0 : w26.cell? ⟨gb730, 0, none⟩ = some (.int .i64 0) := (blk_cell BK730.out 0).trans rfl
          have hcz36_1 : w26.cell? ⟨gb730, 1, none⟩ = some (.int .i64 0) := (blk_cell BK730.out 1).trans rfl
          have hfz36_0 := blk_frozen BK730.out 0
          have hfz36_1 := blk_frozen BK730.out 1
          have hcz37_0 : w26.cell? ⟨gb720, 0, none⟩ = some (.int .i64 t717) := (blk_cell BK720.out 0).trans rfl
          have hcz37_1 : w26.cell? ⟨gb720, 1, none⟩ = some (.int .i64 t718) := (blk_cell BK720.out 1).trans rfl
          have hfz37_0 := blk_frozen BK720.out 0
          have hfz37_1 := blk_frozen BK720.out 1
          go_wp2_with (first | ((with_reducible refine gate_callee (f := 22) rfl ?_); refine goesL_ (some 42) rfl rfl Try.func22 (by kernel_rfl) rfl #[.agg #[.int .i64 t727, .int .i64 t728], .agg #[.int .i64 t717, .int .i64 t718]] rfl (by (try simp only [List.map_toArray, List.map_cons, List.map_nil]); first | done | rfl | (simp only [List.length_drop, List.length_take]; rfl)) ?_; (with_reducible refine (laws_eqExt.calls t727 t728 t717 t718 false _ A29.out).mono ?_); rintro e w38 ⟨rfl, hb⟩; refine ⟨_, rfl, ?_⟩; have n0_ := Aside0.mk (Kd.R_below (by (with_reducible repeat (first | apply Kd.R_alloc | apply Kd.R_drewN | apply Kd.R_drew)); exact (Kd.R_mono (Kd.R_far (p := ⟨gb730, 1, none⟩) (Kd.R_far (p := ⟨gb730, 0, none⟩) (Kd.R_mono HO713.out (fun k_ hk => (⟨hk, hk.2⟩ : _ ∧ k_ ≠ gb730))) (fun _ hk => hk.2) (.int .i64 t727)) (fun _ hk => hk.2) (.int .i64 t728)) (fun _ h_ => h_.1))) hb); have n1_ := Aside0.mk (Kd.R_below (by (with_reducible repeat (first | apply Kd.R_alloc | apply Kd.R_drewN | apply Kd.R_drew)); exact (Kd.R_mono (Kd.R_far (p := ⟨gb730, 1, none⟩) (Kd.R_far (p := ⟨gb730, 0, none⟩) (Kd.R_mono HO716.out (fun k_ hk => (⟨hk, hk.2⟩ : _ ∧ k_ ≠ gb730))) (fun _ hk => hk.2) (.int .i64 t727)) (fun _ hk => hk.2) (.int .i64 t728)) (fun _ h_ => h_.1))) hb); have n2_ := Aside0.mk (Kd.R_below (by (with_reducible repeat (first | apply Kd.R_alloc | apply Kd.R_drewN | apply Kd.R_drew)); exact (Kd.R_mono (Kd.R_far (p := ⟨gb730, 1, none⟩) (Kd.R_far (p := ⟨gb730, 0, none⟩) (Kd.R_mono HO723.out (fun k_ hk => (⟨hk, hk.2⟩ : _ ∧ k_ ≠ gb730))) (fun _ hk => hk.2) (.int .i64 t727)) (fun _ hk => hk.2) (.int .i64 t728)) (fun _ h_ => h_.1))) hb); have n3_ := Aside0.mk (Kd.R_below (by (with_reducible repeat (first | apply Kd.R_alloc | apply Kd.R_drewN | apply Kd.R_drew)); exact (Kd.R_mono (Kd.R_far (p := ⟨gb730, 1, none⟩) (Kd.R_far (p := ⟨gb730, 0, none⟩) (Kd.R_mono HO726.out (fun k_ hk => (⟨hk, hk.2⟩ : _ ∧ k_ ≠ gb730))) (fun _ hk => hk.2) (.int .i64 t727)) (fun _ hk => hk.2) (.int .i64 t728)) (fun _ h_ => h_.1))) hb); have n4_ := Aside0.mk (blk_below (g := gb720) (o := .cells #[.int .i64 t717, .int .i64 t718] 24 (0, 0)) (by (with_reducible repeat (first | apply bN | apply bd | apply bA)); refine blk_far ?_ NB720_730.out _; (with_reducible repeat (first | apply bN | apply bd | apply bA)); refine blk_far ?_ NB720_730.out _; (with_reducible repeat (first | apply bN | apply bd | apply bA)); exact BK720.out) hb); have n5_ := Aside0.mk (blk_below (g := gb730) (o := .cells #[.int .i64 t727, .int .i64 t728] 24 (0, 0)) (by (with_reducible repeat (first | apply bN | apply bd | apply bA)); refine blk_put (cs := #[.int .i64 t727, .int .i64 0]) ?_ 1 _ rfl; (with_reducible repeat (first | apply bN | apply bd | apply bA)); refine blk_put (cs := #[.int .i64 0, .int .i64 0]) ?_ 0 _ rfl; (with_reducible repeat (first | apply bN | apply bd | apply bA)); exact BK730.out) hb); have n6_ := Aside0.mk (below_step (by repeat (first | (with_reducible first | exact HB.out | apply below_alloc | apply pw_below_drewN | apply below_drew1 | refine below_set ?_ GE720.out | refine below_set ?_ GE730.out) | exact HB.out)) hb); clear HO713; clear HO716; clear HO723; clear HO726; clear BK720; clear BK730; clear HB; have HO713 := n0_; have HO716 := n1_; have HO723 := n2_; have HO726 := n3_; have BK720 := n4_; have BK730 := n5_; have HB := n6_; clear n0_ n1_ n2_ n3_ n4_ n5_ n6_; (try clear hb); (try clear hb2); (try clear hk); (try clear hi)))
          go_meet
          case rel => exact ⟨_, (true), (by first | rfl | (simp; done) | (simp [*]; done)), H', ⟨by first | omega | exact Nat.le_refl _⟩, ⟨by (with_reducible repeat (first | apply Kd.R_alloc | apply Kd.R_drewN | apply Kd.R_drew)); exact Kd.R_mono HO723.out (fun _ hk => ⟨hk.1.2, ⟨hk.1.1.2, hk.2⟩⟩)⟩, ⟨by (with_reducible repeat (first | apply Kd.R_alloc | apply Kd.R_drewN | apply Kd.R_drew)); exact Kd.R_mono HO726.out (fun _ hk => ⟨hk.1.1.2, ⟨hk.1.2, hk.2⟩⟩)⟩, ⟨by (with_reducible repeat (first | apply bN | apply bd | apply bA)); exact BK720.out⟩, ⟨by (with_reducible repeat (first | apply bN | apply bd | apply bA)); exact BK730.out⟩, ⟨by repeat (first | (with_reducible first | exact HB.out | apply below_alloc | apply pw_below_drewN | apply below_drew1 | refine below_set ?_ GE720.out | refine below_set ?_ GE730.out) | exact HB.out)⟩⟩
      case rest =>
        clear HC13
        try clear c1
        try clear c2
        try clear p2
        try clear c3
        try clear c4
        try clear c4b0
        try clear c5
        try clear c6
        try clear c6b0
        try clear c15
        try clear c22
        try clear c27
        try clear c30
        try clear c31
        try clear c35
        try clear hcz20_0
        try clear hcz20_1
        try clear hcz28_0
        try clear hcz28_1
        try clear hcz32_0
        try clear hcz32_1
        try clear hcz33_0
        try clear hcz33_1
        try clear hcz36_0
        try clear hcz36_1
        try clear hcz37_0
        try clear hcz37_1
        try clear hfz20_0
        try clear hfz20_1
        try clear hfz28_0
        try clear hfz28_1
        try clear hfz32_0
        try clear hfz32_1
        try clear hfz33_0
        try clear hfz33_1
        try clear hfz36_0
        try clear hfz36_1
        try clear hfz37_0
        try clear hfz37_1
        obtain ⟨kq, x48_12, rfl, HA, HJ12, HO_8, HO_9, BK720, BK730, HB⟩ := hcut
        cases kq with
        | zero => exact absurd HA.out (by simp [laws_FnExactExtDot.j0])
        | succ kj12 =>
          have H := HA.out
          clear HA
          simp only [laws_FnExactExtDot.j0] at H
          by_cases c39 : x48_12 = true
          · subst c39
            have H1 : (none) = some r := by rw [if_pos rfl] at H; exact H
            clear H
            have H := H1
            clear H1
            exact absurd H (by simp)
          · replace c39 := Bool.eq_false_iff.mpr c39
            subst c39
            have H1 : ((laws_toExtS.f kj12 l0).bind fun t732 => ((laws_eqExtS.f kj12 t721 t732).bind fun t735 => (if t735 = true then ((laws_toExtS.f kj12 l1).bind fun t736 => ((laws_eqExtS.f kj12 t724 t736).bind fun t739 => (if t739 = true then (some true) else (none)))) else (none)))) = some r := by rw [if_neg (show ¬ (false = true) by decide)] at H; exact H
            clear H
            have H := H1
            clear H1
            replace H := Option.bind_eq_some_iff.mp H
            obtain ⟨t732, A400, H⟩ := H
            replace H : ((laws_eqExtS.f kj12 t721 t732).bind fun t735 => (if t735 = true then ((laws_toExtS.f kj12 l1).bind fun t736 => ((laws_eqExtS.f kj12 t724 t736).bind fun t739 => (if t739 = true then (some true) else (none)))) else (none))) = some r := H
            have A40 := Aside0.mk A400
            clear A400
            replace H := Option.bind_eq_some_iff.mp H
            obtain ⟨t735, A410, H⟩ := H
            replace H : (if t735 = true then ((laws_toExtS.f kj12 l1).bind fun t736 => ((laws_eqExtS.f kj12 t724 t736).bind fun t739 => (if t739 = true then (some true) else (none)))) else (none)) = some r := H
            have A41 := Aside0.mk A410
            clear A410
            by_cases c42 : t735 = true
            · subst c42
              have H1 : ((laws_toExtS.f kj12 l1).bind fun t736 => ((laws_eqExtS.f kj12 t724 t736).bind fun t739 => (if t739 = true then (some true) else (none)))) = some r := by rw [if_pos rfl] at H; exact H
              clear H
              have H := H1
              clear H1
              replace H := Option.bind_eq_some_iff.mp H
              obtain ⟨t736, A430, H⟩ := H
              replace H : ((laws_eqExtS.f kj12 t724 t736).bind fun t739 => (if t739 = true then (some true) else (none))) = some r := H
              have A43 := Aside0.mk A430
              clear A430
              replace H := Option.bind_eq_some_iff.mp H
              obtain ⟨t739, A440, H⟩ := H
              replace H : (if t739 = true then (some true) else (none)) = some r := H
              have A44 := Aside0.mk A440
              clear A440
              by_cases c45 : t739 = true
              · subst c45
                have H1 : (some true) = some r := by rw [if_pos rfl] at H; exact H
                clear H
                have H := H1
                clear H1
                obtain rfl := Option.some.inj H
                go_wp2_with (first | ((with_reducible refine gate_callee (f := 59) rfl ?_); refine goesL_ (some 51) rfl rfl Try.func59 (by kernel_rfl) rfl #[.slice A0 l0.length c0] rfl (by (try simp only [List.map_toArray, List.map_cons, List.map_nil]); first | done | rfl | (simp only [List.length_drop, List.length_take]; rfl)) ?_; (with_reducible refine (laws_toExtS.calls kj12 _ _ l0 t732 _ ?side1 ?side2 A40.out).mono ?_); (case side1 => repeat (first | exact (Kd.C_below HR0.out HB.out) | (with_reducible refine Kd.C_alloc ?_ _) | (with_reducible refine Kd.C_drewN ?_ _) | (with_reducible refine Kd.C_drew ?_))); (case side2 => exact HC0.out); rintro e w46 ⟨v733, rfl, ho0, hb⟩; refine ⟨_, rfl, ?_⟩; have n0_ := Aside0.mk (Kd.R_elder' (by (with_reducible repeat (first | apply Kd.R_alloc | apply Kd.R_drewN | apply Kd.R_drew)); exact HO_8.out) (Kd.R_base ho0) hb); have n1_ := Aside0.mk (Kd.R_elder' (by (with_reducible repeat (first | apply Kd.R_alloc | apply Kd.R_drewN | apply Kd.R_drew)); exact HO_9.out) (Kd.R_base ho0) hb); have n2_ := Aside0.mk (Kd.R_lower (Kd.R_newB (Kd.R_newB (Kd.R_new' (Kd.R_new' ho0 (Kd.R_lt (by (with_reducible repeat (first | apply Kd.R_alloc | apply Kd.R_drewN | apply Kd.R_drew)); exact HO_8.out))) (Kd.R_lt (by (with_reducible repeat (first | apply Kd.R_alloc | apply Kd.R_drewN | apply Kd.R_drew)); exact HO_9.out))) (g := gb720) (o := .cells #[.int .i64 t717, .int .i64 t718] 24 (0, 0)) (by (with_reducible repeat (first | apply bN | apply bd | apply bA)); exact BK720.out)) (g := gb730) (o := .cells #[.int .i64 t727, .int .i64 t728] 24 (0, 0)) (by (with_reducible repeat (first | apply bN | apply bd | apply bA)); exact BK730.out)) (below_size (by repeat (first | (with_reducible first | exact HB.out | apply below_alloc | apply pw_below_drewN | apply below_drew1 | refine below_set ?_ GE720.out | refine below_set ?_ GE730.out) | exact HB.out)))); have n3_ := Aside0.mk (blk_below (g := gb720) (o := .cells #[.int .i64 t717, .int .i64 t718] 24 (0, 0)) (by (with_reducible repeat (first | apply bN | apply bd | apply bA)); exact BK720.out) hb); have n4_ := Aside0.mk (blk_below (g := gb730) (o := .cells #[.int .i64 t727, .int .i64 t728] 24 (0, 0)) (by (with_reducible repeat (first | apply bN | apply bd | apply bA)); exact BK730.out) hb); have n5_ := Aside0.mk (below_step (by repeat (first | (with_reducible first | exact HB.out | apply below_alloc | apply pw_below_drewN | apply below_drew1 | refine below_set ?_ GE720.out | refine below_set ?_ GE730.out) | exact HB.out)) hb); clear HO_8; clear HO_9; clear BK720; clear BK730; clear HB; have HO_8 := n0_; have HO_9 := n1_; have HO734 := n2_; have BK720 := n3_; have BK730 := n4_; have HB := n5_; clear n0_ n1_ n2_ n3_ n4_ n5_; (try clear hb); (try clear hb2); (try clear hk); (try clear hi); (try clear ho0); obtain ⟨Ao47, co47, eo47⟩ := Kd.R_slice HO734.out; subst eo47) | ((with_reducible refine gate_callee (f := 61) rfl ?_); refine goesL_ (some 52) rfl rfl Try.func61 (by kernel_rfl) rfl #[.slice Ao23 t721.length co23, .slice Ao47 t732.length co47] rfl (by (try simp only [List.map_toArray, List.map_cons, List.map_nil]); first | done | rfl | (simp only [List.length_drop, List.length_take]; rfl)) ?_; (with_reducible refine (laws_eqExtS.calls kj12 _ _ t721 _ _ t732 true _ ?side1 ?side2 ?side3 ?side4 A41.out).mono ?_); (case side1 => repeat (first | exact (Kd.R_reads' HO_8.out).2.2 | (with_reducible refine Kd.C_alloc ?_ _) | (with_reducible refine Kd.C_drewN ?_ _) | (with_reducible refine Kd.C_drew ?_))); (case side2 => exact (Kd.R_reads' HO_8.out).2.1); (case side3 => repeat (first | exact (Kd.R_reads' HO734.out).2.2 | (with_reducible refine Kd.C_alloc ?_ _) | (with_reducible refine Kd.C_drewN ?_ _) | (with_reducible refine Kd.C_drew ?_))); (case side4 => exact (Kd.R_reads' HO734.out).2.1); rintro e w48 ⟨rfl, hb⟩; refine ⟨_, rfl, ?_⟩; have n0_ := Aside0.mk (Kd.R_below (by (with_reducible repeat (first | apply Kd.R_alloc | apply Kd.R_drewN | apply Kd.R_drew)); exact HO_8.out) hb); have n1_ := Aside0.mk (Kd.R_below (by (with_reducible repeat (first | apply Kd.R_alloc | apply Kd.R_drewN | apply Kd.R_drew)); exact HO_9.out) hb); have n2_ := Aside0.mk (Kd.R_below (by (with_reducible repeat (first | apply Kd.R_alloc | apply Kd.R_drewN | apply Kd.R_drew)); exact HO734.out) hb); have n3_ := Aside0.mk (blk_below (g := gb720) (o := .cells #[.int .i64 t717, .int .i64 t718] 24 (0, 0)) (by (with_reducible repeat (first | apply bN | apply bd | apply bA)); exact BK720.out) hb); have n4_ := Aside0.mk (blk_below (g := gb730) (o := .cells #[.int .i64 t727, .int .i64 t728] 24 (0, 0)) (by (with_reducible repeat (first | apply bN | apply bd | apply bA)); exact BK730.out) hb); have n5_ := Aside0.mk (below_step (by repeat (first | (with_reducible first | exact HB.out | apply below_alloc | apply pw_below_drewN | apply below_drew1 | refine below_set ?_ GE720.out | refine below_set ?_ GE730.out) | exact HB.out)) hb); clear HO_8; clear HO_9; clear HO734; clear BK720; clear BK730; clear HB; have HO_8 := n0_; have HO_9 := n1_; have HO734 := n2_; have BK720 := n3_; have BK730 := n4_; have HB := n5_; clear n0_ n1_ n2_ n3_ n4_ n5_; (try clear hb); (try clear hb2); (try clear hk); (try clear hi)) | ((with_reducible refine gate_callee (f := 59) rfl ?_); refine goesL_ (some 56) rfl rfl Try.func59 (by kernel_rfl) rfl #[.slice A1 l1.length c1] rfl (by (try simp only [List.map_toArray, List.map_cons, List.map_nil]); first | done | rfl | (simp only [List.length_drop, List.length_take]; rfl)) ?_; (with_reducible refine (laws_toExtS.calls kj12 _ _ l1 t736 _ ?side1 ?side2 A43.out).mono ?_); (case side1 => repeat (first | exact (Kd.C_below HR1.out HB.out) | (with_reducible refine Kd.C_alloc ?_ _) | (with_reducible refine Kd.C_drewN ?_ _) | (with_reducible refine Kd.C_drew ?_))); (case side2 => exact HC1.out); rintro e w49 ⟨v737, rfl, ho0, hb⟩; refine ⟨_, rfl, ?_⟩; have n0_ := Aside0.mk (Kd.R_elder' (by (with_reducible repeat (first | apply Kd.R_alloc | apply Kd.R_drewN | apply Kd.R_drew)); exact HO_8.out) (Kd.R_base ho0) hb); have n1_ := Aside0.mk (Kd.R_elder' (by (with_reducible repeat (first | apply Kd.R_alloc | apply Kd.R_drewN | apply Kd.R_drew)); exact HO_9.out) (Kd.R_base ho0) hb); have n2_ := Aside0.mk (Kd.R_elder' (by (with_reducible repeat (first | apply Kd.R_alloc | apply Kd.R_drewN | apply Kd.R_drew)); exact HO734.out) (Kd.R_base ho0) hb); have n3_ := Aside0.mk (Kd.R_lower (Kd.R_newB (Kd.R_newB (Kd.R_new' (Kd.R_new' (Kd.R_new' ho0 (Kd.R_lt (by (with_reducible repeat (first | apply Kd.R_alloc | apply Kd.R_drewN | apply Kd.R_drew)); exact HO_8.out))) (Kd.R_lt (by (with_reducible repeat (first | apply Kd.R_alloc | apply Kd.R_drewN | apply Kd.R_drew)); exact HO_9.out))) (Kd.R_lt (by (with_reducible repeat (first | apply Kd.R_alloc | apply Kd.R_drewN | apply Kd.R_drew)); exact HO734.out))) (g := gb720) (o := .cells #[.int .i64 t717, .int .i64 t718] 24 (0, 0)) (by (with_reducible repeat (first | apply bN | apply bd | apply bA)); exact BK720.out)) (g := gb730) (o := .cells #[.int .i64 t727, .int .i64 t728] 24 (0, 0)) (by (with_reducible repeat (first | apply bN | apply bd | apply bA)); exact BK730.out)) (below_size (by repeat (first | (with_reducible first | exact HB.out | apply below_alloc | apply pw_below_drewN | apply below_drew1 | refine below_set ?_ GE720.out | refine below_set ?_ GE730.out) | exact HB.out)))); have n4_ := Aside0.mk (blk_below (g := gb720) (o := .cells #[.int .i64 t717, .int .i64 t718] 24 (0, 0)) (by (with_reducible repeat (first | apply bN | apply bd | apply bA)); exact BK720.out) hb); have n5_ := Aside0.mk (blk_below (g := gb730) (o := .cells #[.int .i64 t727, .int .i64 t728] 24 (0, 0)) (by (with_reducible repeat (first | apply bN | apply bd | apply bA)); exact BK730.out) hb); have n6_ := Aside0.mk (below_step (by repeat (first | (with_reducible first | exact HB.out | apply below_alloc | apply pw_below_drewN | apply below_drew1 | refine below_set ?_ GE720.out | refine below_set ?_ GE730.out) | exact HB.out)) hb); clear HO_8; clear HO_9; clear HO734; clear BK720; clear BK730; clear HB; have HO_8 := n0_; have HO_9 := n1_; have HO734 := n2_; have HO738 := n3_; have BK720 := n4_; have BK730 := n5_; have HB := n6_; clear n0_ n1_ n2_ n3_ n4_ n5_ n6_; (try clear hb); (try clear hb2); (try clear hk); (try clear hi); (try clear ho0); obtain ⟨Ao50, co50, eo50⟩ := Kd.R_slice HO738.out; subst eo50) | ((with_reducible refine gate_callee (f := 61) rfl ?_); refine goesL_ (some 57) rfl rfl Try.func61 (by kernel_rfl) rfl #[.slice Ao24 t724.length co24, .slice Ao50 t736.length co50] rfl (by (try simp only [List.map_toArray, List.map_cons, List.map_nil]); first | done | rfl | (simp only [List.length_drop, List.length_take]; rfl)) ?_; (with_reducible refine (laws_eqExtS.calls kj12 _ _ t724 _ _ t736 true _ ?side1 ?side2 ?side3 ?side4 A44.out).mono ?_); (case side1 => repeat (first | exact (Kd.R_reads' HO_9.out).2.2 | (with_reducible refine Kd.C_alloc ?_ _) | (with_reducible refine Kd.C_drewN ?_ _) | (with_reducible refine Kd.C_drew ?_))); (case side2 => exact (Kd.R_reads' HO_9.out).2.1); (case side3 => repeat (first | exact (Kd.R_reads' HO738.out).2.2 | (with_reducible refine Kd.C_alloc ?_ _) | (with_reducible refine Kd.C_drewN ?_ _) | (with_reducible refine Kd.C_drew ?_))); (case side4 => exact (Kd.R_reads' HO738.out).2.1); rintro e w51 ⟨rfl, hb⟩; refine ⟨_, rfl, ?_⟩; have n0_ := Aside0.mk (Kd.R_below (by (with_reducible repeat (first | apply Kd.R_alloc | apply Kd.R_drewN | apply Kd.R_drew)); exact HO_8.out) hb); have n1_ := Aside0.mk (Kd.R_below (by (with_reducible repeat (first | apply Kd.R_alloc | apply Kd.R_drewN | apply Kd.R_drew)); exact HO_9.out) hb); have n2_ := Aside0.mk (Kd.R_below (by (with_reducible repeat (first | apply Kd.R_alloc | apply Kd.R_drewN | apply Kd.R_drew)); exact HO734.out) hb); have n3_ := Aside0.mk (Kd.R_below (by (with_reducible repeat (first | apply Kd.R_alloc | apply Kd.R_drewN | apply Kd.R_drew)); exact HO738.out) hb); have n4_ := Aside0.mk (blk_below (g := gb720) (o := .cells #[.int .i64 t717, .int .i64 t718] 24 (0, 0)) (by (with_reducible repeat (first | apply bN | apply bd | apply bA)); exact BK720.out) hb); have n5_ := Aside0.mk (blk_below (g := gb730) (o := .cells #[.int .i64 t727, .int .i64 t728] 24 (0, 0)) (by (with_reducible repeat (first | apply bN | apply bd | apply bA)); exact BK730.out) hb); have n6_ := Aside0.mk (below_step (by repeat (first | (with_reducible first | exact HB.out | apply below_alloc | apply pw_below_drewN | apply below_drew1 | refine below_set ?_ GE720.out | refine below_set ?_ GE730.out) | exact HB.out)) hb); clear HO_8; clear HO_9; clear HO734; clear HO738; clear BK720; clear BK730; clear HB; have HO_8 := n0_; have HO_9 := n1_; have HO734 := n2_; have HO738 := n3_; have BK720 := n4_; have BK730 := n5_; have HB := n6_; clear n0_ n1_ n2_ n3_ n4_ n5_ n6_; (try clear hb); (try clear hb2); (try clear hk); (try clear hi)))
                go_ret
                exact ⟨by first | rfl | (simp [errW_none, errW_some] <;> rfl) | (simp [*, errW_none, errW_some] <;> rfl), by repeat (first | (with_reducible first | exact HB.out | apply below_alloc | apply pw_below_drewN | apply below_drew1 | refine below_set ?_ GE720.out | refine below_set ?_ GE730.out) | exact HB.out)⟩
              · replace c45 := Bool.eq_false_iff.mpr c45
                subst c45
                have H1 : (none) = some r := by rw [if_neg (show ¬ (false = true) by decide)] at H; exact H
                clear H
                have H := H1
                clear H1
                exact absurd H (by simp)
            · replace c42 := Bool.eq_false_iff.mpr c42
              subst c42
              have H1 : (none) = some r := by rw [if_neg (show ¬ (false = true) by decide)] at H; exact H
              clear H
              have H := H1
              clear H1
              exact absurd H (by simp)

end Go.Proofs.Ytnggbahcmhdjnaa.Print
