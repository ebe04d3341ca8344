-- Packed by a program of this session (slim.py) out of printed texts; not trusted, Lean checks it.
import Derived.Test.YtlogocmojnhpbaaPrint0
import Derived.Test.YtlogocmojnhpbaaQFnExactExtractCollision2
namespace Go.Proofs.Ytlogocmojnhpbaa.Print
open Go.RowKit Go.Proofs.YtlogocmojnhpbaaW.PrintWords Go.Proofs.YtlogocmojnhpbaaW.PrintLast Go.Proofs.YtlogocmojnhpbaaW.PrintMore
attribute [local go_sem] max2_int min2_int max_two min_two max_three min_three max_four min_four   -- for this text's walks alone
set_option linter.unusedVariables false
set_option linter.unusedSimpArgs false

/-! ### spec_ExtractCollision: function 50 -/
mutual
def spec_ExtractCollision.j0 : Nat → ByteArray → Int → Int → ByteArray → List ByteArray → ByteArray → List ByteArray → Bool → Option (ByteArray × ByteArray × Int)
  | 0, _, _, _, _, _, _, _, _ => none
  | k + 1, x0, x1, x2, x3, x4, x5, x6, x45 => if x45 = true then (some ((⟨#[]⟩ : ByteArray), (⟨#[]⟩ : ByteArray), 2)) else ((spec_l04Ask.f k x0 x1 x2 x3 x4).bind fun t1131 => (if t1131 = 0 then ((spec_l04Ask.f k x0 x1 x2 x5 x6).bind fun t1132 => (if t1132 = 0 then ((spec_l04Check.f k x0 x1 x2 x3 x4).bind fun t1133 => (if t1133 = true then ((spec_l04Check.f k x0 x1 x2 x5 x6).bind fun t1134 => (spec_ExtractCollision.j1 k x2 x3 x4 x5 x6 (!t1134))) else (spec_ExtractCollision.j1 k x2 x3 x4 x5 x6 true))) else (some ((⟨#[]⟩ : ByteArray), (⟨#[]⟩ : ByteArray), t1132)))) else (some ((⟨#[]⟩ : ByteArray), (⟨#[]⟩ : ByteArray), t1131))))
def spec_ExtractCollision.j1 : Nat → Int → ByteArray → List ByteArray → ByteArray → List ByteArray → Bool → Option (ByteArray × ByteArray × Int)
  | 0, _, _, _, _, _, _ => none
  | k + 1, x2, x3, x4, x5, x6, x82 => if x82 = true then (some ((⟨#[]⟩ : ByteArray), (⟨#[]⟩ : ByteArray), 9)) else ((spec_l04Up.f k x2 x3 x4).bind fun bt1135 => ((spec_l04Up.f k x2 x5 x6).bind fun bt1139 => (spec_ExtractCollision.l0 k bt1135.1 bt1139.1 (wrap64 ((bt1135.1.length : Int) - 1)))))
def spec_ExtractCollision.l0 : Nat → List ByteArray → List ByteArray → Int → Option (ByteArray × ByteArray × Int)
  | 0, _, _, _ => none
  | k + 1, x18, x20, x22 => if x22 ≥ 0 then (if 0 ≤ x22 then (if x22 < (x18.length : Int) then (if x22 < (x20.length : Int) then (if (rdOf ByteArray.empty x18 x22).toList = (rdOf ByteArray.empty x20 x22).toList then (spec_ExtractCollision.l0 k x18 x20 (wrap64 (x22 - 1))) else (some (rdOf ByteArray.empty x18 x22, rdOf ByteArray.empty x20 x22, 0))) else (none)) else (none)) else (none)) else (some ((⟨#[]⟩ : ByteArray), (⟨#[]⟩ : ByteArray), 5))
end
def spec_ExtractCollision.f (k : Nat) (a0 : ByteArray) (a1 : Int) (a2 : Int) (a3 : ByteArray) (l4 : List ByteArray) (a5 : ByteArray) (l6 : List ByteArray) : Option (ByteArray × ByteArray × Int) := if (a0.size : Int) > 65536 then (spec_ExtractCollision.j0 k a0 a1 a2 a3 l4 a5 l6 true) else (if (a3.size : Int) > 65536 then (spec_ExtractCollision.j0 k a0 a1 a2 a3 l4 a5 l6 true) else (if (l4.length : Int) > 4096 then (spec_ExtractCollision.j0 k a0 a1 a2 a3 l4 a5 l6 true) else (if (a5.size : Int) > 65536 then (spec_ExtractCollision.j0 k a0 a1 a2 a3 l4 a5 l6 true) else (spec_ExtractCollision.j0 k a0 a1 a2 a3 l4 a5 l6 (decide ((l6.length : Int) > 4096))))))
theorem spec_ExtractCollision.mono_l : ∀ k, (∀ y0 y1 y2 y3 y4 y5 y6 y7, LeO (spec_ExtractCollision.j0 k y0 y1 y2 y3 y4 y5 y6 y7) (spec_ExtractCollision.j0 (k + 1) y0 y1 y2 y3 y4 y5 y6 y7)) ∧ (∀ y0 y1 y2 y3 y4 y5, LeO (spec_ExtractCollision.j1 k y0 y1 y2 y3 y4 y5) (spec_ExtractCollision.j1 (k + 1) y0 y1 y2 y3 y4 y5)) ∧ (∀ y0 y1 y2, LeO (spec_ExtractCollision.l0 k y0 y1 y2) (spec_ExtractCollision.l0 (k + 1) y0 y1 y2))
  | 0 => ⟨fun _ _ _ _ _ _ _ _ r h => by simp [spec_ExtractCollision.j0] at h, fun _ _ _ _ _ _ r h => by simp [spec_ExtractCollision.j1] at h, fun _ _ _ r h => by simp [spec_ExtractCollision.l0] at h⟩
  | k + 1 => by
    obtain ⟨ih0, ih1, ih2⟩ := spec_ExtractCollision.mono_l k
    refine ⟨?_, ?_, ?_⟩
    · intro y0 y1 y2 y3 y4 y5 y6 y7
      unfold spec_ExtractCollision.j0
      repeat' first
      | (with_reducible exact ih0 _ _ _ _ _ _ _ _)
      | (with_reducible exact ih1 _ _ _ _ _ _)
      | (with_reducible exact ih2 _ _ _)
      | (with_reducible exact spec_l04Ask.mono _ _ _ _ _ _)
      | (with_reducible exact spec_l04Check.mono _ _ _ _ _ _)
      | (with_reducible exact spec_l04Up.mono _ _ _ _)
      | (with_reducible exact LeO.refl _)
      | (with_reducible exact LeO.none _)
      | (with_reducible refine LeO.ite ?_ ?_)
      | (with_reducible refine LeO.bind ?_ (fun _ => ?_))
      | exact ih0 _ _ _ _ _ _ _ _
      | exact ih1 _ _ _ _ _ _
      | exact ih2 _ _ _
      | exact spec_l04Ask.mono _ _ _ _ _ _
      | exact spec_l04Check.mono _ _ _ _ _ _
      | exact spec_l04Up.mono _ _ _ _
      | exact LeO.none _
      | refine LeO.ite ?_ ?_
      | refine LeO.bind ?_ (fun _ => ?_)
    · intro y0 y1 y2 y3 y4 y5
      unfold spec_ExtractCollision.j1
      repeat' first
      | (with_reducible exact ih0 _ _ _ _ _ _ _ _)
      | (with_reducible exact ih1 _ _ _ _ _ _)
      | (with_reducible exact ih2 _ _ _)
      | (with_reducible exact spec_l04Ask.mono _ _ _ _ _ _)
      | (with_reducible exact spec_l04Check.mono _ _ _ _ _ _)
      | (with_reducible exact spec_l04Up.mono _ _ _ _)
      | (with_reducible exact LeO.refl _)
      | (with_reducible exact LeO.none _)
      | (with_reducible refine LeO.ite ?_ ?_)
      | (with_reducible refine LeO.bind ?_ (fun _ => ?_))
      | exact ih0 _ _ _ _ _ _ _ _
      | exact ih1 _ _ _ _ _ _
      | exact ih2 _ _ _
      | exact spec_l04Ask.mono _ _ _ _ _ _
      | exact spec_l04Check.mono _ _ _ _ _ _
      | exact spec_l04Up.mono _ _ _ _
      | exact LeO.none _
      | refine LeO.ite ?_ ?_
      | refine LeO.bind ?_ (fun _ => ?_)
    · intro y0 y1 y2
      unfold spec_ExtractCollision.l0
      repeat' first
      | (with_reducible exact ih0 _ _ _ _ _ _ _ _)
      | (with_reducible exact ih1 _ _ _ _ _ _)
      | (with_reducible exact ih2 _ _ _)
      | (with_reducible exact spec_l04Ask.mono _ _ _ _ _ _)
      | (with_reducible exact spec_l04Check.mono _ _ _ _ _ _)
      | (with_reducible exact spec_l04Up.mono _ _ _ _)
      | (with_reducible exact LeO.refl _)
      | (with_reducible exact LeO.none _)
      | (with_reducible refine LeO.ite ?_ ?_)
      | (with_reducible refine LeO.bind ?_ (fun _ => ?_))
      | exact ih0 _ _ _ _ _ _ _ _
      | exact ih1 _ _ _ _ _ _
      | exact ih2 _ _ _
      | exact spec_l04Ask.mono _ _ _ _ _ _
      | exact spec_l04Check.mono _ _ _ _ _ _
      | exact spec_l04Up.mono _ _ _ _
      | exact LeO.none _
      | refine LeO.ite ?_ ?_
      | refine LeO.bind ?_ (fun _ => ?_)
theorem spec_ExtractCollision.mono : ∀ a0 a1 a2 a3 a4 a5 a6 k, LeO (spec_ExtractCollision.f k a0 a1 a2 a3 a4 a5 a6) (spec_ExtractCollision.f (k + 1) a0 a1 a2 a3 a4 a5 a6) := by
  intro a0 a1 a2 a3 a4 a5 a6 k
  obtain ⟨ih0, ih1, ih2⟩ := spec_ExtractCollision.mono_l k
  unfold spec_ExtractCollision.f
  repeat' first
      | (with_reducible exact ih0 _ _ _ _ _ _ _ _)
      | (with_reducible exact ih1 _ _ _ _ _ _)
      | (with_reducible exact ih2 _ _ _)
      | (with_reducible exact spec_l04Ask.mono _ _ _ _ _ _)
      | (with_reducible exact spec_l04Check.mono _ _ _ _ _ _)
      | (with_reducible exact spec_l04Up.mono _ _ _ _)
      | (with_reducible exact LeO.refl _)
      | (with_reducible exact LeO.none _)
      | (with_reducible refine LeO.ite ?_ ?_)
      | (with_reducible refine LeO.bind ?_ (fun _ => ?_))
      | exact ih0 _ _ _ _ _ _ _ _
      | exact ih1 _ _ _ _ _ _
      | exact ih2 _ _ _
      | exact spec_l04Ask.mono _ _ _ _ _ _
      | exact spec_l04Check.mono _ _ _ _ _ _
      | exact spec_l04Up.mono _ _ _ _
      | exact LeO.none _
      | refine LeO.ite ?_ ?_
      | refine LeO.bind ?_ (fun _ => ?_)
def spec_ExtractCollision.T16 : Bool × List (List Nat × List Nat) := (true, [([], []), ([], []), ([0, 1], [0, 1]), ([2], [2]), ([], []), ([], []), ([4, 5], [4, 5]), ([6], [6]), ([3, 7], [3, 7])])
def spec_ExtractCollision.B16 : List Nat := [0, 0, 3, 7, 0, 0, 48, 112, 255]
theorem spec_ExtractCollision.tab16 : rtab .any (opsOf Try.f50 16) = spec_ExtractCollision.T16 := by kernel_rfl
theorem spec_ExtractCollision.bits16 : waitsOk spec_ExtractCollision.T16.2 spec_ExtractCollision.B16 = true := by kernel_rfl
def spec_ExtractCollision.T17 : Bool × List (List Nat × List Nat) := (true, [([], []), ([], []), ([0, 1], [0, 1]), ([2], [2]), ([], []), ([], []), ([4, 5], [4, 5]), ([6], [6]), ([3, 7], [3, 7]), ([8, 0, 1, 2, 3, 4, 5, 6, 7, 8], [8]), ([9, 0, 1, 2, 3, 4, 5, 6, 7, 8, 9], [])])
def spec_ExtractCollision.B17 : List Nat := [0, 0, 3, 7, 0, 0, 48, 112, 255, 511, 1023]
theorem spec_ExtractCollision.tab17 : rtab .any (opsOf Try.f50 17) = spec_ExtractCollision.T17 := by kernel_rfl
theorem spec_ExtractCollision.bits17 : waitsOk spec_ExtractCollision.T17.2 spec_ExtractCollision.B17 = true := by kernel_rfl
set_option maxHeartbeats 8000000 in
set_option maxRecDepth 100000 in
theorem spec_ExtractCollision.calls (k : Nat) (a0 : ByteArray) (a1 : Int) (a2 : Int) (a3 : ByteArray) (A4 : Option Addr) (c4 : Nat) (l4 : List ByteArray) (a5 : ByteArray) (A6 : Option Addr) (c6 : Nat) (l6 : List ByteArray) (r1 : ByteArray) (r2 : ByteArray) (r3 : Int) (w : World) (hr4 : Kd.C Kd.string w A4 l4.length l4) (hc4 : l4.length ≤ c4) (hr6 : Kd.C Kd.string w A6 l6.length l6) (hc6 : l6.length ≤ c6) (h : spec_ExtractCollision.f k a0 a1 a2 a3 l4 a5 l6 = some (r1, r2, r3)) :
    Calls Try.prog 50 #[.string a0, .int .i64 a1, .int .i64 a2, .string a3, .slice A4 l4.length c4, .string a5, .slice A6 l6.length c6] w fun e w' => e = .returned (.tuple #[.agg #[.string r1, .string r2], .int .i64 r3]) ∧ Below w.heap.size w w' := by
  have hu54 := Try.underlying54
  have HR4 := Aside0.mk hr4
  have HC4 := Aside0.mk hc4
  clear hr4 hc4
  have HR6 := Aside0.mk hr6
  have HC6 := Aside0.mk hc6
  clear hr6 hc6
  have HB := Aside0.mk (Below.refl w.heap.size w)
  have H : (if (a0.size : Int) > 65536 then (spec_ExtractCollision.j0 k a0 a1 a2 a3 l4 a5 l6 true) else (if (a3.size : Int) > 65536 then (spec_ExtractCollision.j0 k a0 a1 a2 a3 l4 a5 l6 true) else (if (l4.length : Int) > 4096 then (spec_ExtractCollision.j0 k a0 a1 a2 a3 l4 a5 l6 true) else (if (a5.size : Int) > 65536 then (spec_ExtractCollision.j0 k a0 a1 a2 a3 l4 a5 l6 true) else (spec_ExtractCollision.j0 k a0 a1 a2 a3 l4 a5 l6 (decide ((l6.length : Int) > 4096))))))) = some (r1, r2, r3) := h
  clear h
  have HC8 := Aside0.mk H
  clear H
  go_enter Try.func50, Try.ntmps50
  go_upto_region 1 with (first | ((with_reducible refine gate_dst (N := 14) rfl ?_); (try (refine gate_guard (by rfl) ?_; dsimp only)); refine box_event ?hg (N := 14) ?hd (cs := #[.string (⟨#[]⟩ : ByteArray), .string (⟨#[]⟩ : ByteArray)]) (t := 54) ?hr ?_; (case hd => rfl); (case hg => rfl); (case hr => first | (go_simp; done) | (go_simp; rfl)); intro gb1130 hg w9 hbox hb; have n0_ := Aside0.mk (below_step (by repeat (first | (with_reducible first | exact HB.out | apply below_alloc | apply pw_below_drewN | apply below_drew1) | exact HB.out)) hb); have n1_ := Aside0.mk (hbox); have n2_ := Aside0.mk ((by rw [hg]; exact (below_size (by repeat (first | (with_reducible first | exact HB.out | apply below_alloc | apply pw_below_drewN | apply below_drew1) | exact HB.out))) : w.heap.size ≤ gb1130)); have n3_ := Aside0.mk ((by rw [hg]; exact (below_size (by repeat (first | (with_reducible first | exact HB.out | apply below_alloc | apply pw_below_drewN | apply below_drew1) | exact HB.out))) : w.heap.size ≤ gb1130)); clear HB; have HB := n0_; have BK1130 := n1_; have GW1130 := n2_; have GE1130 := n3_; clear n0_ n1_ n2_ n3_; clear hb hbox hg))
  (try simp only [Act.put, List.setIfInBounds_toArray, List.set_cons_zero, List.set_cons_succ])
  go_cut [45] (fun v45 wc => ∃ (kq : Nat) (x45_7 : Bool), v45 = .bool x45_7 ∧ Aside0 (spec_ExtractCollision.j0 kq a0 a1 a2 a3 l4 a5 l6 x45_7 = some (r1, r2, r3)) ∧ Aside0 (kq ≤ k) ∧ Aside0 (wc.heap[gb1130]? = some (.cells #[.string (⟨#[]⟩ : ByteArray), .string (⟨#[]⟩ : ByteArray)] 54 (0, 0))) ∧ Aside0 (Below w.heap.size w wc))
  case first =>
    have H := HC8.out
    clear HC8
    by_cases c10 : (a0.size : Int) > 65536
    · rw [if_pos c10] at H
      have c10b0 : decide (65536 < (a0.size : Int)) = true := decide_eq_true c10
      have c10b1 : decide (65536 < a0.size) = true := decide_eq_true (by omega)
      clear c10
      (first | rw [c10b0] | (simp only [i64_w, i32_w]; rw [c10b0]) | skip)
      have H' := Aside0.mk H
      clear H
      go_wp2
      go_meet
      case rel => exact ⟨_, (true), (by first | rfl | (simp; done) | (simp [*]; done)), H', ⟨by first | omega | exact Nat.le_refl _⟩, ⟨by (with_reducible repeat (first | apply bN | apply bd | apply bA)); exact BK1130.out⟩, ⟨by repeat (first | (with_reducible first | exact HB.out | apply below_alloc | apply pw_below_drewN | apply below_drew1 | refine below_set ?_ GE1130.out) | exact HB.out)⟩⟩
    · rw [if_neg c10] at H
      have c10b0 : decide (65536 < (a0.size : Int)) = false := decide_eq_false c10
      have c10b1 : decide (65536 < a0.size) = false := decide_eq_false (by omega)
      clear c10
      (first | rw [c10b0] | (simp only [i64_w, i32_w]; rw [c10b0]) | skip)
      by_cases c11 : (a3.size : Int) > 65536
      · rw [if_pos c11] at H
        have c11b0 : decide (65536 < (a3.size : Int)) = true := decide_eq_true c11
        have c11b1 : decide (65536 < a3.size) = true := decide_eq_true (by omega)
        clear c11
        have H' := Aside0.mk H
        clear H
        go_wp2
        go_meet
        case rel => exact ⟨_, (true), (by first | rfl | (simp; done) | (simp [*]; done)), H', ⟨by first | omega | exact Nat.le_refl _⟩, ⟨by (with_reducible repeat (first | apply bN | apply bd | apply bA)); exact BK1130.out⟩, ⟨by repeat (first | (with_reducible first | exact HB.out | apply below_alloc | apply pw_below_drewN | apply below_drew1 | refine below_set ?_ GE1130.out) | exact HB.out)⟩⟩
      · rw [if_neg c11] at H
        have c11b0 : decide (65536 < (a3.size : Int)) = false := decide_eq_false c11
        have c11b1 : decide (65536 < a3.size) = false := decide_eq_false (by omega)
        clear c11
        by_cases c12 : (l4.length : Int) > 4096
        · rw [if_pos c12] at H
          have c12b0 : decide (4096 < (l4.length : Int)) = true := decide_eq_true c12
          have c12b1 : decide (4096 < l4.length) = true := decide_eq_true (by omega)
          clear c12
          have H' := Aside0.mk H
          clear H
          go_wp2
          go_meet
          case rel => exact ⟨_, (true), (by first | rfl | (simp; done) | (simp [*]; done)), H', ⟨by first | omega | exact Nat.le_refl _⟩, ⟨by (with_reducible repeat (first | apply bN | apply bd | apply bA)); exact BK1130.out⟩, ⟨by repeat (first | (with_reducible first | exact HB.out | apply below_alloc | apply pw_below_drewN | apply below_drew1 | refine below_set ?_ GE1130.out) | exact HB.out)⟩⟩
        · rw [if_neg c12] at H
          have c12b0 : decide (4096 < (l4.length : Int)) = false := decide_eq_false c12
          have c12b1 : decide (4096 < l4.length) = false := decide_eq_false (by omega)
          clear c12
          by_cases c13 : (a5.size : Int) > 65536
          · rw [if_pos c13] at H
            have c13b0 : decide (65536 < (a5.size : Int)) = true := decide_eq_true c13
            have c13b1 : decide (65536 < a5.size) = true := decide_eq_true (by omega)
            clear c13
            have H' := Aside0.mk H
            clear H
            go_wp2
            go_meet
            case rel => exact ⟨_, (true), (by first | rfl | (simp; done) | (simp [*]; done)), H', ⟨by first | omega | exact Nat.le_refl _⟩, ⟨by (with_reducible repeat (first | apply bN | apply bd | apply bA)); exact BK1130.out⟩, ⟨by repeat (first | (with_reducible first | exact HB.out | apply below_alloc | apply pw_below_drewN | apply below_drew1 | refine below_set ?_ GE1130.out) | exact HB.out)⟩⟩
          · rw [if_neg c13] at H
            have c13b0 : decide (65536 < (a5.size : Int)) = false := decide_eq_false c13
            have c13b1 : decide (65536 < a5.size) = false := decide_eq_false (by omega)
            clear c13
            have H' := Aside0.mk H
            clear H
            go_wp2
            go_meet
            case rel => exact ⟨_, (decide ((l6.length : Int) > 4096)), (by first | rfl | (simp; done) | (simp [*]; done)), H', ⟨by first | omega | exact Nat.le_refl _⟩, ⟨by (with_reducible repeat (first | apply bN | apply bd | apply bA)); exact BK1130.out⟩, ⟨by repeat (first | (with_reducible first | exact HB.out | apply below_alloc | apply pw_below_drewN | apply below_drew1 | refine below_set ?_ GE1130.out) | exact HB.out)⟩⟩
  case rest =>
    clear HC8
    try clear c1
    try clear p2
    try clear c4
    try clear c5
    try clear c6
    try clear c10
    try clear c10b0
    try clear c10b1
    try clear c11
    try clear c11b0
    try clear c11b1
    try clear c12
    try clear c12b0
    try clear c12b1
    try clear c13
    try clear c13b0
    try clear c13b1
    obtain ⟨kq, x45_7, rfl, HA, HJ7, BK1130, HB⟩ := hcut
    cases kq with
    | zero => exact absurd HA.out (by simp [spec_ExtractCollision.j0])
    | succ kj7 =>
      have H := HA.out
      clear HA
      simp only [spec_ExtractCollision.j0] at H
      by_cases c14 : x45_7 = true
      · subst c14
        have H1 : (some ((⟨#[]⟩ : ByteArray), (⟨#[]⟩ : ByteArray), 2)) = some (r1, r2, r3) := by rw [if_pos rfl] at H; exact H
        clear H
        have H := H1
        clear H1
        simp only [Option.some.injEq, Prod.mk.injEq] at H
        obtain ⟨rfl, rfl, rfl⟩ := H
        have hcz15_0 : wc.cell? ⟨gb1130, 0, none⟩ = some (.string (⟨#[]⟩ : ByteArray)) := (blk_cell BK1130.out 0).trans rfl
        have hcz15_1 : wc.cell? ⟨gb1130, 1, none⟩ = some (.string (⟨#[]⟩ : ByteArray)) := (blk_cell BK1130.out 1).trans rfl
        have hfz15_0 := blk_frozen BK1130.out 0
        have hfz15_1 := blk_frozen BK1130.out 1
        go_wp2
        refine bodyPost_ret (results_ct rfl _ _ gb1130 54 #[.string (⟨#[]⟩ : ByteArray), .string (⟨#[]⟩ : ByteArray)] (0, 0) _ rfl (by (with_reducible repeat (first | apply bN | apply bd | apply bA)); refine blk_put (cs := #[.string (⟨#[]⟩ : ByteArray), .string (⟨#[]⟩ : ByteArray)]) ?_ 1 _ rfl; (with_reducible repeat (first | apply bN | apply bd | apply bA)); refine blk_put (cs := #[.string (⟨#[]⟩ : ByteArray), .string (⟨#[]⟩ : ByteArray)]) ?_ 0 _ rfl; (with_reducible repeat (first | apply bN | apply bd | apply bA)); exact BK1130.out) Try.underlying54 rfl (by kernel_rfl)) rfl ?_
        exact ⟨by first | rfl | (simp [errW_none, errW_some] <;> rfl) | (simp [*, errW_none, errW_some] <;> rfl), by repeat (first | (with_reducible first | exact HB.out | apply below_alloc | apply pw_below_drewN | apply below_drew1 | refine below_set ?_ GE1130.out) | exact HB.out)⟩
      · replace c14 := Bool.eq_false_iff.mpr c14
        subst c14
        have H1 : ((spec_l04Ask.f kj7 a0 a1 a2 a3 l4).bind fun t1131 => (if t1131 = 0 then ((spec_l04Ask.f kj7 a0 a1 a2 a5 l6).bind fun t1132 => (if t1132 = 0 then ((spec_l04Check.f kj7 a0 a1 a2 a3 l4).bind fun t1133 => (if t1133 = true then ((spec_l04Check.f kj7 a0 a1 a2 a5 l6).bind fun t1134 => (spec_ExtractCollision.j1 kj7 a2 a3 l4 a5 l6 (!t1134))) else (spec_ExtractCollision.j1 kj7 a2 a3 l4 a5 l6 true))) else (some ((⟨#[]⟩ : ByteArray), (⟨#[]⟩ : ByteArray), t1132)))) else (some ((⟨#[]⟩ : ByteArray), (⟨#[]⟩ : ByteArray), t1131)))) = some (r1, r2, r3) := by rw [if_neg (show ¬ (false = true) by decide)] at H; exact H
        clear H
        have H := H1
        clear H1
        replace H := Option.bind_eq_some_iff.mp H
        obtain ⟨t1131, A160, H⟩ := H
        replace H : (if t1131 = 0 then ((spec_l04Ask.f kj7 a0 a1 a2 a5 l6).bind fun t1132 => (if t1132 = 0 then ((spec_l04Check.f kj7 a0 a1 a2 a3 l4).bind fun t1133 => (if t1133 = true then ((spec_l04Check.f kj7 a0 a1 a2 a5 l6).bind fun t1134 => (spec_ExtractCollision.j1 kj7 a2 a3 l4 a5 l6 (!t1134))) else (spec_ExtractCollision.j1 kj7 a2 a3 l4 a5 l6 true))) else (some ((⟨#[]⟩ : ByteArray), (⟨#[]⟩ : ByteArray), t1132)))) else (some ((⟨#[]⟩ : ByteArray), (⟨#[]⟩ : ByteArray), t1131))) = some (r1, r2, r3) := H
        have A16 := Aside0.mk A160
        clear A160
        by_cases c17 : t1131 = 0
        · rw [if_pos c17] at H
          have c17b0 : (t1131 == 0) = true := beq_iff_eq.mpr c17
          have c17b1 : (t1131 != 0) = false := bne_eq_false_iff_eq.mpr c17
          clear c17
          replace H := Option.bind_eq_some_iff.mp H
          obtain ⟨t1132, A180, H⟩ := H
          replace H : (if t1132 = 0 then ((spec_l04Check.f kj7 a0 a1 a2 a3 l4).bind fun t1133 => (if t1133 = true then ((spec_l04Check.f kj7 a0 a1 a2 a5 l6).bind fun t1134 => (spec_ExtractCollision.j1 kj7 a2 a3 l4 a5 l6 (!t1134))) else (spec_ExtractCollision.j1 kj7 a2 a3 l4 a5 l6 true))) else (some ((⟨#[]⟩ : ByteArray), (⟨#[]⟩ : ByteArray), t1132))) = some (r1, r2, r3) := H
          have A18 := Aside0.mk A180
          clear A180
          by_cases c19 : t1132 = 0
          · rw [if_pos c19] at H
            have c19b0 : (t1132 == 0) = true := beq_iff_eq.mpr c19
            have c19b1 : (t1132 != 0) = false := bne_eq_false_iff_eq.mpr c19
            clear c19
            have HC20 := Aside0.mk H
            clear H
            go_upto_region 9 with (first | ((with_reducible refine gate_callee (f := 108) rfl ?_); refine goesL_ (some 52) rfl rfl Try.func108 (by kernel_rfl) rfl #[.string a0, .int .i64 a1, .int .i64 a2, .string a3, .slice A4 l4.length c4] rfl (by (try simp only [List.map_toArray, List.map_cons, List.map_nil]); first | done | rfl | (simp only [List.length_drop, List.length_take]; rfl)) ?_; (with_reducible refine (spec_l04Ask.calls kj7 a0 a1 a2 a3 _ _ l4 t1131 _ ?side1 ?side2 A16.out).mono ?_); (case side1 => repeat (first | exact (Kd.C_below HR4.out HB.out) | (with_reducible refine Kd.C_alloc ?_ _) | (with_reducible refine Kd.C_drewN ?_ _) | (with_reducible refine Kd.C_drew ?_))); (case side2 => exact HC4.out); rintro e w' ⟨rfl, ⟨nd, rfl⟩⟩; refine ⟨_, rfl, ?_⟩) | ((with_reducible refine gate_callee (f := 108) rfl ?_); refine goesL_ (some 62) rfl rfl Try.func108 (by kernel_rfl) rfl #[.string a0, .int .i64 a1, .int .i64 a2, .string a5, .slice A6 l6.length c6] rfl (by (try simp only [List.map_toArray, List.map_cons, List.map_nil]); first | done | rfl | (simp only [List.length_drop, List.length_take]; rfl)) ?_; (with_reducible refine (spec_l04Ask.calls kj7 a0 a1 a2 a5 _ _ l6 t1132 _ ?side1 ?side2 A18.out).mono ?_); (case side1 => repeat (first | exact (Kd.C_below HR6.out (by repeat (first | (with_reducible first | exact HB.out | apply below_alloc | apply pw_below_drewN | apply below_drew1 | refine below_set ?_ GE1130.out) | exact HB.out))) | (with_reducible refine Kd.C_alloc ?_ _) | (with_reducible refine Kd.C_drewN ?_ _) | (with_reducible refine Kd.C_drew ?_))); (case side2 => exact HC6.out); rintro e w' ⟨rfl, ⟨nd, rfl⟩⟩; refine ⟨_, rfl, ?_⟩))
            (try simp only [Act.put, List.setIfInBounds_toArray, List.set_cons_zero, List.set_cons_succ])
            go_cut [82] (fun v82 wc => ∃ (kq : Nat) (x82_19 : Bool), v82 = .bool x82_19 ∧ Aside0 (spec_ExtractCollision.j1 kq a2 a3 l4 a5 l6 x82_19 = some (r1, r2, r3)) ∧ Aside0 (kq ≤ kj7) ∧ Aside0 (wc.heap[gb1130]? = some (.cells #[.string (⟨#[]⟩ : ByteArray), .string (⟨#[]⟩ : ByteArray)] 54 (0, 0))) ∧ Aside0 (Below w.heap.size w wc))
            case first =>
              have H := HC20.out
              clear HC20
              replace H := Option.bind_eq_some_iff.mp H
              obtain ⟨t1133, A210, H⟩ := H
              replace H : (if t1133 = true then ((spec_l04Check.f kj7 a0 a1 a2 a5 l6).bind fun t1134 => (spec_ExtractCollision.j1 kj7 a2 a3 l4 a5 l6 (!t1134))) else (spec_ExtractCollision.j1 kj7 a2 a3 l4 a5 l6 true)) = some (r1, r2, r3) := H
              have A21 := Aside0.mk A210
              clear A210
              by_cases c22 : t1133 = true
              · subst c22
                have H1 : ((spec_l04Check.f kj7 a0 a1 a2 a5 l6).bind fun t1134 => (spec_ExtractCollision.j1 kj7 a2 a3 l4 a5 l6 (!t1134))) = some (r1, r2, r3) := by rw [if_pos rfl] at H; exact H
                clear H
                have H := H1
                clear H1
                replace H := Option.bind_eq_some_iff.mp H
                obtain ⟨t1134, A230, H⟩ := H
                replace H : (spec_ExtractCollision.j1 kj7 a2 a3 l4 a5 l6 (!t1134)) = some (r1, r2, r3) := H
                have A23 := Aside0.mk A230
                clear A230
                have H' := Aside0.mk H
                clear H
                go_wp2_with (first | ((with_reducible refine gate_callee (f := 109) rfl ?_); refine goesL_ (some 72) rfl rfl Try.func109 (by kernel_rfl) rfl #[.string a0, .int .i64 a1, .int .i64 a2, .string a3, .slice A4 l4.length c4] rfl (by (try simp only [List.map_toArray, List.map_cons, List.map_nil]); first | done | rfl | (simp only [List.length_drop, List.length_take]; rfl)) ?_; (with_reducible refine (spec_l04Check.calls kj7 a0 a1 a2 a3 _ _ l4 true _ ?side1 ?side2 A21.out).mono ?_); (case side1 => repeat (first | exact (Kd.C_below HR4.out HB.out) | (with_reducible refine Kd.C_alloc ?_ _) | (with_reducible refine Kd.C_drewN ?_ _) | (with_reducible refine Kd.C_drew ?_))); (case side2 => exact HC4.out); rintro e w24 ⟨rfl, hb⟩; refine ⟨_, rfl, ?_⟩; have n0_ := Aside0.mk (blk_below (g := gb1130) (o := .cells #[.string (⟨#[]⟩ : ByteArray), .string (⟨#[]⟩ : ByteArray)] 54 (0, 0)) (by (with_reducible repeat (first | apply bN | apply bd | apply bA)); exact BK1130.out) hb); have n1_ := Aside0.mk (below_step (by repeat (first | (with_reducible first | exact HB.out | apply below_alloc | apply pw_below_drewN | apply below_drew1 | refine below_set ?_ GE1130.out) | exact HB.out)) hb); clear BK1130; clear HB; have BK1130 := n0_; have HB := n1_; clear n0_ n1_; (try clear hb); (try clear hb2); (try clear hk); (try clear hi)) | (go_at_call 109; (with_reducible refine (spec_l04Check.calls kj7 a0 a1 a2 a5 _ _ l6 t1134 _ ?side1 ?side2 A23.out).mono ?_); (case side1 => repeat (first | exact (Kd.C_below HR6.out HB.out) | (with_reducible refine Kd.C_alloc ?_ _) | (with_reducible refine Kd.C_drewN ?_ _) | (with_reducible refine Kd.C_drew ?_))); (case side2 => exact HC6.out); rintro e w25 ⟨rfl, hb⟩; have n0_ := Aside0.mk (blk_below (g := gb1130) (o := .cells #[.string (⟨#[]⟩ : ByteArray), .string (⟨#[]⟩ : ByteArray)] 54 (0, 0)) (by (with_reducible repeat (first | apply bN | apply bd | apply bA)); exact BK1130.out) hb); have n1_ := Aside0.mk (below_step (by repeat (first | (with_reducible first | exact HB.out | apply below_alloc | apply pw_below_drewN | apply below_drew1 | refine below_set ?_ GE1130.out) | exact HB.out)) hb); clear BK1130; clear HB; have BK1130 := n0_; have HB := n1_; clear n0_ n1_; (try clear hb); (try clear hb2); (try clear hk); (try clear hi)))
                go_meet
                case rel => exact ⟨_, (!t1134), (by first | rfl | (simp; done) | (simp [*]; done)), H', ⟨by have := HJ7.out; first | omega | exact Nat.le_refl _⟩, ⟨by (with_reducible repeat (first | apply bN | apply bd | apply bA)); exact BK1130.out⟩, ⟨by repeat (first | (with_reducible first | exact HB.out | apply below_alloc | apply pw_below_drewN | apply below_drew1 | refine below_set ?_ GE1130.out) | exact HB.out)⟩⟩
              · replace c22 := Bool.eq_false_iff.mpr c22
                subst c22
                have H1 : (spec_ExtractCollision.j1 kj7 a2 a3 l4 a5 l6 true) = some (r1, r2, r3) := by rw [if_neg (show ¬ (false = true) by decide)] at H; exact H
                clear H
                have H := H1
                clear H1
                have H' := Aside0.mk H
                clear H
                go_wp2_with (first | ((with_reducible refine gate_callee (f := 109) rfl ?_); refine goesL_ (some 72) rfl rfl Try.func109 (by kernel_rfl) rfl #[.string a0, .int .i64 a1, .int .i64 a2, .string a3, .slice A4 l4.length c4] rfl (by (try simp only [List.map_toArray, List.map_cons, List.map_nil]); first | done | rfl | (simp only [List.length_drop, List.length_take]; rfl)) ?_; (with_reducible refine (spec_l04Check.calls kj7 a0 a1 a2 a3 _ _ l4 false _ ?side1 ?side2 A21.out).mono ?_); (case side1 => repeat (first | exact (Kd.C_below HR4.out HB.out) | (with_reducible refine Kd.C_alloc ?_ _) | (with_reducible refine Kd.C_drewN ?_ _) | (with_reducible refine Kd.C_drew ?_))); (case side2 => exact HC4.out); rintro e w26 ⟨rfl, hb⟩; refine ⟨_, rfl, ?_⟩; have n0_ := Aside0.mk (blk_below (g := gb1130) (o := .cells #[.string (⟨#[]⟩ : ByteArray), .string (⟨#[]⟩ : ByteArray)] 54 (0, 0)) (by (with_reducible repeat (first | apply bN | apply bd | apply bA)); exact BK1130.out) hb); have n1_ := Aside0.mk (below_step (by repeat (first | (with_reducible first | exact HB.out | apply below_alloc | apply pw_below_drewN | apply below_drew1 | refine below_set ?_ GE1130.out) | exact HB.out)) hb); clear BK1130; clear HB; have BK1130 := n0_; have HB := n1_; clear n0_ n1_; (try clear hb); (try clear hb2); (try clear hk); (try clear hi)))
                go_meet
                case rel => exact ⟨_, (true), (by first | rfl | (simp; done) | (simp [*]; done)), H', ⟨by have := HJ7.out; first | omega | exact Nat.le_refl _⟩, ⟨by (with_reducible repeat (first | apply bN | apply bd | apply bA)); exact BK1130.out⟩, ⟨by repeat (first | (with_reducible first | exact HB.out | apply below_alloc | apply pw_below_drewN | apply below_drew1 | refine below_set ?_ GE1130.out) | exact HB.out)⟩⟩
            case rest =>
              clear HC20
              try clear c1
              try clear c2
              try clear p2
              try clear c4
              try clear c5
              try clear c6
              try clear c10
              try clear c10b0
              try clear c10b1
              try clear c11
              try clear c11b0
              try clear c11b1
              try clear c12
              try clear c12b0
              try clear c12b1
              try clear c13
              try clear c13b0
              try clear c13b1
              try clear c14
              try clear c17
              try clear c17b0
              try clear c17b1
              try clear c19
              try clear c19b0
              try clear c19b1
              try clear c22
              try clear hcz15_0
              try clear hcz15_1
              try clear hfz15_0
              try clear hfz15_1
              try clear p2
              obtain ⟨kq, x82_19, rfl, HA, HJ19, BK1130, HB⟩ := hcut
              cases kq with
              | zero => exact absurd HA.out (by simp [spec_ExtractCollision.j1])
              | succ kj19 =>
                have H := HA.out
                clear HA
                simp only [spec_ExtractCollision.j1] at H
                by_cases c27 : x82_19 = true
                · subst c27
                  have H1 : (some ((⟨#[]⟩ : ByteArray), (⟨#[]⟩ : ByteArray), 9)) = some (r1, r2, r3) := by rw [if_pos rfl] at H; exact H
                  clear H
                  have H := H1
                  clear H1
                  simp only [Option.some.injEq, Prod.mk.injEq] at H
                  obtain ⟨rfl, rfl, rfl⟩ := H
                  have hcz28_0 : wc.cell? ⟨gb1130, 0, none⟩ = some (.string (⟨#[]⟩ : ByteArray)) := (blk_cell BK1130.out 0).trans rfl
                  have hcz28_1 : wc.cell? ⟨gb1130, 1, none⟩ = some (.string (⟨#[]⟩ : ByteArray)) := (blk_cell BK1130.out 1).trans rfl
                  have hfz28_0 := blk_frozen BK1130.out 0
                  have hfz28_1 := blk_frozen BK1130.out 1
                  go_wp2
                  refine bodyPost_ret (results_ct rfl _ _ gb1130 54 #[.string (⟨#[]⟩ : ByteArray), .string (⟨#[]⟩ : ByteArray)] (0, 0) _ rfl (by (with_reducible repeat (first | apply bN | apply bd | apply bA)); refine blk_put (cs := #[.string (⟨#[]⟩ : ByteArray), .string (⟨#[]⟩ : ByteArray)]) ?_ 1 _ rfl; (with_reducible repeat (first | apply bN | apply bd | apply bA)); refine blk_put (cs := #[.string (⟨#[]⟩ : ByteArray), .string (⟨#[]⟩ : ByteArray)]) ?_ 0 _ rfl; (with_reducible repeat (first | apply bN | apply bd | apply bA)); exact BK1130.out) Try.underlying54 rfl (by kernel_rfl)) rfl ?_
                  exact ⟨by first | rfl | (simp [errW_none, errW_some] <;> rfl) | (simp [*, errW_none, errW_some] <;> rfl), by repeat (first | (with_reducible first | exact HB.out | apply below_alloc | apply pw_below_drewN | apply below_drew1 | refine below_set ?_ GE1130.out) | exact HB.out)⟩
                · replace c27 := Bool.eq_false_iff.mpr c27
                  subst c27
                  have H1 : ((spec_l04Up.f kj19 a2 a3 l4).bind fun bt1135 => ((spec_l04Up.f kj19 a2 a5 l6).bind fun bt1139 => (spec_ExtractCollision.l0 kj19 bt1135.1 bt1139.1 (wrap64 ((bt1135.1.length : Int) - 1))))) = some (r1, r2, r3) := by rw [if_neg (show ¬ (false = true) by decide)] at H; exact H
                  clear H
                  have H := H1
                  clear H1
                  replace H := Option.bind_eq_some_iff.mp H
                  obtain ⟨⟨t1135, t1136⟩, A290, H⟩ := H
                  replace H : ((spec_l04Up.f kj19 a2 a5 l6).bind fun bt1139 => (spec_ExtractCollision.l0 kj19 t1135 bt1139.1 (wrap64 ((t1135.length : Int) - 1)))) = some (r1, r2, r3) := H
                  have A29 := Aside0.mk A290
                  clear A290
                  replace H := Option.bind_eq_some_iff.mp H
                  obtain ⟨⟨t1139, t1140⟩, A300, H⟩ := H
                  replace H : (spec_ExtractCollision.l0 kj19 t1135 t1139 (wrap64 ((t1135.length : Int) - 1))) = some (r1, r2, r3) := H
                  have A30 := Aside0.mk A300
                  clear A300
                  have H' := Aside0.mk H
                  clear H
                  go_wp2_with (first | ((with_reducible refine gate_callee (f := 112) rfl ?_); refine goesL_ (some 88) rfl rfl Try.func112 (by kernel_rfl) rfl #[.int .i64 a2, .string a3, .slice A4 l4.length c4] rfl (by (try simp only [List.map_toArray, List.map_cons, List.map_nil]); first | done | rfl | (simp only [List.length_drop, List.length_take]; rfl)) ?_; (with_reducible refine (spec_l04Up.calls kj19 a2 a3 _ _ l4 t1135 t1136 _ ?side1 ?side2 A29.out).mono ?_); (case side1 => repeat (first | exact (Kd.C_below HR4.out HB.out) | (with_reducible refine Kd.C_alloc ?_ _) | (with_reducible refine Kd.C_drewN ?_ _) | (with_reducible refine Kd.C_drew ?_))); (case side2 => exact HC4.out); rintro e w31 ⟨v1137, rfl, ho0, hb⟩; refine ⟨_, rfl, ?_⟩; have n0_ := Aside0.mk (Kd.R_lower ho0 (below_size (by repeat (first | (with_reducible first | exact HB.out | apply below_alloc | apply pw_below_drewN | apply below_drew1 | refine below_set ?_ GE1130.out) | exact HB.out)))); have n1_ := Aside0.mk (blk_below (g := gb1130) (o := .cells #[.string (⟨#[]⟩ : ByteArray), .string (⟨#[]⟩ : ByteArray)] 54 (0, 0)) (by (with_reducible repeat (first | apply bN | apply bd | apply bA)); exact BK1130.out) hb); have n2_ := Aside0.mk (below_step (by repeat (first | (with_reducible first | exact HB.out | apply below_alloc | apply pw_below_drewN | apply below_drew1 | refine below_set ?_ GE1130.out) | exact HB.out)) hb); clear BK1130; clear HB; have HO1138 := n0_; have BK1130 := n1_; have HB := n2_; clear n0_ n1_ n2_; (try clear hb); (try clear hb2); (try clear hk); (try clear hi); (try clear ho0)) | ((with_reducible refine gate_callee (f := 112) rfl ?_); refine goesL_ (some 95) rfl rfl Try.func112 (by kernel_rfl) rfl #[.int .i64 a2, .string a5, .slice A6 l6.length c6] rfl (by (try simp only [List.map_toArray, List.map_cons, List.map_nil]); first | done | rfl | (simp only [List.length_drop, List.length_take]; rfl)) ?_; (with_reducible refine (spec_l04Up.calls kj19 a2 a5 _ _ l6 t1139 t1140 _ ?side1 ?side2 A30.out).mono ?_); (case side1 => repeat (first | exact (Kd.C_below HR6.out HB.out) | (with_reducible refine Kd.C_alloc ?_ _) | (with_reducible refine Kd.C_drewN ?_ _) | (with_reducible refine Kd.C_drew ?_))); (case side2 => exact HC6.out); rintro e w32 ⟨v1141, rfl, ho0, hb⟩; refine ⟨_, rfl, ?_⟩; have n0_ := Aside0.mk (Kd.R_elder' (by (with_reducible repeat (first | apply Kd.R_alloc | apply Kd.R_drewN | apply Kd.R_drew)); exact HO1138.out) (Kd.R_base ho0) hb); have n1_ := Aside0.mk (Kd.R_lower (Kd.R_new' ho0 (Kd.R_lt (by (with_reducible repeat (first | apply Kd.R_alloc | apply Kd.R_drewN | apply Kd.R_drew)); exact HO1138.out))) (below_size (by repeat (first | (with_reducible first | exact HB.out | apply below_alloc | apply pw_below_drewN | apply below_drew1 | refine below_set ?_ GE1130.out) | exact HB.out)))); have n2_ := Aside0.mk (blk_below (g := gb1130) (o := .cells #[.string (⟨#[]⟩ : ByteArray), .string (⟨#[]⟩ : ByteArray)] 54 (0, 0)) (by (with_reducible repeat (first | apply bN | apply bd | apply bA)); exact BK1130.out) hb); have n3_ := Aside0.mk (below_step (by repeat (first | (with_reducible first | exact HB.out | apply below_alloc | apply pw_below_drewN | apply below_drew1 | refine below_set ?_ GE1130.out) | exact HB.out)) hb); clear HO1138; clear BK1130; clear HB; have HO1138 := n0_; have HO1142 := n1_; have BK1130 := n2_; have HB := n3_; clear n0_ n1_ n2_ n3_; (try clear hb); (try clear hb2); (try clear hk); (try clear hi); (try clear ho0); obtain ⟨Ao33, co33, eo33⟩ := Kd.R_slice HO1138.out; subst eo33))
                  go_loopg [22] kj19 (fun kq v22 w' => ∃ (x22_3 : Int) (x1131000_3 : ByteArray) (x1131001_3 : ByteArray), v22 = .int .i64 x22_3 ∧ Aside0 (spec_ExtractCollision.l0 kq t1135 t1139 x22_3 = some (r1, r2, r3)) ∧ Aside0 (kq ≤ kj19) ∧ Aside0 (Kd.R Kd.string 9 w' w.heap.size (fun k_ => some k_ ≠ (v1141 : Value).ownBlock) (.slice Ao33 t1135.length co33) t1135) ∧ Aside0 (Kd.R Kd.string 9 w' w.heap.size (fun k_ => some k_ ≠ ((.slice Ao33 t1135.length co33) : Value).ownBlock) v1141 t1139) ∧ Aside0 (w'.heap[gb1130]? = some (.cells #[.string x1131000_3, .string x1131001_3] 54 (0, 0))) ∧ Aside0 (Below w.heap.size w w'))
                  case atStart => exact ⟨(wrap64 ((t1135.length : Int) - 1)), ((⟨#[]⟩ : ByteArray)), ((⟨#[]⟩ : ByteArray)), (by first | rfl | (simp; done) | (simp [*]; done)), H', ⟨Nat.le_refl _⟩, ⟨by (with_reducible repeat (first | apply Kd.R_alloc | apply Kd.R_drewN | apply Kd.R_drew)); exact Kd.R_mono HO1138.out (fun _ hk => hk.2)⟩, ⟨by (with_reducible repeat (first | apply Kd.R_alloc | apply Kd.R_drewN | apply Kd.R_drew)); exact Kd.R_mono HO1142.out (fun _ hk => hk.2)⟩, ⟨by (with_reducible repeat (first | apply bN | apply bd | apply bA)); exact BK1130.out⟩, ⟨by repeat (first | (with_reducible first | exact HB.out | apply below_alloc | apply pw_below_drewN | apply below_drew1 | refine below_set ?_ GE1130.out) | exact HB.out)⟩⟩
                  case round =>
                    clear H'
                    try clear c1
                    try clear c2
                    try clear p2
                    try clear c4
                    try clear c5
                    try clear c6
                    try clear p6
                    try clear c10
                    try clear c10b0
                    try clear c10b1
                    try clear c11
                    try clear c11b0
                    try clear c11b1
                    try clear c12
                    try clear c12b0
                    try clear c12b1
                    try clear c13
                    try clear c13b0
                    try clear c13b1
                    try clear c14
                    try clear c17
                    try clear c17b0
                    try clear c17b1
                    try clear c19
                    try clear c19b0
                    try clear c19b1
                    try clear c22
                    try clear c27
                    try clear hcz15_0
                    try clear hcz15_1
                    try clear hcz28_0
                    try clear hcz28_1
                    try clear hfz15_0
                    try clear hfz15_1
                    try clear hfz28_0
                    try clear hfz28_1
                    try clear p2
                    obtain ⟨x22_3, x1131000_3, x1131001_3, rfl, HA, HK3, HO_18, HO_20, BK1130, HB⟩ := hrel
                    cases gk with
                    | zero => exact absurd HA.out (by simp [spec_ExtractCollision.l0])
                    | succ k3 =>
                      have H := HA.out
                      clear HA
                      simp only [spec_ExtractCollision.l0] at H
                      by_cases c34 : x22_3 ≥ 0
                      · rw [if_pos c34] at H
                        have c34b0 : decide (0 ≤ x22_3) = true := decide_eq_true c34
                        clear c34
                        by_cases c35 : 0 ≤ x22_3
                        · rw [if_pos c35] at H
                          have c35b0 : decide (0 ≤ x22_3) = true := decide_eq_true c35
                          clear c35
                          by_cases c36 : x22_3 < (t1135.length : Int)
                          · rw [if_pos c36] at H
                            have c36b0 : decide (x22_3 < (t1135.length : Int)) = true := decide_eq_true c36
                            clear c36
                            by_cases c37 : x22_3 < (t1139.length : Int)
                            · rw [if_pos c37] at H
                              have c37b0 : decide (x22_3 < (t1139.length : Int)) = true := decide_eq_true c37
                              clear c37
                              by_cases c38 : (rdOf ByteArray.empty t1135 x22_3).toList = (rdOf ByteArray.empty t1139 x22_3).toList
                              · rw [if_pos c38] at H
                                have c38b0 : ((rdOf ByteArray.empty t1135 x22_3).toList == (rdOf ByteArray.empty t1139 x22_3).toList) = true := beq_iff_eq.mpr c38
                                have c38b1 : ((rdOf ByteArray.empty t1135 x22_3).toList != (rdOf ByteArray.empty t1139 x22_3).toList) = false := bne_eq_false_iff_eq.mpr c38
                                clear c38
                                have H' := Aside0.mk H
                                clear H
                                try go_wp2
                                have n0_ := Aside0.mk (Kd.R_drew HO_18.out)
                                have n1_ := Aside0.mk (Kd.R_drew HO_20.out)
                                have n2_ := Aside0.mk (blk_drew BK1130.out)
                                have n3_ := Aside0.mk (below_drew1 HB.out)
                                clear HO_18
                                clear HO_20
                                clear BK1130
                                clear HB
                                have HO_18 := n0_
                                have HO_20 := n1_
                                have BK1130 := n2_
                                have HB := n3_
                                clear n0_ n1_ n2_ n3_
                                have p1143 : 0 ≤ (x22_3 : Int) := of_decide_eq_true (by first | (with_reducible assumption) | assumption)
                                have q1143 : x22_3 < (t1135.length : Int) := of_decide_eq_true (by first | (with_reducible assumption) | assumption)
                                obtain ⟨ad1143, e1143, hx1143_0⟩ := Kd.at_string (Kd.R_reads' HO_18.out).2.2 x22_3 p1143 q1143
                                cases e1143
                                replace p1143 := eq_true p1143
                                replace q1143 := eq_true q1143
                                obtain ⟨Ao40, co40, eo40⟩ := Kd.R_slice HO_20.out
                                (first | subst eo40 | (injection eo40 with f1_ f2_ f3_; have f4_ := f1_.symm; have f5_ := f3_.symm; clear f1_ f2_ f3_; subst f4_; subst f5_))
                                have p1144 : 0 ≤ (x22_3 : Int) := of_decide_eq_true (by first | (with_reducible assumption) | assumption)
                                have q1144 : x22_3 < (t1139.length : Int) := of_decide_eq_true (by first | (with_reducible assumption) | assumption)
                                obtain ⟨ad1144, e1144, hx1144_0⟩ := Kd.at_string (Kd.R_reads' HO_20.out).2.2 x22_3 p1144 q1144
                                cases e1144
                                replace p1144 := eq_true p1144
                                replace q1144 := eq_true q1144
                                refine start_ (n := 9) (S := fun w' => w'.cell? (ad1143.add (x22_3).toNat) = some (.string (rdOf ByteArray.empty t1135 x22_3)) ∧ w'.cell? (ad1144.add (x22_3).toNat) = some (.string (rdOf ByteArray.empty t1139 x22_3))) (ds := []) #[false, false, false, false, false, false, false, false, false] (by kernel_rfl) rfl rfl ⟨hx1143_0, hx1144_0⟩ (fun hHeld => ?_); refine with_tabW spec_ExtractCollision.tab16 spec_ExtractCollision.bits16 (fun HT_ HW_ => ?_)
                                generalize wr.drew = w39 at HO_18 HO_20 BK1130 HB hx1143_0 hx1144_0 hHeld ⊢
                                refine pure_ (i := 0) (N := some 105) (v := ?_) (a' := ?_) #[true, false, false, false, false, false, false, false, false] rfl rfl (any_of HT_.out (by kernel_rfl)) (fun _ _ _ h => h) (Or.inl ⟨by rfl, ?_⟩) ?_ ?_
                                rotate_left
                                · intro w'
                                  go_simp
                                  with_reducible rfl
                                rotate_left
                                · simp only [Act.put, List.setIfInBounds_toArray, List.set_cons_zero, List.set_cons_succ, i64_w, i32_w]
                                  rfl
                                refine pure_ (i := 1) (N := some 106) (v := ?_) (a' := ?_) #[true, true, false, false, false, false, false, false, false] rfl rfl (any_of HT_.out (by kernel_rfl)) (fun _ _ _ h => h) (Or.inl ⟨by rfl, ?_⟩) ?_ ?_
                                rotate_left
                                · intro w'
                                  go_simp
                                  with_reducible rfl
                                rotate_left
                                · simp only [Act.put, List.setIfInBounds_toArray, List.set_cons_zero, List.set_cons_succ, i64_w, i32_w]
                                  rfl
                                refine pure_ (i := 2) (N := some 107) (v := ?_) (a' := ?_) #[true, true, true, false, false, false, false, false, false] rfl rfl (any_of HT_.out (by kernel_rfl)) (fun _ _ _ h => h) (Or.inl ⟨by rfl, ?_⟩) ?_ ?_
                                rotate_left
                                · intro w'
                                  go_simp
                                  with_reducible rfl
                                rotate_left
                                · simp only [Act.put, List.setIfInBounds_toArray, List.set_cons_zero, List.set_cons_succ, i64_w, i32_w]
                                  rfl
                                refine pure_ (i := 4) (N := some 109) (v := ?_) (a' := ?_) #[true, true, true, false, true, false, false, false, false] rfl rfl (any_of HT_.out (by kernel_rfl)) (fun _ _ _ h => h) (Or.inl ⟨by rfl, ?_⟩) ?_ ?_
                                rotate_left
                                · intro w'
                                  go_simp
                                  with_reducible rfl
                                rotate_left
                                · simp only [Act.put, List.setIfInBounds_toArray, List.set_cons_zero, List.set_cons_succ, i64_w, i32_w]
                                  rfl
                                refine pure_ (i := 5) (N := some 110) (v := ?_) (a' := ?_) #[true, true, true, false, true, true, false, false, false] rfl rfl (any_of HT_.out (by kernel_rfl)) (fun _ _ _ h => h) (Or.inl ⟨by rfl, ?_⟩) ?_ ?_
                                rotate_left
                                · intro w'
                                  go_simp
                                  with_reducible rfl
                                rotate_left
                                · simp only [Act.put, List.setIfInBounds_toArray, List.set_cons_zero, List.set_cons_succ, i64_w, i32_w]
                                  rfl
                                refine pure_ (i := 6) (N := some 111) (v := ?_) (a' := ?_) #[true, true, true, false, true, true, true, false, false] rfl rfl (any_of HT_.out (by kernel_rfl)) (fun _ _ _ h => h) (Or.inl ⟨by rfl, ?_⟩) ?_ ?_
                                rotate_left
                                · intro w'
                                  go_simp
                                  with_reducible rfl
                                rotate_left
                                · simp only [Act.put, List.setIfInBounds_toArray, List.set_cons_zero, List.set_cons_succ, i64_w, i32_w]
                                  rfl
                                refine take_ (i := 3) (N := some 108) (v := ?_) (a' := ?_) #[true, true, true, true, true, true, true, false, false] rfl rfl (take_ofW HT_.out HW_.out (by kernel_rfl)) (fun _ _ _ h => h) (Or.inl ⟨by rfl, ?_⟩) hHeld ?_ ?_
                                rotate_left
                                · rintro w' ⟨s0, s1⟩
                                  go_simp
                                  with_reducible rfl
                                rotate_left
                                · simp only [Act.put, List.setIfInBounds_toArray, List.set_cons_zero, List.set_cons_succ, i64_w, i32_w]
                                  rfl
                                refine take_ (i := 7) (N := some 112) (v := ?_) (a' := ?_) #[true, true, true, true, true, true, true, true, false] rfl rfl (take_ofW HT_.out HW_.out (by kernel_rfl)) (fun _ _ _ h => h) (Or.inl ⟨by rfl, ?_⟩) hHeld ?_ ?_
                                rotate_left
                                · rintro w' ⟨s0, s1⟩
                                  go_simp
                                  with_reducible rfl
                                rotate_left
                                · simp only [Act.put, List.setIfInBounds_toArray, List.set_cons_zero, List.set_cons_succ, i64_w, i32_w]
                                  rfl
                                refine pure_ (i := 8) (N := some 113) (v := ?_) (a' := ?_) #[true, true, true, true, true, true, true, true, true] rfl rfl (any_of HT_.out (by kernel_rfl)) (fun _ _ _ h => h) (Or.inl ⟨by rfl, ?_⟩) ?_ ?_
                                rotate_left
                                · intro w'
                                  go_simp
                                  with_reducible rfl
                                rotate_left
                                · simp only [Act.put, List.setIfInBounds_toArray, List.set_cons_zero, List.set_cons_succ, i64_w, i32_w]
                                  rfl
                                refine done_ (done_of HT_.out (by kernel_rfl)) ?_
                                try go_wp2
                                go_roundg k3
                                case measure => have := HJ7.out; have := HJ19.out; have := HK3.out; omega
                                case rel => exact ⟨(wrap64 (x22_3 - 1)), (x1131000_3), (x1131001_3), (by first | rfl | (simp; done) | (simp [*]; done)), H', ⟨by have := HJ7.out; have := HJ19.out; have := HK3.out; omega⟩, ⟨by (with_reducible repeat (first | apply Kd.R_alloc | apply Kd.R_drewN | apply Kd.R_drew)); exact HO_18.out⟩, ⟨by (with_reducible repeat (first | apply Kd.R_alloc | apply Kd.R_drewN | apply Kd.R_drew)); exact HO_20.out⟩, ⟨by (with_reducible repeat (first | apply bN | apply bd | apply bA)); exact BK1130.out⟩, ⟨by repeat (first | (with_reducible first | exact HB.out | apply below_alloc | apply pw_below_drewN | apply below_drew1 | refine below_set ?_ GE1130.out) | exact HB.out)⟩⟩
                              · rw [if_neg c38] at H
                                have c38b0 : ((rdOf ByteArray.empty t1135 x22_3).toList == (rdOf ByteArray.empty t1139 x22_3).toList) = false := beq_eq_false_iff_ne.mpr c38
                                have c38b1 : ((rdOf ByteArray.empty t1135 x22_3).toList != (rdOf ByteArray.empty t1139 x22_3).toList) = true := bne_iff_ne.mpr c38
                                simp only [Option.some.injEq, Prod.mk.injEq] at H
                                obtain ⟨rfl, rfl, rfl⟩ := H
                                try go_wp2
                                have n0_ := Aside0.mk (Kd.R_drew HO_18.out)
                                have n1_ := Aside0.mk (Kd.R_drew HO_20.out)
                                have n2_ := Aside0.mk (blk_drew BK1130.out)
                                have n3_ := Aside0.mk (below_drew1 HB.out)
                                clear HO_18
                                clear HO_20
                                clear BK1130
                                clear HB
                                have HO_18 := n0_
                                have HO_20 := n1_
                                have BK1130 := n2_
                                have HB := n3_
                                clear n0_ n1_ n2_ n3_
                                have p1143 : 0 ≤ (x22_3 : Int) := of_decide_eq_true (by first | (with_reducible assumption) | assumption)
                                have q1143 : x22_3 < (t1135.length : Int) := of_decide_eq_true (by first | (with_reducible assumption) | assumption)
                                obtain ⟨ad1143, e1143, hx1143_0⟩ := Kd.at_string (Kd.R_reads' HO_18.out).2.2 x22_3 p1143 q1143
                                cases e1143
                                replace p1143 := eq_true p1143
                                replace q1143 := eq_true q1143
                                obtain ⟨Ao42, co42, eo42⟩ := Kd.R_slice HO_20.out
                                (first | subst eo42 | (injection eo42 with f1_ f2_ f3_; have f4_ := f1_.symm; have f5_ := f3_.symm; clear f1_ f2_ f3_; subst f4_; subst f5_))
                                have p1144 : 0 ≤ (x22_3 : Int) := of_decide_eq_true (by first | (with_reducible assumption) | assumption)
                                have q1144 : x22_3 < (t1139.length : Int) := of_decide_eq_true (by first | (with_reducible assumption) | assumption)
                                obtain ⟨ad1144, e1144, hx1144_0⟩ := Kd.at_string (Kd.R_reads' HO_20.out).2.2 x22_3 p1144 q1144
                                cases e1144
                                replace p1144 := eq_true p1144
                                replace q1144 := eq_true q1144
                                refine start_ (n := 9) (S := fun w' => w'.cell? (ad1143.add (x22_3).toNat) = some (.string (rdOf ByteArray.empty t1135 x22_3)) ∧ w'.cell? (ad1144.add (x22_3).toNat) = some (.string (rdOf ByteArray.empty t1139 x22_3))) (ds := []) #[false, false, false, false, false, false, false, false, false] (by kernel_rfl) rfl rfl ⟨hx1143_0, hx1144_0⟩ (fun hHeld => ?_); refine with_tabW spec_ExtractCollision.tab16 spec_ExtractCollision.bits16 (fun HT_ HW_ => ?_)
                                generalize wr.drew = w41 at HO_18 HO_20 BK1130 HB hx1143_0 hx1144_0 hHeld ⊢
                                refine pure_ (i := 0) (N := some 105) (v := ?_) (a' := ?_) #[true, false, false, false, false, false, false, false, false] rfl rfl (any_of HT_.out (by kernel_rfl)) (fun _ _ _ h => h) (Or.inl ⟨by rfl, ?_⟩) ?_ ?_
                                rotate_left
                                · intro w'
                                  go_simp
                                  with_reducible rfl
                                rotate_left
                                · simp only [Act.put, List.setIfInBounds_toArray, List.set_cons_zero, List.set_cons_succ, i64_w, i32_w]
                                  rfl
                                refine pure_ (i := 1) (N := some 106) (v := ?_) (a' := ?_) #[true, true, false, false, false, false, false, false, false] rfl rfl (any_of HT_.out (by kernel_rfl)) (fun _ _ _ h => h) (Or.inl ⟨by rfl, ?_⟩) ?_ ?_
                                rotate_left
                                · intro w'
                                  go_simp
                                  with_reducible rfl
                                rotate_left
                                · simp only [Act.put, List.setIfInBounds_toArray, List.set_cons_zero, List.set_cons_succ, i64_w, i32_w]
                                  rfl
                                refine pure_ (i := 2) (N := some 107) (v := ?_) (a' := ?_) #[true, true, true, false, false, false, false, false, false] rfl rfl (any_of HT_.out (by kernel_rfl)) (fun _ _ _ h => h) (Or.inl ⟨by rfl, ?_⟩) ?_ ?_
                                rotate_left
                                · intro w'
                                  go_simp
                                  with_reducible rfl
                                rotate_left
                                · simp only [Act.put, List.setIfInBounds_toArray, List.set_cons_zero, List.set_cons_succ, i64_w, i32_w]
                                  rfl
                                refine pure_ (i := 4) (N := some 109) (v := ?_) (a' := ?_) #[true, true, true, false, true, false, false, false, false] rfl rfl (any_of HT_.out (by kernel_rfl)) (fun _ _ _ h => h) (Or.inl ⟨by rfl, ?_⟩) ?_ ?_
                                rotate_left
                                · intro w'
                                  go_simp
                                  with_reducible rfl
                                rotate_left
                                · simp only [Act.put, List.setIfInBounds_toArray, List.set_cons_zero, List.set_cons_succ, i64_w, i32_w]
                                  rfl
                                refine pure_ (i := 5) (N := some 110) (v := ?_) (a' := ?_) #[true, true, true, false, true, true, false, false, false] rfl rfl (any_of HT_.out (by kernel_rfl)) (fun _ _ _ h => h) (Or.inl ⟨by rfl, ?_⟩) ?_ ?_
                                rotate_left
                                · intro w'
                                  go_simp
                                  with_reducible rfl
                                rotate_left
                                · simp only [Act.put, List.setIfInBounds_toArray, List.set_cons_zero, List.set_cons_succ, i64_w, i32_w]
                                  rfl
                                refine pure_ (i := 6) (N := some 111) (v := ?_) (a' := ?_) #[true, true, true, false, true, true, true, false, false] rfl rfl (any_of HT_.out (by kernel_rfl)) (fun _ _ _ h => h) (Or.inl ⟨by rfl, ?_⟩) ?_ ?_
                                rotate_left
                                · intro w'
                                  go_simp
                                  with_reducible rfl
                                rotate_left
                                · simp only [Act.put, List.setIfInBounds_toArray, List.set_cons_zero, List.set_cons_succ, i64_w, i32_w]
                                  rfl
                                refine take_ (i := 3) (N := some 108) (v := ?_) (a' := ?_) #[true, true, true, true, true, true, true, false, false] rfl rfl (take_ofW HT_.out HW_.out (by kernel_rfl)) (fun _ _ _ h => h) (Or.inl ⟨by rfl, ?_⟩) hHeld ?_ ?_
                                rotate_left
                                · rintro w' ⟨s0, s1⟩
                                  go_simp
                                  with_reducible rfl
                                rotate_left
                                · simp only [Act.put, List.setIfInBounds_toArray, List.set_cons_zero, List.set_cons_succ, i64_w, i32_w]
                                  rfl
                                refine take_ (i := 7) (N := some 112) (v := ?_) (a' := ?_) #[true, true, true, true, true, true, true, true, false] rfl rfl (take_ofW HT_.out HW_.out (by kernel_rfl)) (fun _ _ _ h => h) (Or.inl ⟨by rfl, ?_⟩) hHeld ?_ ?_
                                rotate_left
                                · rintro w' ⟨s0, s1⟩
                                  go_simp
                                  with_reducible rfl
                                rotate_left
                                · simp only [Act.put, List.setIfInBounds_toArray, List.set_cons_zero, List.set_cons_succ, i64_w, i32_w]
                                  rfl
                                refine pure_ (i := 8) (N := some 113) (v := ?_) (a' := ?_) #[true, true, true, true, true, true, true, true, true] rfl rfl (any_of HT_.out (by kernel_rfl)) (fun _ _ _ h => h) (Or.inl ⟨by rfl, ?_⟩) ?_ ?_
                                rotate_left
                                · intro w'
                                  go_simp
                                  with_reducible rfl
                                rotate_left
                                · simp only [Act.put, List.setIfInBounds_toArray, List.set_cons_zero, List.set_cons_succ, i64_w, i32_w]
                                  rfl
                                refine done_ (done_of HT_.out (by kernel_rfl)) ?_
                                try go_wp2
                                have n0_ := Aside0.mk (Kd.R_drew HO_18.out)
                                have n1_ := Aside0.mk (Kd.R_drew HO_20.out)
                                have n2_ := Aside0.mk (blk_drew BK1130.out)
                                have n3_ := Aside0.mk (below_drew1 HB.out)
                                clear HO_18
                                clear HO_20
                                clear BK1130
                                clear HB
                                have HO_18 := n0_
                                have HO_20 := n1_
                                have BK1130 := n2_
                                have HB := n3_
                                clear n0_ n1_ n2_ n3_
                                have p1145 : 0 ≤ (x22_3 : Int) := of_decide_eq_true (by first | (with_reducible assumption) | assumption)
                                have q1145 : x22_3 < (t1135.length : Int) := of_decide_eq_true (by first | (with_reducible assumption) | assumption)
                                obtain ⟨ad1145, e1145, hx1145_0⟩ := Kd.at_string (Kd.R_reads' HO_18.out).2.2 x22_3 p1145 q1145
                                obtain rfl : ad1143 = ad1145 := (by injection e1145)
                                replace p1145 := eq_true p1145
                                replace q1145 := eq_true q1145
                                have p1146 : 0 ≤ (x22_3 : Int) := of_decide_eq_true (by first | (with_reducible assumption) | assumption)
                                have q1146 : x22_3 < (t1139.length : Int) := of_decide_eq_true (by first | (with_reducible assumption) | assumption)
                                obtain ⟨ad1146, e1146, hx1146_0⟩ := Kd.at_string (Kd.R_reads' HO_20.out).2.2 x22_3 p1146 q1146
                                obtain rfl : ad1144 = ad1146 := (by injection e1146)
                                replace p1146 := eq_true p1146
                                replace q1146 := eq_true q1146
                                refine start_ (n := 11) (S := fun w' => w'.cell? (ad1143.add (x22_3).toNat) = some (.string (rdOf ByteArray.empty t1135 x22_3)) ∧ w'.cell? (ad1144.add (x22_3).toNat) = some (.string (rdOf ByteArray.empty t1139 x22_3))) (ds := []) #[false, false, false, false, false, false, false, false, false, false, false] (by kernel_rfl) rfl rfl ⟨hx1145_0, hx1146_0⟩ (fun hHeld => ?_); refine with_tabW spec_ExtractCollision.tab17 spec_ExtractCollision.bits17 (fun HT_ HW_ => ?_)
                                generalize w41.drew = w43 at HO_18 HO_20 BK1130 HB hx1145_0 hx1146_0 hHeld ⊢
                                refine pure_ (i := 0) (N := some 114) (v := ?_) (a' := ?_) #[true, false, false, false, false, false, false, false, false, false, false] rfl rfl (any_of HT_.out (by kernel_rfl)) (fun _ _ _ h => h) (Or.inl ⟨by rfl, ?_⟩) ?_ ?_
                                rotate_left
                                · intro w'
                                  go_simp
                                  with_reducible rfl
                                rotate_left
                                · simp only [Act.put, List.setIfInBounds_toArray, List.set_cons_zero, List.set_cons_succ, i64_w, i32_w]
                                  rfl
                                refine pure_ (i := 1) (N := some 115) (v := ?_) (a' := ?_) #[true, true, false, false, false, false, false, false, false, false, false] rfl rfl (any_of HT_.out (by kernel_rfl)) (fun _ _ _ h => h) (Or.inl ⟨by rfl, ?_⟩) ?_ ?_
                                rotate_left
                                · intro w'
                                  go_simp
                                  with_reducible rfl
                                rotate_left
                                · simp only [Act.put, List.setIfInBounds_toArray, List.set_cons_zero, List.set_cons_succ, i64_w, i32_w]
                                  rfl
                                refine pure_ (i := 2) (N := some 116) (v := ?_) (a' := ?_) #[true, true, true, false, false, false, false, false, false, false, false] rfl rfl (any_of HT_.out (by kernel_rfl)) (fun _ _ _ h => h) (Or.inl ⟨by rfl, ?_⟩) ?_ ?_
                                rotate_left
                                · intro w'
                                  go_simp
                                  with_reducible rfl
                                rotate_left
                                · simp only [Act.put, List.setIfInBounds_toArray, List.set_cons_zero, List.set_cons_succ, i64_w, i32_w]
                                  rfl
                                refine pure_ (i := 4) (N := some 118) (v := ?_) (a' := ?_) #[true, true, true, false, true, false, false, false, false, false, false] rfl rfl (any_of HT_.out (by kernel_rfl)) (fun _ _ _ h => h) (Or.inl ⟨by rfl, ?_⟩) ?_ ?_
                                rotate_left
                                · intro w'
                                  go_simp
                                  with_reducible rfl
                                rotate_left
                                · simp only [Act.put, List.setIfInBounds_toArray, List.set_cons_zero, List.set_cons_succ, i64_w, i32_w]
                                  rfl
                                refine pure_ (i := 5) (N := some 119) (v := ?_) (a' := ?_) #[true, true, true, false, true, true, false, false, false, false, false] rfl rfl (any_of HT_.out (by kernel_rfl)) (fun _ _ _ h => h) (Or.inl ⟨by rfl, ?_⟩) ?_ ?_
                                rotate_left
                                · intro w'
                                  go_simp
                                  with_reducible rfl
                                rotate_left
                                · simp only [Act.put, List.setIfInBounds_toArray, List.set_cons_zero, List.set_cons_succ, i64_w, i32_w]
                                  rfl
                                refine pure_ (i := 6) (N := some 120) (v := ?_) (a' := ?_) #[true, true, true, false, true, true, true, false, false, false, false] rfl rfl (any_of HT_.out (by kernel_rfl)) (fun _ _ _ h => h) (Or.inl ⟨by rfl, ?_⟩) ?_ ?_
                                rotate_left
                                · intro w'
                                  go_simp
                                  with_reducible rfl
                                rotate_left
                                · simp only [Act.put, List.setIfInBounds_toArray, List.set_cons_zero, List.set_cons_succ, i64_w, i32_w]
                                  rfl
                                refine take_ (i := 3) (N := some 117) (v := ?_) (a' := ?_) #[true, true, true, true, true, true, true, false, false, false, false] rfl rfl (take_ofW HT_.out HW_.out (by kernel_rfl)) (fun _ _ _ h => h) (Or.inl ⟨by rfl, ?_⟩) hHeld ?_ ?_
                                rotate_left
                                · rintro w' ⟨s0, s1⟩
                                  go_simp
                                  with_reducible rfl
                                rotate_left
                                · simp only [Act.put, List.setIfInBounds_toArray, List.set_cons_zero, List.set_cons_succ, i64_w, i32_w]
                                  rfl
                                refine take_ (i := 7) (N := some 121) (v := ?_) (a' := ?_) #[true, true, true, true, true, true, true, true, false, false, false] rfl rfl (take_ofW HT_.out HW_.out (by kernel_rfl)) (fun _ _ _ h => h) (Or.inl ⟨by rfl, ?_⟩) hHeld ?_ ?_
                                rotate_left
                                · rintro w' ⟨s0, s1⟩
                                  go_simp
                                  with_reducible rfl
                                rotate_left
                                · simp only [Act.put, List.setIfInBounds_toArray, List.set_cons_zero, List.set_cons_succ, i64_w, i32_w]
                                  rfl
                                refine pure_ (i := 8) (N := some 122) (v := ?_) (a' := ?_) #[true, true, true, true, true, true, true, true, true, false, false] rfl rfl (any_of HT_.out (by kernel_rfl)) (fun _ _ _ h => h) (Or.inl ⟨by rfl, ?_⟩) ?_ ?_
                                rotate_left
                                · intro w'
                                  go_simp
                                  with_reducible rfl
                                rotate_left
                                · simp only [Act.put, List.setIfInBounds_toArray, List.set_cons_zero, List.set_cons_succ, i64_w, i32_w]
                                  rfl
                                refine one_ (i := 9) (N := none) #[true, true, true, true, true, true, true, true, true, true, false] rfl rfl (one_of HT_.out (by kernel_rfl)) (by decide) (fun K hK => ?_)
                                have hs44 : w43.cell? ⟨gb1130, 0, none⟩ = some (.string x1131000_3) := (blk_cell BK1130.out 0).trans rfl
                                have hfs44 := blk_frozen BK1130.out 0
                                have hs45 : w43.cell? ⟨gb1130, 1, none⟩ = some (.string x1131001_3) := (blk_cell BK1130.out 1).trans rfl
                                have hfs45 := blk_frozen BK1130.out 1
                                refine skip_ (w1 := ?_) (by rfl) rfl ?_ ?_
                                rotate_left
                                · go_simp
                                  rfl
                                refine hK.out _ _ ⟨((cell_far (p := ⟨gb1130, _, none⟩) (by first | exact Kd.own_blk (Kd.R_ne HO_18.out BK1130.out (by decide)) | (rw [add_block]; exact Kd.own_blk (Kd.R_ne HO_18.out BK1130.out (by decide))) | (show (Addr.add _ _).block ≠ _; rw [add_block]; exact Kd.own_blk (Kd.R_ne HO_18.out BK1130.out (by decide))) | (dsimp only; exact Kd.own_blk (Kd.R_ne HO_18.out BK1130.out (by decide)))) _).trans (((cell_far (p := ⟨gb1130, _, none⟩) (by first | exact Kd.own_blk (Kd.R_ne HO_18.out BK1130.out (by decide)) | (rw [add_block]; exact Kd.own_blk (Kd.R_ne HO_18.out BK1130.out (by decide))) | (show (Addr.add _ _).block ≠ _; rw [add_block]; exact Kd.own_blk (Kd.R_ne HO_18.out BK1130.out (by decide))) | (dsimp only; exact Kd.own_blk (Kd.R_ne HO_18.out BK1130.out (by decide)))) _).trans (hHeld.1)))), ((cell_far (p := ⟨gb1130, _, none⟩) (by first | exact Kd.own_blk (Kd.R_ne HO_20.out BK1130.out (by decide)) | (rw [add_block]; exact Kd.own_blk (Kd.R_ne HO_20.out BK1130.out (by decide))) | (show (Addr.add _ _).block ≠ _; rw [add_block]; exact Kd.own_blk (Kd.R_ne HO_20.out BK1130.out (by decide))) | (dsimp only; exact Kd.own_blk (Kd.R_ne HO_20.out BK1130.out (by decide)))) _).trans (((cell_far (p := ⟨gb1130, _, none⟩) (by first | exact Kd.own_blk (Kd.R_ne HO_20.out BK1130.out (by decide)) | (rw [add_block]; exact Kd.own_blk (Kd.R_ne HO_20.out BK1130.out (by decide))) | (show (Addr.add _ _).block ≠ _; rw [add_block]; exact Kd.own_blk (Kd.R_ne HO_20.out BK1130.out (by decide))) | (dsimp only; exact Kd.own_blk (Kd.R_ne HO_20.out BK1130.out (by decide)))) _).trans (hHeld.2))))⟩ (fun hHeld => ?_)
                                clear hK K
                                refine pure_ (i := 10) (N := some 15) (v := ?_) (a' := ?_) #[true, true, true, true, true, true, true, true, true, true, true] rfl rfl (any_of HT_.out (by kernel_rfl)) (fun _ _ _ h => h) (Or.inl ⟨by rfl, ?_⟩) ?_ ?_
                                rotate_left
                                · intro w'
                                  go_simp
                                  with_reducible rfl
                                rotate_left
                                · simp only [Act.put, List.setIfInBounds_toArray, List.set_cons_zero, List.set_cons_succ, i64_w, i32_w]
                                  rfl
                                refine done_ (done_of HT_.out (by kernel_rfl)) ?_
                                try go_wp2
                                refine bodyPost_ret (results_ct rfl _ _ gb1130 54 #[.string (rdOf ByteArray.empty t1135 x22_3), .string (rdOf ByteArray.empty t1139 x22_3)] (0, 0) _ rfl (by (with_reducible repeat (first | apply bN | apply bd | apply bA)); refine blk_put (cs := #[.string (rdOf ByteArray.empty t1135 x22_3), .string x1131001_3]) ?_ 1 _ rfl; (with_reducible repeat (first | apply bN | apply bd | apply bA)); refine blk_put (cs := #[.string x1131000_3, .string x1131001_3]) ?_ 0 _ rfl; (with_reducible repeat (first | apply bN | apply bd | apply bA)); exact BK1130.out) Try.underlying54 rfl (by kernel_rfl)) rfl ?_
                                exact ⟨by first | rfl | (simp [errW_none, errW_some] <;> rfl) | (simp [*, errW_none, errW_some] <;> rfl), by repeat (first | (with_reducible first | exact HB.out | apply below_alloc | apply pw_below_drewN | apply below_drew1 | refine below_set ?_ GE1130.out) | exact HB.out)⟩
                            · rw [if_neg c37] at H
                              exact absurd H (by simp)
                          · rw [if_neg c36] at H
                            exact absurd H (by simp)
                        · rw [if_neg c35] at H
                          exact absurd H (by simp)
                      · rw [if_neg c34] at H
                        have c34b0 : decide (0 ≤ x22_3) = false := decide_eq_false c34
                        clear c34
                        simp only [Option.some.injEq, Prod.mk.injEq] at H
                        obtain ⟨rfl, rfl, rfl⟩ := H
                        have hcz46_0 : wr.cell? ⟨gb1130, 0, none⟩ = some (.string x1131000_3) := (blk_cell BK1130.out 0).trans rfl
                        have hcz46_1 : wr.cell? ⟨gb1130, 1, none⟩ = some (.string x1131001_3) := (blk_cell BK1130.out 1).trans rfl
                        have hfz46_0 := blk_frozen BK1130.out 0
                        have hfz46_1 := blk_frozen BK1130.out 1
                        go_wp2
                        refine bodyPost_ret (results_ct rfl _ _ gb1130 54 #[.string (⟨#[]⟩ : ByteArray), .string (⟨#[]⟩ : ByteArray)] (0, 0) _ rfl (by (with_reducible repeat (first | apply bN | apply bd | apply bA)); refine blk_put (cs := #[.string (⟨#[]⟩ : ByteArray), .string x1131001_3]) ?_ 1 _ rfl; (with_reducible repeat (first | apply bN | apply bd | apply bA)); refine blk_put (cs := #[.string x1131000_3, .string x1131001_3]) ?_ 0 _ rfl; (with_reducible repeat (first | apply bN | apply bd | apply bA)); exact BK1130.out) Try.underlying54 rfl (by kernel_rfl)) rfl ?_
                        exact ⟨by first | rfl | (simp [errW_none, errW_some] <;> rfl) | (simp [*, errW_none, errW_some] <;> rfl), by repeat (first | (with_reducible first | exact HB.out | apply below_alloc | apply pw_below_drewN | apply below_drew1 | refine below_set ?_ GE1130.out) | exact HB.out)⟩
          · rw [if_neg c19] at H
            have c19b0 : (t1132 == 0) = false := beq_eq_false_iff_ne.mpr c19
            have c19b1 : (t1132 != 0) = true := bne_iff_ne.mpr c19
            simp only [Option.some.injEq, Prod.mk.injEq] at H
            obtain ⟨rfl, rfl, rfl⟩ := H
            go_wp2_with (first | ((with_reducible refine gate_callee (f := 108) rfl ?_); refine goesL_ (some 52) rfl rfl Try.func108 (by kernel_rfl) rfl #[.string a0, .int .i64 a1, .int .i64 a2, .string a3, .slice A4 l4.length c4] rfl (by (try simp only [List.map_toArray, List.map_cons, List.map_nil]); first | done | rfl | (simp only [List.length_drop, List.length_take]; rfl)) ?_; (with_reducible refine (spec_l04Ask.calls kj7 a0 a1 a2 a3 _ _ l4 t1131 _ ?side1 ?side2 A16.out).mono ?_); (case side1 => repeat (first | exact (Kd.C_below HR4.out HB.out) | (with_reducible refine Kd.C_alloc ?_ _) | (with_reducible refine Kd.C_drewN ?_ _) | (with_reducible refine Kd.C_drew ?_))); (case side2 => exact HC4.out); rintro e w' ⟨rfl, ⟨nd, rfl⟩⟩; refine ⟨_, rfl, ?_⟩; (try (rw [drewN_self wc]; generalize hq_ : World.drewN wc _ = wc; have n0_ : Aside0 (wc.heap[gb1130]? = some (.cells #[.string (⟨#[]⟩ : ByteArray), .string (⟨#[]⟩ : ByteArray)] 54 (0, 0))) := ⟨by rw [← hq_]; exact (by (with_reducible repeat (first | apply bN | apply bd | apply bA)); exact BK1130.out)⟩; have n1_ : Aside0 (Below w.heap.size w wc) := ⟨by rw [← hq_]; exact (by repeat (first | (with_reducible first | exact HB.out | apply below_alloc | apply pw_below_drewN | apply below_drew1 | refine below_set ?_ GE1130.out) | exact HB.out))⟩; clear BK1130 HB hq_; have BK1130 := n0_; have HB := n1_; clear n0_ n1_))) | ((with_reducible refine gate_callee (f := 108) rfl ?_); refine goesL_ (some 62) rfl rfl Try.func108 (by kernel_rfl) rfl #[.string a0, .int .i64 a1, .int .i64 a2, .string a5, .slice A6 l6.length c6] rfl (by (try simp only [List.map_toArray, List.map_cons, List.map_nil]); first | done | rfl | (simp only [List.length_drop, List.length_take]; rfl)) ?_; (with_reducible refine (spec_l04Ask.calls kj7 a0 a1 a2 a5 _ _ l6 t1132 _ ?side1 ?side2 A18.out).mono ?_); (case side1 => repeat (first | exact (Kd.C_below HR6.out HB.out) | (with_reducible refine Kd.C_alloc ?_ _) | (with_reducible refine Kd.C_drewN ?_ _) | (with_reducible refine Kd.C_drew ?_))); (case side2 => exact HC6.out); rintro e w' ⟨rfl, ⟨nd, rfl⟩⟩; refine ⟨_, rfl, ?_⟩; (try (rw [drewN_self wc]; generalize hq_ : World.drewN wc _ = wc; have n0_ : Aside0 (wc.heap[gb1130]? = some (.cells #[.string (⟨#[]⟩ : ByteArray), .string (⟨#[]⟩ : ByteArray)] 54 (0, 0))) := ⟨by rw [← hq_]; exact (by (with_reducible repeat (first | apply bN | apply bd | apply bA)); exact BK1130.out)⟩; have n1_ : Aside0 (Below w.heap.size w wc) := ⟨by rw [← hq_]; exact (by repeat (first | (with_reducible first | exact HB.out | apply below_alloc | apply pw_below_drewN | apply below_drew1 | refine below_set ?_ GE1130.out) | exact HB.out))⟩; clear BK1130 HB hq_; have BK1130 := n0_; have HB := n1_; clear n0_ n1_)); have hcz47_0 : wc.cell? ⟨gb1130, 0, none⟩ = some (.string (⟨#[]⟩ : ByteArray)) := (blk_cell BK1130.out 0).trans rfl; have hcz47_1 : wc.cell? ⟨gb1130, 1, none⟩ = some (.string (⟨#[]⟩ : ByteArray)) := (blk_cell BK1130.out 1).trans rfl; have hfz47_0 := blk_frozen BK1130.out 0; have hfz47_1 := blk_frozen BK1130.out 1))
            refine bodyPost_ret (results_ct rfl _ _ gb1130 54 #[.string (⟨#[]⟩ : ByteArray), .string (⟨#[]⟩ : ByteArray)] (0, 0) _ rfl (by (with_reducible repeat (first | apply bN | apply bd | apply bA)); refine blk_put (cs := #[.string (⟨#[]⟩ : ByteArray), .string (⟨#[]⟩ : ByteArray)]) ?_ 1 _ rfl; (with_reducible repeat (first | apply bN | apply bd | apply bA)); refine blk_put (cs := #[.string (⟨#[]⟩ : ByteArray), .string (⟨#[]⟩ : ByteArray)]) ?_ 0 _ rfl; (with_reducible repeat (first | apply bN | apply bd | apply bA)); exact BK1130.out) Try.underlying54 rfl (by kernel_rfl)) rfl ?_
            exact ⟨by first | rfl | (simp [errW_none, errW_some] <;> rfl) | (simp [*, errW_none, errW_some] <;> rfl), by repeat (first | (with_reducible first | exact HB.out | apply below_alloc | apply pw_below_drewN | apply below_drew1 | refine below_set ?_ GE1130.out) | exact HB.out)⟩
        · rw [if_neg c17] at H
          have c17b0 : (t1131 == 0) = false := beq_eq_false_iff_ne.mpr c17
          have c17b1 : (t1131 != 0) = true := bne_iff_ne.mpr c17
          simp only [Option.some.injEq, Prod.mk.injEq] at H
          obtain ⟨rfl, rfl, rfl⟩ := H
          go_wp2_with (first | ((with_reducible refine gate_callee (f := 108) rfl ?_); refine goesL_ (some 52) rfl rfl Try.func108 (by kernel_rfl) rfl #[.string a0, .int .i64 a1, .int .i64 a2, .string a3, .slice A4 l4.length c4] rfl (by (try simp only [List.map_toArray, List.map_cons, List.map_nil]); first | done | rfl | (simp only [List.length_drop, List.length_take]; rfl)) ?_; (with_reducible refine (spec_l04Ask.calls kj7 a0 a1 a2 a3 _ _ l4 t1131 _ ?side1 ?side2 A16.out).mono ?_); (case side1 => repeat (first | exact (Kd.C_below HR4.out HB.out) | (with_reducible refine Kd.C_alloc ?_ _) | (with_reducible refine Kd.C_drewN ?_ _) | (with_reducible refine Kd.C_drew ?_))); (case side2 => exact HC4.out); rintro e w' ⟨rfl, ⟨nd, rfl⟩⟩; refine ⟨_, rfl, ?_⟩; (try (rw [drewN_self wc]; generalize hq_ : World.drewN wc _ = wc; have n0_ : Aside0 (wc.heap[gb1130]? = some (.cells #[.string (⟨#[]⟩ : ByteArray), .string (⟨#[]⟩ : ByteArray)] 54 (0, 0))) := ⟨by rw [← hq_]; exact (by (with_reducible repeat (first | apply bN | apply bd | apply bA)); exact BK1130.out)⟩; have n1_ : Aside0 (Below w.heap.size w wc) := ⟨by rw [← hq_]; exact (by repeat (first | (with_reducible first | exact HB.out | apply below_alloc | apply pw_below_drewN | apply below_drew1 | refine below_set ?_ GE1130.out) | exact HB.out))⟩; clear BK1130 HB hq_; have BK1130 := n0_; have HB := n1_; clear n0_ n1_)); have hcz48_0 : wc.cell? ⟨gb1130, 0, none⟩ = some (.string (⟨#[]⟩ : ByteArray)) := (blk_cell BK1130.out 0).trans rfl; have hcz48_1 : wc.cell? ⟨gb1130, 1, none⟩ = some (.string (⟨#[]⟩ : ByteArray)) := (blk_cell BK1130.out 1).trans rfl; have hfz48_0 := blk_frozen BK1130.out 0; have hfz48_1 := blk_frozen BK1130.out 1))
          refine bodyPost_ret (results_ct rfl _ _ gb1130 54 #[.string (⟨#[]⟩ : ByteArray), .string (⟨#[]⟩ : ByteArray)] (0, 0) _ rfl (by (with_reducible repeat (first | apply bN | apply bd | apply bA)); refine blk_put (cs := #[.string (⟨#[]⟩ : ByteArray), .string (⟨#[]⟩ : ByteArray)]) ?_ 1 _ rfl; (with_reducible repeat (first | apply bN | apply bd | apply bA)); refine blk_put (cs := #[.string (⟨#[]⟩ : ByteArray), .string (⟨#[]⟩ : ByteArray)]) ?_ 0 _ rfl; (with_reducible repeat (first | apply bN | apply bd | apply bA)); exact BK1130.out) Try.underlying54 rfl (by kernel_rfl)) rfl ?_
          exact ⟨by first | rfl | (simp [errW_none, errW_some] <;> rfl) | (simp [*, errW_none, errW_some] <;> rfl), by repeat (first | (with_reducible first | exact HB.out | apply below_alloc | apply pw_below_drewN | apply below_drew1 | refine below_set ?_ GE1130.out) | exact HB.out)⟩

end Go.Proofs.Ytlogocmojnhpbaa.Print
