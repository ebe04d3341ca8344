-- Packed by a program of this session (slim.py) out of printed texts; not trusted, Lean checks it.
import Derived.Test.YtlogocmojnhpbaaPrint0
import Derived.Test.YtlogocmojnhpbaaQFnExactExtractCollision0
namespace Go.Proofs.Ytlogocmojnhpbaa.Print
open Go.RowKit Go.Proofs.YtlogocmojnhpbaaW.PrintWords Go.Proofs.YtlogocmojnhpbaaW.PrintLast Go.Proofs.YtlogocmojnhpbaaW.PrintMore
attribute [local go_sem] max2_int min2_int max_two min_two max_three min_three max_four min_four   -- for this text's walks alone
set_option linter.unusedVariables false
set_option linter.unusedSimpArgs false

/-! ### impl_ExtractCollision: function 51 -/
mutual
def impl_ExtractCollision.j0 : Nat → ByteArray → Int → Int → ByteArray → List ByteArray → ByteArray → List ByteArray → Bool → Option (ByteArray × ByteArray × Int)
  | 0, _, _, _, _, _, _, _, _ => none
  | k + 1, x0, x1, x2, x3, x4, x5, x6, x39 => if x39 = true then (some ((⟨#[]⟩ : ByteArray), (⟨#[]⟩ : ByteArray), 2)) else ((impl_placeCode.f x1 x2).bind fun t1151 => (if t1151 = 0 then ((impl_leads.f k x0 x1 x2 x3 x4).bind fun t1152 => (if t1152 = true then ((impl_leads.f k x0 x1 x2 x5 x6).bind fun t1153 => (impl_ExtractCollision.j1 k x2 x3 x4 x5 x6 (!t1153))) else (impl_ExtractCollision.j1 k x2 x3 x4 x5 x6 true))) else (some ((⟨#[]⟩ : ByteArray), (⟨#[]⟩ : ByteArray), t1151))))
def impl_ExtractCollision.j1 : Nat → Int → ByteArray → List ByteArray → ByteArray → List ByteArray → Bool → Option (ByteArray × ByteArray × Int)
  | 0, _, _, _, _, _, _ => none
  | k + 1, x2, x3, x4, x5, x6, x63 => if x63 = true then (some ((⟨#[]⟩ : ByteArray), (⟨#[]⟩ : ByteArray), 9)) else ((impl_texts.f k x2 x3 x4).bind fun t1154 => ((impl_texts.f k x2 x5 x6).bind fun t1157 => (impl_ExtractCollision.l0 k t1154 t1157 (wrap64 ((t1154.length : Int) - 1)))))
def impl_ExtractCollision.l0 : Nat → List ByteArray → List ByteArray → Int → Option (ByteArray × ByteArray × Int)
  | 0, _, _, _ => none
  | k + 1, x17, x18, x19 => if x19 ≥ 0 then (if 0 ≤ x19 then (if x19 < (x17.length : Int) then (if x19 < (x18.length : Int) then (if (rdOf ByteArray.empty x17 x19).toList = (rdOf ByteArray.empty x18 x19).toList then (impl_ExtractCollision.l0 k x17 x18 (wrap64 (x19 - 1))) else (some (rdOf ByteArray.empty x17 x19, rdOf ByteArray.empty x18 x19, 0))) else (none)) else (none)) else (none)) else (some ((⟨#[]⟩ : ByteArray), (⟨#[]⟩ : ByteArray), 5))
end
def impl_ExtractCollision.f (k : Nat) (a0 : ByteArray) (a1 : Int) (a2 : Int) (a3 : ByteArray) (l4 : List ByteArray) (a5 : ByteArray) (l6 : List ByteArray) : Option (ByteArray × ByteArray × Int) := (impl_isLong.f a0).bind fun t1148 => (if t1148 = true then (impl_ExtractCollision.j0 k a0 a1 a2 a3 l4 a5 l6 true) else ((impl_isLong.f a3).bind fun t1149 => (if t1149 = true then (impl_ExtractCollision.j0 k a0 a1 a2 a3 l4 a5 l6 true) else ((impl_isLong.f a5).bind fun t1150 => (if t1150 = true then (impl_ExtractCollision.j0 k a0 a1 a2 a3 l4 a5 l6 true) else (if (l4.length : Int) > 4096 then (impl_ExtractCollision.j0 k a0 a1 a2 a3 l4 a5 l6 true) else (impl_ExtractCollision.j0 k a0 a1 a2 a3 l4 a5 l6 (decide ((l6.length : Int) > 4096)))))))))
theorem impl_ExtractCollision.mono_l : ∀ k, (∀ y0 y1 y2 y3 y4 y5 y6 y7, LeO (impl_ExtractCollision.j0 k y0 y1 y2 y3 y4 y5 y6 y7) (impl_ExtractCollision.j0 (k + 1) y0 y1 y2 y3 y4 y5 y6 y7)) ∧ (∀ y0 y1 y2 y3 y4 y5, LeO (impl_ExtractCollision.j1 k y0 y1 y2 y3 y4 y5) (impl_ExtractCollision.j1 (k + 1) y0 y1 y2 y3 y4 y5)) ∧ (∀ y0 y1 y2, LeO (impl_ExtractCollision.l0 k y0 y1 y2) (impl_ExtractCollision.l0 (k + 1) y0 y1 y2))
  | 0 => ⟨fun _ _ _ _ _ _ _ _ r h => by simp [impl_ExtractCollision.j0] at h, fun _ _ _ _ _ _ r h => by simp [impl_ExtractCollision.j1] at h, fun _ _ _ r h => by simp [impl_ExtractCollision.l0] at h⟩
  | k + 1 => by
    obtain ⟨ih0, ih1, ih2⟩ := impl_ExtractCollision.mono_l k
    refine ⟨?_, ?_, ?_⟩
    · intro y0 y1 y2 y3 y4 y5 y6 y7
      unfold impl_ExtractCollision.j0
      repeat' first
      | (with_reducible exact ih0 _ _ _ _ _ _ _ _)
      | (with_reducible exact ih1 _ _ _ _ _ _)
      | (with_reducible exact ih2 _ _ _)
      | (with_reducible exact impl_leads.mono _ _ _ _ _ _)
      | (with_reducible exact impl_texts.mono _ _ _ _)
      | (with_reducible exact LeO.refl _)
      | (with_reducible exact LeO.none _)
      | (with_reducible refine LeO.ite ?_ ?_)
      | (with_reducible refine LeO.bind ?_ (fun _ => ?_))
      | exact ih0 _ _ _ _ _ _ _ _
      | exact ih1 _ _ _ _ _ _
      | exact ih2 _ _ _
      | exact impl_leads.mono _ _ _ _ _ _
      | exact impl_texts.mono _ _ _ _
      | exact LeO.none _
      | refine LeO.ite ?_ ?_
      | refine LeO.bind ?_ (fun _ => ?_)
    · intro y0 y1 y2 y3 y4 y5
      unfold impl_ExtractCollision.j1
      repeat' first
      | (with_reducible exact ih0 _ _ _ _ _ _ _ _)
      | (with_reducible exact ih1 _ _ _ _ _ _)
      | (with_reducible exact ih2 _ _ _)
      | (with_reducible exact impl_leads.mono _ _ _ _ _ _)
      | (with_reducible exact impl_texts.mono _ _ _ _)
      | (with_reducible exact LeO.refl _)
      | (with_reducible exact LeO.none _)
      | (with_reducible refine LeO.ite ?_ ?_)
      | (with_reducible refine LeO.bind ?_ (fun _ => ?_))
      | exact ih0 _ _ _ _ _ _ _ _
      | exact ih1 _ _ _ _ _ _
      | exact ih2 _ _ _
      | exact impl_leads.mono _ _ _ _ _ _
      | exact impl_texts.mono _ _ _ _
      | exact LeO.none _
      | refine LeO.ite ?_ ?_
      | refine LeO.bind ?_ (fun _ => ?_)
    · intro y0 y1 y2
      unfold impl_ExtractCollision.l0
      repeat' first
      | (with_reducible exact ih0 _ _ _ _ _ _ _ _)
      | (with_reducible exact ih1 _ _ _ _ _ _)
      | (with_reducible exact ih2 _ _ _)
      | (with_reducible exact impl_leads.mono _ _ _ _ _ _)
      | (with_reducible exact impl_texts.mono _ _ _ _)
      | (with_reducible exact LeO.refl _)
      | (with_reducible exact LeO.none _)
      | (with_reducible refine LeO.ite ?_ ?_)
      | (with_reducible refine LeO.bind ?_ (fun _ => ?_))
      | exact ih0 _ _ _ _ _ _ _ _
      | exact ih1 _ _ _ _ _ _
      | exact ih2 _ _ _
      | exact impl_leads.mono _ _ _ _ _ _
      | exact impl_texts.mono _ _ _ _
      | exact LeO.none _
      | refine LeO.ite ?_ ?_
      | refine LeO.bind ?_ (fun _ => ?_)
theorem impl_ExtractCollision.mono : ∀ a0 a1 a2 a3 a4 a5 a6 k, LeO (impl_ExtractCollision.f k a0 a1 a2 a3 a4 a5 a6) (impl_ExtractCollision.f (k + 1) a0 a1 a2 a3 a4 a5 a6) := by
  intro a0 a1 a2 a3 a4 a5 a6 k
  obtain ⟨ih0, ih1, ih2⟩ := impl_ExtractCollision.mono_l k
  unfold impl_ExtractCollision.f
  repeat' first
      | (with_reducible exact ih0 _ _ _ _ _ _ _ _)
      | (with_reducible exact ih1 _ _ _ _ _ _)
      | (with_reducible exact ih2 _ _ _)
      | (with_reducible exact impl_leads.mono _ _ _ _ _ _)
      | (with_reducible exact impl_texts.mono _ _ _ _)
      | (with_reducible exact LeO.refl _)
      | (with_reducible exact LeO.none _)
      | (with_reducible refine LeO.ite ?_ ?_)
      | (with_reducible refine LeO.bind ?_ (fun _ => ?_))
      | exact ih0 _ _ _ _ _ _ _ _
      | exact ih1 _ _ _ _ _ _
      | exact ih2 _ _ _
      | exact impl_leads.mono _ _ _ _ _ _
      | exact impl_texts.mono _ _ _ _
      | exact LeO.none _
      | refine LeO.ite ?_ ?_
      | refine LeO.bind ?_ (fun _ => ?_)
def impl_ExtractCollision.T12 : Bool × List (List Nat × List Nat) := (true, [([], []), ([], []), ([0, 1], [0, 1]), ([2], [2]), ([], []), ([], []), ([4, 5], [4, 5]), ([6], [6]), ([3, 7], [3, 7])])
def impl_ExtractCollision.B12 : List Nat := [0, 0, 3, 7, 0, 0, 48, 112, 255]
theorem impl_ExtractCollision.tab12 : rtab .any (opsOf Try.f51 12) = impl_ExtractCollision.T12 := by kernel_rfl
theorem impl_ExtractCollision.bits12 : waitsOk impl_ExtractCollision.T12.2 impl_ExtractCollision.B12 = true := by kernel_rfl
def impl_ExtractCollision.T13 : Bool × List (List Nat × List Nat) := (true, [([], []), ([], []), ([0, 1], [0, 1]), ([2], [2]), ([], []), ([], []), ([4, 5], [4, 5]), ([6], [6]), ([3, 7], [3, 7]), ([8, 0, 1, 2, 3, 4, 5, 6, 7, 8], [8]), ([9, 0, 1, 2, 3, 4, 5, 6, 7, 8, 9], [])])
def impl_ExtractCollision.B13 : List Nat := [0, 0, 3, 7, 0, 0, 48, 112, 255, 511, 1023]
theorem impl_ExtractCollision.tab13 : rtab .any (opsOf Try.f51 13) = impl_ExtractCollision.T13 := by kernel_rfl
theorem impl_ExtractCollision.bits13 : waitsOk impl_ExtractCollision.T13.2 impl_ExtractCollision.B13 = true := by kernel_rfl
set_option maxHeartbeats 8000000 in
set_option maxRecDepth 100000 in
theorem impl_ExtractCollision.calls (k : Nat) (a0 : ByteArray) (a1 : Int) (a2 : Int) (a3 : ByteArray) (A4 : Option Addr) (c4 : Nat) (l4 : List ByteArray) (a5 : ByteArray) (A6 : Option Addr) (c6 : Nat) (l6 : List ByteArray) (r1 : ByteArray) (r2 : ByteArray) (r3 : Int) (w : World) (hr4 : Kd.C Kd.string w A4 l4.length l4) (hc4 : l4.length ≤ c4) (hr6 : Kd.C Kd.string w A6 l6.length l6) (hc6 : l6.length ≤ c6) (h : impl_ExtractCollision.f k a0 a1 a2 a3 l4 a5 l6 = some (r1, r2, r3)) :
    Calls Try.prog 51 #[.string a0, .int .i64 a1, .int .i64 a2, .string a3, .slice A4 l4.length c4, .string a5, .slice A6 l6.length c6] w fun e w' => e = .returned (.tuple #[.agg #[.string r1, .string r2], .int .i64 r3]) ∧ Below w.heap.size w w' := by
  have hu54 := Try.underlying54
  have HR4 := Aside0.mk hr4
  have HC4 := Aside0.mk hc4
  clear hr4 hc4
  have HR6 := Aside0.mk hr6
  have HC6 := Aside0.mk hc6
  clear hr6 hc6
  have HB := Aside0.mk (Below.refl w.heap.size w)
  have H : ((impl_isLong.f a0).bind fun t1148 => (if t1148 = true then (impl_ExtractCollision.j0 k a0 a1 a2 a3 l4 a5 l6 true) else ((impl_isLong.f a3).bind fun t1149 => (if t1149 = true then (impl_ExtractCollision.j0 k a0 a1 a2 a3 l4 a5 l6 true) else ((impl_isLong.f a5).bind fun t1150 => (if t1150 = true then (impl_ExtractCollision.j0 k a0 a1 a2 a3 l4 a5 l6 true) else (if (l4.length : Int) > 4096 then (impl_ExtractCollision.j0 k a0 a1 a2 a3 l4 a5 l6 true) else (impl_ExtractCollision.j0 k a0 a1 a2 a3 l4 a5 l6 (decide ((l6.length : Int) > 4096)))))))))) = some (r1, r2, r3) := h
  clear h
  have HC8 := Aside0.mk H
  clear H
  go_enter Try.func51, Try.ntmps51
  go_upto_region 1 with (first | ((with_reducible refine gate_dst (N := 14) rfl ?_); (try (refine gate_guard (by rfl) ?_; dsimp only)); refine box_event ?hg (N := 14) ?hd (cs := #[.string (⟨#[]⟩ : ByteArray), .string (⟨#[]⟩ : ByteArray)]) (t := 54) ?hr ?_; (case hd => rfl); (case hg => rfl); (case hr => first | (go_simp; done) | (go_simp; rfl)); intro gb1147 hg w9 hbox hb; have n0_ := Aside0.mk (below_step (by repeat (first | (with_reducible first | exact HB.out | apply below_alloc | apply pw_below_drewN | apply below_drew1) | exact HB.out)) hb); have n1_ := Aside0.mk (hbox); have n2_ := Aside0.mk ((by rw [hg]; exact (below_size (by repeat (first | (with_reducible first | exact HB.out | apply below_alloc | apply pw_below_drewN | apply below_drew1) | exact HB.out))) : w.heap.size ≤ gb1147)); have n3_ := Aside0.mk ((by rw [hg]; exact (below_size (by repeat (first | (with_reducible first | exact HB.out | apply below_alloc | apply pw_below_drewN | apply below_drew1) | exact HB.out))) : w.heap.size ≤ gb1147)); clear HB; have HB := n0_; have BK1147 := n1_; have GW1147 := n2_; have GE1147 := n3_; clear n0_ n1_ n2_ n3_; clear hb hbox hg))
  (try simp only [Act.put, List.setIfInBounds_toArray, List.set_cons_zero, List.set_cons_succ])
  go_cut [39] (fun v39 wc => ∃ (kq : Nat) (x39_7 : Bool), v39 = .bool x39_7 ∧ Aside0 (impl_ExtractCollision.j0 kq a0 a1 a2 a3 l4 a5 l6 x39_7 = some (r1, r2, r3)) ∧ Aside0 (kq ≤ k) ∧ Aside0 (wc.heap[gb1147]? = some (.cells #[.string (⟨#[]⟩ : ByteArray), .string (⟨#[]⟩ : ByteArray)] 54 (0, 0))) ∧ Aside0 (Below w.heap.size w wc))
  case first =>
    have H := HC8.out
    clear HC8
    replace H := Option.bind_eq_some_iff.mp H
    obtain ⟨t1148, A100, H⟩ := H
    replace H : (if t1148 = true then (impl_ExtractCollision.j0 k a0 a1 a2 a3 l4 a5 l6 true) else ((impl_isLong.f a3).bind fun t1149 => (if t1149 = true then (impl_ExtractCollision.j0 k a0 a1 a2 a3 l4 a5 l6 true) else ((impl_isLong.f a5).bind fun t1150 => (if t1150 = true then (impl_ExtractCollision.j0 k a0 a1 a2 a3 l4 a5 l6 true) else (if (l4.length : Int) > 4096 then (impl_ExtractCollision.j0 k a0 a1 a2 a3 l4 a5 l6 true) else (impl_ExtractCollision.j0 k a0 a1 a2 a3 l4 a5 l6 (decide ((l6.length : Int) > 4096))))))))) = some (r1, r2, r3) := H
    have A10 := Aside0.mk A100
    clear A100
    by_cases c11 : t1148 = true
    · subst c11
      have H1 : (impl_ExtractCollision.j0 k a0 a1 a2 a3 l4 a5 l6 true) = some (r1, r2, r3) := by rw [if_pos rfl] at H; exact H
      clear H
      have H := H1
      clear H1
      have H' := Aside0.mk H
      clear H
      go_wp2_with (first | ((with_reducible refine gate_callee (f := 83) rfl ?_); refine goesL_ (some 21) rfl rfl Try.func83 (by kernel_rfl) rfl #[.string a0] rfl (by (try simp only [List.map_toArray, List.map_cons, List.map_nil]); first | done | rfl | (simp only [List.length_drop, List.length_take]; rfl)) ?_; (with_reducible refine (impl_isLong.calls a0 true _ A10.out).mono ?_); rintro e w' ⟨rfl, ⟨nd, rfl⟩⟩; refine ⟨_, rfl, ?_⟩))
      go_meet
      case rel => exact ⟨_, (true), (by first | rfl | (simp; done) | (simp [*]; done)), H', ⟨by first | omega | exact Nat.le_refl _⟩, ⟨by (with_reducible repeat (first | apply bN | apply bd | apply bA)); exact BK1147.out⟩, ⟨by repeat (first | (with_reducible first | exact HB.out | apply below_alloc | apply pw_below_drewN | apply below_drew1 | refine below_set ?_ GE1147.out) | exact HB.out)⟩⟩
    · replace c11 := Bool.eq_false_iff.mpr c11
      subst c11
      have H1 : ((impl_isLong.f a3).bind fun t1149 => (if t1149 = true then (impl_ExtractCollision.j0 k a0 a1 a2 a3 l4 a5 l6 true) else ((impl_isLong.f a5).bind fun t1150 => (if t1150 = true then (impl_ExtractCollision.j0 k a0 a1 a2 a3 l4 a5 l6 true) else (if (l4.length : Int) > 4096 then (impl_ExtractCollision.j0 k a0 a1 a2 a3 l4 a5 l6 true) else (impl_ExtractCollision.j0 k a0 a1 a2 a3 l4 a5 l6 (decide ((l6.length : Int) > 4096)))))))) = some (r1, r2, r3) := by rw [if_neg (show ¬ (false = true) by decide)] at H; exact H
      clear H
      have H := H1
      clear H1
      replace H := Option.bind_eq_some_iff.mp H
      obtain ⟨t1149, A120, H⟩ := H
      replace H : (if t1149 = true then (impl_ExtractCollision.j0 k a0 a1 a2 a3 l4 a5 l6 true) else ((impl_isLong.f a5).bind fun t1150 => (if t1150 = true then (impl_ExtractCollision.j0 k a0 a1 a2 a3 l4 a5 l6 true) else (if (l4.length : Int) > 4096 then (impl_ExtractCollision.j0 k a0 a1 a2 a3 l4 a5 l6 true) else (impl_ExtractCollision.j0 k a0 a1 a2 a3 l4 a5 l6 (decide ((l6.length : Int) > 4096))))))) = some (r1, r2, r3) := H
      have A12 := Aside0.mk A120
      clear A120
      by_cases c13 : t1149 = true
      · subst c13
        have H1 : (impl_ExtractCollision.j0 k a0 a1 a2 a3 l4 a5 l6 true) = some (r1, r2, r3) := by rw [if_pos rfl] at H; exact H
        clear H
        have H := H1
        clear H1
        have H' := Aside0.mk H
        clear H
        go_wp2_with (first | ((with_reducible refine gate_callee (f := 83) rfl ?_); refine goesL_ (some 21) rfl rfl Try.func83 (by kernel_rfl) rfl #[.string a0] rfl (by (try simp only [List.map_toArray, List.map_cons, List.map_nil]); first | done | rfl | (simp only [List.length_drop, List.length_take]; rfl)) ?_; (with_reducible refine (impl_isLong.calls a0 false _ A10.out).mono ?_); rintro e w' ⟨rfl, ⟨nd, rfl⟩⟩; refine ⟨_, rfl, ?_⟩) | (go_at_call 83; (with_reducible refine (impl_isLong.calls a3 true _ A12.out).mono ?_); rintro e w' ⟨rfl, ⟨nd, rfl⟩⟩))
        go_meet
        case rel => exact ⟨_, (true), (by first | rfl | (simp; done) | (simp [*]; done)), H', ⟨by first | omega | exact Nat.le_refl _⟩, ⟨by (with_reducible repeat (first | apply bN | apply bd | apply bA)); exact BK1147.out⟩, ⟨by repeat (first | (with_reducible first | exact HB.out | apply below_alloc | apply pw_below_drewN | apply below_drew1 | refine below_set ?_ GE1147.out) | exact HB.out)⟩⟩
      · replace c13 := Bool.eq_false_iff.mpr c13
        subst c13
        have H1 : ((impl_isLong.f a5).bind fun t1150 => (if t1150 = true then (impl_ExtractCollision.j0 k a0 a1 a2 a3 l4 a5 l6 true) else (if (l4.length : Int) > 4096 then (impl_ExtractCollision.j0 k a0 a1 a2 a3 l4 a5 l6 true) else (impl_ExtractCollision.j0 k a0 a1 a2 a3 l4 a5 l6 (decide ((l6.length : Int) > 4096)))))) = some (r1, r2, r3) := by rw [if_neg (show ¬ (false = true) by decide)] at H; exact H
        clear H
        have H := H1
        clear H1
        replace H := Option.bind_eq_some_iff.mp H
        obtain ⟨t1150, A140, H⟩ := H
        replace H : (if t1150 = true then (impl_ExtractCollision.j0 k a0 a1 a2 a3 l4 a5 l6 true) else (if (l4.length : Int) > 4096 then (impl_ExtractCollision.j0 k a0 a1 a2 a3 l4 a5 l6 true) else (impl_ExtractCollision.j0 k a0 a1 a2 a3 l4 a5 l6 (decide ((l6.length : Int) > 4096))))) = some (r1, r2, r3) := H
        have A14 := Aside0.mk A140
        clear A140
        by_cases c15 : t1150 = true
        · subst c15
          have H1 : (impl_ExtractCollision.j0 k a0 a1 a2 a3 l4 a5 l6 true) = some (r1, r2, r3) := by rw [if_pos rfl] at H; exact H
          clear H
          have H := H1
          clear H1
          have H' := Aside0.mk H
          clear H
          go_wp2_with (first | ((with_reducible refine gate_callee (f := 83) rfl ?_); refine goesL_ (some 21) rfl rfl Try.func83 (by kernel_rfl) rfl #[.string a0] rfl (by (try simp only [List.map_toArray, List.map_cons, List.map_nil]); first | done | rfl | (simp only [List.length_drop, List.length_take]; rfl)) ?_; (with_reducible refine (impl_isLong.calls a0 false _ A10.out).mono ?_); rintro e w' ⟨rfl, ⟨nd, rfl⟩⟩; refine ⟨_, rfl, ?_⟩) | (go_at_call 83; (with_reducible refine (impl_isLong.calls a3 false _ A12.out).mono ?_); rintro e w' ⟨rfl, ⟨nd, rfl⟩⟩) | (go_at_call 83; (with_reducible refine (impl_isLong.calls a5 true _ A14.out).mono ?_); rintro e w' ⟨rfl, ⟨nd, rfl⟩⟩))
          go_meet
          case rel => exact ⟨_, (true), (by first | rfl | (simp; done) | (simp [*]; done)), H', ⟨by first | omega | exact Nat.le_refl _⟩, ⟨by (with_reducible repeat (first | apply bN | apply bd | apply bA)); exact BK1147.out⟩, ⟨by repeat (first | (with_reducible first | exact HB.out | apply below_alloc | apply pw_below_drewN | apply below_drew1 | refine below_set ?_ GE1147.out) | exact HB.out)⟩⟩
        · replace c15 := Bool.eq_false_iff.mpr c15
          subst c15
          have H1 : (if (l4.length : Int) > 4096 then (impl_ExtractCollision.j0 k a0 a1 a2 a3 l4 a5 l6 true) else (impl_ExtractCollision.j0 k a0 a1 a2 a3 l4 a5 l6 (decide ((l6.length : Int) > 4096)))) = some (r1, r2, r3) := by rw [if_neg (show ¬ (false = true) by decide)] at H; exact H
          clear H
          have H := H1
          clear H1
          by_cases c16 : (l4.length : Int) > 4096
          · rw [if_pos c16] at H
            have c16b0 : decide (4096 < (l4.length : Int)) = true := decide_eq_true c16
            have c16b1 : decide (4096 < l4.length) = true := decide_eq_true (by omega)
            clear c16
            (first | rw [c16b0] | (simp only [i64_w, i32_w]; rw [c16b0]) | skip)
            have H' := Aside0.mk H
            clear H
            go_wp2_with (first | ((with_reducible refine gate_callee (f := 83) rfl ?_); refine goesL_ (some 21) rfl rfl Try.func83 (by kernel_rfl) rfl #[.string a0] rfl (by (try simp only [List.map_toArray, List.map_cons, List.map_nil]); first | done | rfl | (simp only [List.length_drop, List.length_take]; rfl)) ?_; (with_reducible refine (impl_isLong.calls a0 false _ A10.out).mono ?_); rintro e w' ⟨rfl, ⟨nd, rfl⟩⟩; refine ⟨_, rfl, ?_⟩) | (go_at_call 83; (with_reducible refine (impl_isLong.calls a3 false _ A12.out).mono ?_); rintro e w' ⟨rfl, ⟨nd, rfl⟩⟩) | (go_at_call 83; (with_reducible refine (impl_isLong.calls a5 false _ A14.out).mono ?_); rintro e w' ⟨rfl, ⟨nd, rfl⟩⟩))
            go_meet
            case rel => exact ⟨_, (true), (by first | rfl | (simp; done) | (simp [*]; done)), H', ⟨by first | omega | exact Nat.le_refl _⟩, ⟨by (with_reducible repeat (first | apply bN | apply bd | apply bA)); exact BK1147.out⟩, ⟨by repeat (first | (with_reducible first | exact HB.out | apply below_alloc | apply pw_below_drewN | apply below_drew1 | refine below_set ?_ GE1147.out) | exact HB.out)⟩⟩
          · rw [if_neg c16] at H
            have c16b0 : decide (4096 < (l4.length : Int)) = false := decide_eq_false c16
            have c16b1 : decide (4096 < l4.length) = false := decide_eq_false (by omega)
            clear c16
            (first | rw [c16b0] | (simp only [i64_w, i32_w]; rw [c16b0]) | skip)
            have H' := Aside0.mk H
            clear H
            go_wp2_with (first | ((with_reducible refine gate_callee (f := 83) rfl ?_); refine goesL_ (some 21) rfl rfl Try.func83 (by kernel_rfl) rfl #[.string a0] rfl (by (try simp only [List.map_toArray, List.map_cons, List.map_nil]); first | done | rfl | (simp only [List.length_drop, List.length_take]; rfl)) ?_; (with_reducible refine (impl_isLong.calls a0 false _ A10.out).mono ?_); rintro e w' ⟨rfl, ⟨nd, rfl⟩⟩; refine ⟨_, rfl, ?_⟩) | (go_at_call 83; (with_reducible refine (impl_isLong.calls a3 false _ A12.out).mono ?_); rintro e w' ⟨rfl, ⟨nd, rfl⟩⟩) | (go_at_call 83; (with_reducible refine (impl_isLong.calls a5 false _ A14.out).mono ?_); rintro e w' ⟨rfl, ⟨nd, rfl⟩⟩))
            go_meet
            case rel => exact ⟨_, (decide ((l6.length : Int) > 4096)), (by first | rfl | (simp; done) | (simp [*]; done)), H', ⟨by first | omega | exact Nat.le_refl _⟩, ⟨by (with_reducible repeat (first | apply bN | apply bd | apply bA)); exact BK1147.out⟩, ⟨by repeat (first | (with_reducible first | exact HB.out | apply below_alloc | apply pw_below_drewN | apply below_drew1 | refine below_set ?_ GE1147.out) | exact HB.out)⟩⟩
  case rest =>
    clear HC8
    try clear c1
    try clear p2
    try clear c4
    try clear c5
    try clear c6
    try clear c8
    try clear c11
    try clear c13
    try clear c15
    try clear c16
    try clear c16b0
    try clear c16b1
    obtain ⟨kq, x39_7, rfl, HA, HJ7, BK1147, HB⟩ := hcut
    cases kq with
    | zero => exact absurd HA.out (by simp [impl_ExtractCollision.j0])
    | succ kj7 =>
      have H := HA.out
      clear HA
      simp only [impl_ExtractCollision.j0] at H
      by_cases c17 : x39_7 = true
      · subst c17
        have H1 : (some ((⟨#[]⟩ : ByteArray), (⟨#[]⟩ : ByteArray), 2)) = some (r1, r2, r3) := by rw [if_pos rfl] at H; exact H
        clear H
        have H := H1
        clear H1
        simp only [Option.some.injEq, Prod.mk.injEq] at H
        obtain ⟨rfl, rfl, rfl⟩ := H
        have hcz18_0 : wc.cell? ⟨gb1147, 0, none⟩ = some (.string (⟨#[]⟩ : ByteArray)) := (blk_cell BK1147.out 0).trans rfl
        have hcz18_1 : wc.cell? ⟨gb1147, 1, none⟩ = some (.string (⟨#[]⟩ : ByteArray)) := (blk_cell BK1147.out 1).trans rfl
        have hfz18_0 := blk_frozen BK1147.out 0
        have hfz18_1 := blk_frozen BK1147.out 1
        go_wp2
        refine bodyPost_ret (results_ct rfl _ _ gb1147 54 #[.string (⟨#[]⟩ : ByteArray), .string (⟨#[]⟩ : ByteArray)] (0, 0) _ rfl (by (with_reducible repeat (first | apply bN | apply bd | apply bA)); refine blk_put (cs := #[.string (⟨#[]⟩ : ByteArray), .string (⟨#[]⟩ : ByteArray)]) ?_ 1 _ rfl; (with_reducible repeat (first | apply bN | apply bd | apply bA)); refine blk_put (cs := #[.string (⟨#[]⟩ : ByteArray), .string (⟨#[]⟩ : ByteArray)]) ?_ 0 _ rfl; (with_reducible repeat (first | apply bN | apply bd | apply bA)); exact BK1147.out) Try.underlying54 rfl (by kernel_rfl)) rfl ?_
        exact ⟨by first | rfl | (simp [errW_none, errW_some] <;> rfl) | (simp [*, errW_none, errW_some] <;> rfl), by repeat (first | (with_reducible first | exact HB.out | apply below_alloc | apply pw_below_drewN | apply below_drew1 | refine below_set ?_ GE1147.out) | exact HB.out)⟩
      · replace c17 := Bool.eq_false_iff.mpr c17
        subst c17
        have H1 : ((impl_placeCode.f a1 a2).bind fun t1151 => (if t1151 = 0 then ((impl_leads.f kj7 a0 a1 a2 a3 l4).bind fun t1152 => (if t1152 = true then ((impl_leads.f kj7 a0 a1 a2 a5 l6).bind fun t1153 => (impl_ExtractCollision.j1 kj7 a2 a3 l4 a5 l6 (!t1153))) else (impl_ExtractCollision.j1 kj7 a2 a3 l4 a5 l6 true))) else (some ((⟨#[]⟩ : ByteArray), (⟨#[]⟩ : ByteArray), t1151)))) = some (r1, r2, r3) := by rw [if_neg (show ¬ (false = true) by decide)] at H; exact H
        clear H
        have H := H1
        clear H1
        replace H := Option.bind_eq_some_iff.mp H
        obtain ⟨t1151, A190, H⟩ := H
        replace H : (if t1151 = 0 then ((impl_leads.f kj7 a0 a1 a2 a3 l4).bind fun t1152 => (if t1152 = true then ((impl_leads.f kj7 a0 a1 a2 a5 l6).bind fun t1153 => (impl_ExtractCollision.j1 kj7 a2 a3 l4 a5 l6 (!t1153))) else (impl_ExtractCollision.j1 kj7 a2 a3 l4 a5 l6 true))) else (some ((⟨#[]⟩ : ByteArray), (⟨#[]⟩ : ByteArray), t1151))) = some (r1, r2, r3) := H
        have A19 := Aside0.mk A190
        clear A190
        by_cases c20 : t1151 = 0
        · rw [if_pos c20] at H
          have c20b0 : (t1151 == 0) = true := beq_iff_eq.mpr c20
          have c20b1 : (t1151 != 0) = false := bne_eq_false_iff_eq.mpr c20
          clear c20
          have HC21 := Aside0.mk H
          clear H
          go_upto_region 6 with (first | ((with_reducible refine gate_callee (f := 110) rfl ?_); refine goesL_ (some 43) rfl rfl Try.func110 (by kernel_rfl) rfl #[.int .i64 a1, .int .i64 a2] rfl (by (try simp only [List.map_toArray, List.map_cons, List.map_nil]); first | done | rfl | (simp only [List.length_drop, List.length_take]; rfl)) ?_; (with_reducible refine (impl_placeCode.calls a1 a2 t1151 _ A19.out).mono ?_); rintro e w' ⟨rfl, ⟨nd, rfl⟩⟩; refine ⟨_, rfl, ?_⟩))
          (try simp only [Act.put, List.setIfInBounds_toArray, List.set_cons_zero, List.set_cons_succ])
          go_cut [63] (fun v63 wc => ∃ (kq : Nat) (x63_20 : Bool), v63 = .bool x63_20 ∧ Aside0 (impl_ExtractCollision.j1 kq a2 a3 l4 a5 l6 x63_20 = some (r1, r2, r3)) ∧ Aside0 (kq ≤ kj7) ∧ Aside0 (wc.heap[gb1147]? = some (.cells #[.string (⟨#[]⟩ : ByteArray), .string (⟨#[]⟩ : ByteArray)] 54 (0, 0))) ∧ Aside0 (Below w.heap.size w wc))
          case first =>
            have H := HC21.out
            clear HC21
            replace H := Option.bind_eq_some_iff.mp H
            obtain ⟨t1152, A220, H⟩ := H
            replace H : (if t1152 = true then ((impl_leads.f kj7 a0 a1 a2 a5 l6).bind fun t1153 => (impl_ExtractCollision.j1 kj7 a2 a3 l4 a5 l6 (!t1153))) else (impl_ExtractCollision.j1 kj7 a2 a3 l4 a5 l6 true)) = some (r1, r2, r3) := H
            have A22 := Aside0.mk A220
            clear A220
            by_cases c23 : t1152 = true
            · subst c23
              have H1 : ((impl_leads.f kj7 a0 a1 a2 a5 l6).bind fun t1153 => (impl_ExtractCollision.j1 kj7 a2 a3 l4 a5 l6 (!t1153))) = some (r1, r2, r3) := by rw [if_pos rfl] at H; exact H
              clear H
              have H := H1
              clear H1
              replace H := Option.bind_eq_some_iff.mp H
              obtain ⟨t1153, A240, H⟩ := H
              replace H : (impl_ExtractCollision.j1 kj7 a2 a3 l4 a5 l6 (!t1153)) = some (r1, r2, r3) := H
              have A24 := Aside0.mk A240
              clear A240
              have H' := Aside0.mk H
              clear H
              go_wp2_with (first | ((with_reducible refine gate_callee (f := 111) rfl ?_); refine goesL_ (some 53) rfl rfl Try.func111 (by kernel_rfl) rfl #[.string a0, .int .i64 a1, .int .i64 a2, .string a3, .slice A4 l4.length c4] rfl (by (try simp only [List.map_toArray, List.map_cons, List.map_nil]); first | done | rfl | (simp only [List.length_drop, List.length_take]; rfl)) ?_; (with_reducible refine (impl_leads.calls kj7 a0 a1 a2 a3 _ _ l4 true _ ?side1 ?side2 A22.out).mono ?_); (case side1 => repeat (first | exact (Kd.C_below HR4.out HB.out) | (with_reducible refine Kd.C_alloc ?_ _) | (with_reducible refine Kd.C_drewN ?_ _) | (with_reducible refine Kd.C_drew ?_))); (case side2 => exact HC4.out); rintro e w25 ⟨rfl, hb⟩; refine ⟨_, rfl, ?_⟩; have n0_ := Aside0.mk (blk_below (g := gb1147) (o := .cells #[.string (⟨#[]⟩ : ByteArray), .string (⟨#[]⟩ : ByteArray)] 54 (0, 0)) (by (with_reducible repeat (first | apply bN | apply bd | apply bA)); exact BK1147.out) hb); have n1_ := Aside0.mk (below_step (by repeat (first | (with_reducible first | exact HB.out | apply below_alloc | apply pw_below_drewN | apply below_drew1 | refine below_set ?_ GE1147.out) | exact HB.out)) hb); clear BK1147; clear HB; have BK1147 := n0_; have HB := n1_; clear n0_ n1_; (try clear hb); (try clear hb2); (try clear hk); (try clear hi)) | (go_at_call 111; (with_reducible refine (impl_leads.calls kj7 a0 a1 a2 a5 _ _ l6 t1153 _ ?side1 ?side2 A24.out).mono ?_); (case side1 => repeat (first | exact (Kd.C_below HR6.out HB.out) | (with_reducible refine Kd.C_alloc ?_ _) | (with_reducible refine Kd.C_drewN ?_ _) | (with_reducible refine Kd.C_drew ?_))); (case side2 => exact HC6.out); rintro e w26 ⟨rfl, hb⟩; have n0_ := Aside0.mk (blk_below (g := gb1147) (o := .cells #[.string (⟨#[]⟩ : ByteArray), .string (⟨#[]⟩ : ByteArray)] 54 (0, 0)) (by (with_reducible repeat (first | apply bN | apply bd | apply bA)); exact BK1147.out) hb); have n1_ := Aside0.mk (below_step (by repeat (first | (with_reducible first | exact HB.out | apply below_alloc | apply pw_below_drewN | apply below_drew1 | refine below_set ?_ GE1147.out) | exact HB.out)) hb); clear BK1147; clear HB; have BK1147 := n0_; have HB := n1_; clear n0_ n1_; (try clear hb); (try clear hb2); (try clear hk); (try clear hi)))
              go_meet
              case rel => exact ⟨_, (!t1153), (by first | rfl | (simp; done) | (simp [*]; done)), H', ⟨by have := HJ7.out; first | omega | exact Nat.le_refl _⟩, ⟨by (with_reducible repeat (first | apply bN | apply bd | apply bA)); exact BK1147.out⟩, ⟨by repeat (first | (with_reducible first | exact HB.out | apply below_alloc | apply pw_below_drewN | apply below_drew1 | refine below_set ?_ GE1147.out) | exact HB.out)⟩⟩
            · replace c23 := Bool.eq_false_iff.mpr c23
              subst c23
              have H1 : (impl_ExtractCollision.j1 kj7 a2 a3 l4 a5 l6 true) = some (r1, r2, r3) := by rw [if_neg (show ¬ (false = true) by decide)] at H; exact H
              clear H
              have H := H1
              clear H1
              have H' := Aside0.mk H
              clear H
              go_wp2_with (first | ((with_reducible refine gate_callee (f := 111) rfl ?_); refine goesL_ (some 53) rfl rfl Try.func111 (by kernel_rfl) rfl #[.string a0, .int .i64 a1, .int .i64 a2, .string a3, .slice A4 l4.length c4] rfl (by (try simp only [List.map_toArray, List.map_cons, List.map_nil]); first | done | rfl | (simp only [List.length_drop, List.length_take]; rfl)) ?_; (with_reducible refine (impl_leads.calls kj7 a0 a1 a2 a3 _ _ l4 false _ ?side1 ?side2 A22.out).mono ?_); (case side1 => repeat (first | exact (Kd.C_below HR4.out HB.out) | (with_reducible refine Kd.C_alloc ?_ _) | (with_reducible refine Kd.C_drewN ?_ _) | (with_reducible refine Kd.C_drew ?_))); (case side2 => exact HC4.out); rintro e w27 ⟨rfl, hb⟩; refine ⟨_, rfl, ?_⟩; have n0_ := Aside0.mk (blk_below (g := gb1147) (o := .cells #[.string (⟨#[]⟩ : ByteArray), .string (⟨#[]⟩ : ByteArray)] 54 (0, 0)) (by (with_reducible repeat (first | apply bN | apply bd | apply bA)); exact BK1147.out) hb); have n1_ := Aside0.mk (below_step (by repeat (first | (with_reducible first | exact HB.out | apply below_alloc | apply pw_below_drewN | apply below_drew1 | refine below_set ?_ GE1147.out) | exact HB.out)) hb); clear BK1147; clear HB; have BK1147 := n0_; have HB := n1_; clear n0_ n1_; (try clear hb); (try clear hb2); (try clear hk); (try clear hi)))
              go_meet
              case rel => exact ⟨_, (true), (by first | rfl | (simp; done) | (simp [*]; done)), H', ⟨by have := HJ7.out; first | omega | exact Nat.le_refl _⟩, ⟨by (with_reducible repeat (first | apply bN | apply bd | apply bA)); exact BK1147.out⟩, ⟨by repeat (first | (with_reducible first | exact HB.out | apply below_alloc | apply pw_below_drewN | apply below_drew1 | refine below_set ?_ GE1147.out) | exact HB.out)⟩⟩
          case rest =>
            clear HC21
            try clear c1
            try clear c2
            try clear p2
            try clear c4
            try clear c5
            try clear c6
            try clear c8
            try clear c11
            try clear c13
            try clear c15
            try clear c16
            try clear c16b0
            try clear c16b1
            try clear c17
            try clear c20
            try clear c20b0
            try clear c20b1
            try clear c23
            try clear hcz18_0
            try clear hcz18_1
            try clear hfz18_0
            try clear hfz18_1
            try clear p2
            obtain ⟨kq, x63_20, rfl, HA, HJ20, BK1147, HB⟩ := hcut
            cases kq with
            | zero => exact absurd HA.out (by simp [impl_ExtractCollision.j1])
            | succ kj20 =>
              have H := HA.out
              clear HA
              simp only [impl_ExtractCollision.j1] at H
              by_cases c28 : x63_20 = true
              · subst c28
                have H1 : (some ((⟨#[]⟩ : ByteArray), (⟨#[]⟩ : ByteArray), 9)) = some (r1, r2, r3) := by rw [if_pos rfl] at H; exact H
                clear H
                have H := H1
                clear H1
                simp only [Option.some.injEq, Prod.mk.injEq] at H
                obtain ⟨rfl, rfl, rfl⟩ := H
                have hcz29_0 : wc.cell? ⟨gb1147, 0, none⟩ = some (.string (⟨#[]⟩ : ByteArray)) := (blk_cell BK1147.out 0).trans rfl
                have hcz29_1 : wc.cell? ⟨gb1147, 1, none⟩ = some (.string (⟨#[]⟩ : ByteArray)) := (blk_cell BK1147.out 1).trans rfl
                have hfz29_0 := blk_frozen BK1147.out 0
                have hfz29_1 := blk_frozen BK1147.out 1
                go_wp2
                refine bodyPost_ret (results_ct rfl _ _ gb1147 54 #[.string (⟨#[]⟩ : ByteArray), .string (⟨#[]⟩ : ByteArray)] (0, 0) _ rfl (by (with_reducible repeat (first | apply bN | apply bd | apply bA)); refine blk_put (cs := #[.string (⟨#[]⟩ : ByteArray), .string (⟨#[]⟩ : ByteArray)]) ?_ 1 _ rfl; (with_reducible repeat (first | apply bN | apply bd | apply bA)); refine blk_put (cs := #[.string (⟨#[]⟩ : ByteArray), .string (⟨#[]⟩ : ByteArray)]) ?_ 0 _ rfl; (with_reducible repeat (first | apply bN | apply bd | apply bA)); exact BK1147.out) Try.underlying54 rfl (by kernel_rfl)) rfl ?_
                exact ⟨by first | rfl | (simp [errW_none, errW_some] <;> rfl) | (simp [*, errW_none, errW_some] <;> rfl), by repeat (first | (with_reducible first | exact HB.out | apply below_alloc | apply pw_below_drewN | apply below_drew1 | refine below_set ?_ GE1147.out) | exact HB.out)⟩
              · replace c28 := Bool.eq_false_iff.mpr c28
                subst c28
                have H1 : ((impl_texts.f kj20 a2 a3 l4).bind fun t1154 => ((impl_texts.f kj20 a2 a5 l6).bind fun t1157 => (impl_ExtractCollision.l0 kj20 t1154 t1157 (wrap64 ((t1154.length : Int) - 1))))) = some (r1, r2, r3) := by rw [if_neg (show ¬ (false = true) by decide)] at H; exact H
                clear H
                have H := H1
                clear H1
                replace H := Option.bind_eq_some_iff.mp H
                obtain ⟨t1154, A300, H⟩ := H
                replace H : ((impl_texts.f kj20 a2 a5 l6).bind fun t1157 => (impl_ExtractCollision.l0 kj20 t1154 t1157 (wrap64 ((t1154.length : Int) - 1)))) = some (r1, r2, r3) := H
                have A30 := Aside0.mk A300
                clear A300
                replace H := Option.bind_eq_some_iff.mp H
                obtain ⟨t1157, A310, H⟩ := H
                replace H : (impl_ExtractCollision.l0 kj20 t1154 t1157 (wrap64 ((t1154.length : Int) - 1))) = some (r1, r2, r3) := H
                have A31 := Aside0.mk A310
                clear A310
                have H' := Aside0.mk H
                clear H
                go_wp2_with (first | ((with_reducible refine gate_callee (f := 113) rfl ?_); refine goesL_ (some 68) rfl rfl Try.func113 (by kernel_rfl) rfl #[.int .i64 a2, .string a3, .slice A4 l4.length c4] rfl (by (try simp only [List.map_toArray, List.map_cons, List.map_nil]); first | done | rfl | (simp only [List.length_drop, List.length_take]; rfl)) ?_; (with_reducible refine (impl_texts.calls kj20 a2 a3 _ _ l4 t1154 _ ?side1 ?side2 A30.out).mono ?_); (case side1 => repeat (first | exact (Kd.C_below HR4.out HB.out) | (with_reducible refine Kd.C_alloc ?_ _) | (with_reducible refine Kd.C_drewN ?_ _) | (with_reducible refine Kd.C_drew ?_))); (case side2 => exact HC4.out); rintro e w32 ⟨v1155, rfl, ho0, hb⟩; refine ⟨_, rfl, ?_⟩; have n0_ := Aside0.mk (Kd.R_lower ho0 (below_size (by repeat (first | (with_reducible first | exact HB.out | apply below_alloc | apply pw_below_drewN | apply below_drew1 | refine below_set ?_ GE1147.out) | exact HB.out)))); have n1_ := Aside0.mk (blk_below (g := gb1147) (o := .cells #[.string (⟨#[]⟩ : ByteArray), .string (⟨#[]⟩ : ByteArray)] 54 (0, 0)) (by (with_reducible repeat (first | apply bN | apply bd | apply bA)); exact BK1147.out) hb); have n2_ := Aside0.mk (below_step (by repeat (first | (with_reducible first | exact HB.out | apply below_alloc | apply pw_below_drewN | apply below_drew1 | refine below_set ?_ GE1147.out) | exact HB.out)) hb); clear BK1147; clear HB; have HO1156 := n0_; have BK1147 := n1_; have HB := n2_; clear n0_ n1_ n2_; (try clear hb); (try clear hb2); (try clear hk); (try clear hi); (try clear ho0)) | ((with_reducible refine gate_callee (f := 113) rfl ?_); refine goesL_ (some 72) rfl rfl Try.func113 (by kernel_rfl) rfl #[.int .i64 a2, .string a5, .slice A6 l6.length c6] rfl (by (try simp only [List.map_toArray, List.map_cons, List.map_nil]); first | done | rfl | (simp only [List.length_drop, List.length_take]; rfl)) ?_; (with_reducible refine (impl_texts.calls kj20 a2 a5 _ _ l6 t1157 _ ?side1 ?side2 A31.out).mono ?_); (case side1 => repeat (first | exact (Kd.C_below HR6.out HB.out) | (with_reducible refine Kd.C_alloc ?_ _) | (with_reducible refine Kd.C_drewN ?_ _) | (with_reducible refine Kd.C_drew ?_))); (case side2 => exact HC6.out); rintro e w33 ⟨v1158, rfl, ho0, hb⟩; refine ⟨_, rfl, ?_⟩; have n0_ := Aside0.mk (Kd.R_elder' (by (with_reducible repeat (first | apply Kd.R_alloc | apply Kd.R_drewN | apply Kd.R_drew)); exact HO1156.out) (Kd.R_base ho0) hb); have n1_ := Aside0.mk (Kd.R_lower (Kd.R_new' ho0 (Kd.R_lt (by (with_reducible repeat (first | apply Kd.R_alloc | apply Kd.R_drewN | apply Kd.R_drew)); exact HO1156.out))) (below_size (by repeat (first | (with_reducible first | exact HB.out | apply below_alloc | apply pw_below_drewN | apply below_drew1 | refine below_set ?_ GE1147.out) | exact HB.out)))); have n2_ := Aside0.mk (blk_below (g := gb1147) (o := .cells #[.string (⟨#[]⟩ : ByteArray), .string (⟨#[]⟩ : ByteArray)] 54 (0, 0)) (by (with_reducible repeat (first | apply bN | apply bd | apply bA)); exact BK1147.out) hb); have n3_ := Aside0.mk (below_step (by repeat (first | (with_reducible first | exact HB.out | apply below_alloc | apply pw_below_drewN | apply below_drew1 | refine below_set ?_ GE1147.out) | exact HB.out)) hb); clear HO1156; clear BK1147; clear HB; have HO1156 := n0_; have HO1159 := n1_; have BK1147 := n2_; have HB := n3_; clear n0_ n1_ n2_ n3_; (try clear hb); (try clear hb2); (try clear hk); (try clear hi); (try clear ho0); obtain ⟨Ao34, co34, eo34⟩ := Kd.R_slice HO1156.out; subst eo34))
                go_loopg [19] kj20 (fun kq v19 w' => ∃ (x19_3 : Int) (x1148000_3 : ByteArray) (x1148001_3 : ByteArray), v19 = .int .i64 x19_3 ∧ Aside0 (impl_ExtractCollision.l0 kq t1154 t1157 x19_3 = some (r1, r2, r3)) ∧ Aside0 (kq ≤ kj20) ∧ Aside0 (Kd.R Kd.string 9 w' w.heap.size (fun k_ => some k_ ≠ (v1158 : Value).ownBlock) (.slice Ao34 t1154.length co34) t1154) ∧ Aside0 (Kd.R Kd.string 9 w' w.heap.size (fun k_ => some k_ ≠ ((.slice Ao34 t1154.length co34) : Value).ownBlock) v1158 t1157) ∧ Aside0 (w'.heap[gb1147]? = some (.cells #[.string x1148000_3, .string x1148001_3] 54 (0, 0))) ∧ Aside0 (Below w.heap.size w w'))
                case atStart => exact ⟨(wrap64 ((t1154.length : Int) - 1)), ((⟨#[]⟩ : ByteArray)), ((⟨#[]⟩ : ByteArray)), (by first | rfl | (simp; done) | (simp [*]; done)), H', ⟨Nat.le_refl _⟩, ⟨by (with_reducible repeat (first | apply Kd.R_alloc | apply Kd.R_drewN | apply Kd.R_drew)); exact Kd.R_mono HO1156.out (fun _ hk => hk.2)⟩, ⟨by (with_reducible repeat (first | apply Kd.R_alloc | apply Kd.R_drewN | apply Kd.R_drew)); exact Kd.R_mono HO1159.out (fun _ hk => hk.2)⟩, ⟨by (with_reducible repeat (first | apply bN | apply bd | apply bA)); exact BK1147.out⟩, ⟨by repeat (first | (with_reducible first | exact HB.out | apply below_alloc | apply pw_below_drewN | apply below_drew1 | refine below_set ?_ GE1147.out) | exact HB.out)⟩⟩
                case round =>
                  clear H'
                  try clear c1
                  try clear c2
                  try clear p2
                  try clear c4
                  try clear c5
                  try clear c6
                  try clear p6
                  try clear c8
                  try clear c11
                  try clear c13
                  try clear c15
                  try clear c16
                  try clear c16b0
                  try clear c16b1
                  try clear c17
                  try clear c20
                  try clear c20b0
                  try clear c20b1
                  try clear c23
                  try clear c28
                  try clear hcz18_0
                  try clear hcz18_1
                  try clear hcz29_0
                  try clear hcz29_1
                  try clear hfz18_0
                  try clear hfz18_1
                  try clear hfz29_0
                  try clear hfz29_1
                  try clear p2
                  obtain ⟨x19_3, x1148000_3, x1148001_3, rfl, HA, HK3, HO_17, HO_18, BK1147, HB⟩ := hrel
                  cases gk with
                  | zero => exact absurd HA.out (by simp [impl_ExtractCollision.l0])
                  | succ k3 =>
                    have H := HA.out
                    clear HA
                    simp only [impl_ExtractCollision.l0] at H
                    by_cases c35 : x19_3 ≥ 0
                    · rw [if_pos c35] at H
                      have c35b0 : decide (0 ≤ x19_3) = true := decide_eq_true c35
                      clear c35
                      by_cases c36 : 0 ≤ x19_3
                      · rw [if_pos c36] at H
                        have c36b0 : decide (0 ≤ x19_3) = true := decide_eq_true c36
                        clear c36
                        by_cases c37 : x19_3 < (t1154.length : Int)
                        · rw [if_pos c37] at H
                          have c37b0 : decide (x19_3 < (t1154.length : Int)) = true := decide_eq_true c37
                          clear c37
                          by_cases c38 : x19_3 < (t1157.length : Int)
                          · rw [if_pos c38] at H
                            have c38b0 : decide (x19_3 < (t1157.length : Int)) = true := decide_eq_true c38
                            clear c38
                            by_cases c39 : (rdOf ByteArray.empty t1154 x19_3).toList = (rdOf ByteArray.empty t1157 x19_3).toList
                            · rw [if_pos c39] at H
                              have c39b0 : ((rdOf ByteArray.empty t1154 x19_3).toList == (rdOf ByteArray.empty t1157 x19_3).toList) = true := beq_iff_eq.mpr c39
                              have c39b1 : ((rdOf ByteArray.empty t1154 x19_3).toList != (rdOf ByteArray.empty t1157 x19_3).toList) = false := bne_eq_false_iff_eq.mpr c39
                              clear c39
                              have H' := Aside0.mk H
                              clear H
                              try go_wp2
                              have n0_ := Aside0.mk (Kd.R_drew HO_17.out)
                              have n1_ := Aside0.mk (Kd.R_drew HO_18.out)
                              have n2_ := Aside0.mk (blk_drew BK1147.out)
                              have n3_ := Aside0.mk (below_drew1 HB.out)
                              clear HO_17
                              clear HO_18
                              clear BK1147
                              clear HB
                              have HO_17 := n0_
                              have HO_18 := n1_
                              have BK1147 := n2_
                              have HB := n3_
                              clear n0_ n1_ n2_ n3_
                              have p1160 : 0 ≤ (x19_3 : Int) := of_decide_eq_true (by first | (with_reducible assumption) | assumption)
                              have q1160 : x19_3 < (t1154.length : Int) := of_decide_eq_true (by first | (with_reducible assumption) | assumption)
                              obtain ⟨ad1160, e1160, hx1160_0⟩ := Kd.at_string (Kd.R_reads' HO_17.out).2.2 x19_3 p1160 q1160
                              cases e1160
                              replace p1160 := eq_true p1160
                              replace q1160 := eq_true q1160
                              obtain ⟨Ao41, co41, eo41⟩ := Kd.R_slice HO_18.out
                              (first | subst eo41 | (injection eo41 with f1_ f2_ f3_; have f4_ := f1_.symm; have f5_ := f3_.symm; clear f1_ f2_ f3_; subst f4_; subst f5_))
                              have p1161 : 0 ≤ (x19_3 : Int) := of_decide_eq_true (by first | (with_reducible assumption) | assumption)
                              have q1161 : x19_3 < (t1157.length : Int) := of_decide_eq_true (by first | (with_reducible assumption) | assumption)
                              obtain ⟨ad1161, e1161, hx1161_0⟩ := Kd.at_string (Kd.R_reads' HO_18.out).2.2 x19_3 p1161 q1161
                              cases e1161
                              replace p1161 := eq_true p1161
                              replace q1161 := eq_true q1161
                              refine start_ (n := 9) (S := fun w' => w'.cell? (ad1160.add (x19_3).toNat) = some (.string (rdOf ByteArray.empty t1154 x19_3)) ∧ w'.cell? (ad1161.add (x19_3).toNat) = some (.string (rdOf ByteArray.empty t1157 x19_3))) (ds := []) #[false, false, false, false, false, false, false, false, false] (by kernel_rfl) rfl rfl ⟨hx1160_0, hx1161_0⟩ (fun hHeld => ?_); refine with_tabW impl_ExtractCollision.tab12 impl_ExtractCollision.bits12 (fun HT_ HW_ => ?_)
                              generalize wr.drew = w40 at HO_17 HO_18 BK1147 HB hx1160_0 hx1161_0 hHeld ⊢
                              refine pure_ (i := 0) (N := some 80) (v := ?_) (a' := ?_) #[true, false, false, false, false, false, false, false, false] rfl rfl (any_of HT_.out (by kernel_rfl)) (fun _ _ _ h => h) (Or.inl ⟨by rfl, ?_⟩) ?_ ?_
                              rotate_left
                              · intro w'
                                go_simp
                                with_reducible rfl
                              rotate_left
                              · simp only [Act.put, List.setIfInBounds_toArray, List.set_cons_zero, List.set_cons_succ, i64_w, i32_w]
                                rfl
                              refine pure_ (i := 1) (N := some 81) (v := ?_) (a' := ?_) #[true, true, false, false, false, false, false, false, false] rfl rfl (any_of HT_.out (by kernel_rfl)) (fun _ _ _ h => h) (Or.inl ⟨by rfl, ?_⟩) ?_ ?_
                              rotate_left
                              · intro w'
                                go_simp
                                with_reducible rfl
                              rotate_left
                              · simp only [Act.put, List.setIfInBounds_toArray, List.set_cons_zero, List.set_cons_succ, i64_w, i32_w]
                                rfl
                              refine pure_ (i := 2) (N := some 82) (v := ?_) (a' := ?_) #[true, true, true, false, false, false, false, false, false] rfl rfl (any_of HT_.out (by kernel_rfl)) (fun _ _ _ h => h) (Or.inl ⟨by rfl, ?_⟩) ?_ ?_
                              rotate_left
                              · intro w'
                                go_simp
                                with_reducible rfl
                              rotate_left
                              · simp only [Act.put, List.setIfInBounds_toArray, List.set_cons_zero, List.set_cons_succ, i64_w, i32_w]
                                rfl
                              refine pure_ (i := 4) (N := some 84) (v := ?_) (a' := ?_) #[true, true, true, false, true, false, false, false, false] rfl rfl (any_of HT_.out (by kernel_rfl)) (fun _ _ _ h => h) (Or.inl ⟨by rfl, ?_⟩) ?_ ?_
                              rotate_left
                              · intro w'
                                go_simp
                                with_reducible rfl
                              rotate_left
                              · simp only [Act.put, List.setIfInBounds_toArray, List.set_cons_zero, List.set_cons_succ, i64_w, i32_w]
                                rfl
                              refine pure_ (i := 5) (N := some 85) (v := ?_) (a' := ?_) #[true, true, true, false, true, true, false, false, false] rfl rfl (any_of HT_.out (by kernel_rfl)) (fun _ _ _ h => h) (Or.inl ⟨by rfl, ?_⟩) ?_ ?_
                              rotate_left
                              · intro w'
                                go_simp
                                with_reducible rfl
                              rotate_left
                              · simp only [Act.put, List.setIfInBounds_toArray, List.set_cons_zero, List.set_cons_succ, i64_w, i32_w]
                                rfl
                              refine pure_ (i := 6) (N := some 86) (v := ?_) (a' := ?_) #[true, true, true, false, true, true, true, false, false] rfl rfl (any_of HT_.out (by kernel_rfl)) (fun _ _ _ h => h) (Or.inl ⟨by rfl, ?_⟩) ?_ ?_
                              rotate_left
                              · intro w'
                                go_simp
                                with_reducible rfl
                              rotate_left
                              · simp only [Act.put, List.setIfInBounds_toArray, List.set_cons_zero, List.set_cons_succ, i64_w, i32_w]
                                rfl
                              refine take_ (i := 3) (N := some 83) (v := ?_) (a' := ?_) #[true, true, true, true, true, true, true, false, false] rfl rfl (take_ofW HT_.out HW_.out (by kernel_rfl)) (fun _ _ _ h => h) (Or.inl ⟨by rfl, ?_⟩) hHeld ?_ ?_
                              rotate_left
                              · rintro w' ⟨s0, s1⟩
                                go_simp
                                with_reducible rfl
                              rotate_left
                              · simp only [Act.put, List.setIfInBounds_toArray, List.set_cons_zero, List.set_cons_succ, i64_w, i32_w]
                                rfl
                              refine take_ (i := 7) (N := some 87) (v := ?_) (a' := ?_) #[true, true, true, true, true, true, true, true, false] rfl rfl (take_ofW HT_.out HW_.out (by kernel_rfl)) (fun _ _ _ h => h) (Or.inl ⟨by rfl, ?_⟩) hHeld ?_ ?_
                              rotate_left
                              · rintro w' ⟨s0, s1⟩
                                go_simp
                                with_reducible rfl
                              rotate_left
                              · simp only [Act.put, List.setIfInBounds_toArray, List.set_cons_zero, List.set_cons_succ, i64_w, i32_w]
                                rfl
                              refine pure_ (i := 8) (N := some 88) (v := ?_) (a' := ?_) #[true, true, true, true, true, true, true, true, true] rfl rfl (any_of HT_.out (by kernel_rfl)) (fun _ _ _ h => h) (Or.inl ⟨by rfl, ?_⟩) ?_ ?_
                              rotate_left
                              · intro w'
                                go_simp
                                with_reducible rfl
                              rotate_left
                              · simp only [Act.put, List.setIfInBounds_toArray, List.set_cons_zero, List.set_cons_succ, i64_w, i32_w]
                                rfl
                              refine done_ (done_of HT_.out (by kernel_rfl)) ?_
                              try go_wp2
                              go_roundg k3
                              case measure => have := HJ7.out; have := HJ20.out; have := HK3.out; omega
                              case rel => exact ⟨(wrap64 (x19_3 - 1)), (x1148000_3), (x1148001_3), (by first | rfl | (simp; done) | (simp [*]; done)), H', ⟨by have := HJ7.out; have := HJ20.out; have := HK3.out; omega⟩, ⟨by (with_reducible repeat (first | apply Kd.R_alloc | apply Kd.R_drewN | apply Kd.R_drew)); exact HO_17.out⟩, ⟨by (with_reducible repeat (first | apply Kd.R_alloc | apply Kd.R_drewN | apply Kd.R_drew)); exact HO_18.out⟩, ⟨by (with_reducible repeat (first | apply bN | apply bd | apply bA)); exact BK1147.out⟩, ⟨by repeat (first | (with_reducible first | exact HB.out | apply below_alloc | apply pw_below_drewN | apply below_drew1 | refine below_set ?_ GE1147.out) | exact HB.out)⟩⟩
                            · rw [if_neg c39] at H
                              have c39b0 : ((rdOf ByteArray.empty t1154 x19_3).toList == (rdOf ByteArray.empty t1157 x19_3).toList) = false := beq_eq_false_iff_ne.mpr c39
                              have c39b1 : ((rdOf ByteArray.empty t1154 x19_3).toList != (rdOf ByteArray.empty t1157 x19_3).toList) = true := bne_iff_ne.mpr c39
                              simp only [Option.some.injEq, Prod.mk.injEq] at H
                              obtain ⟨rfl, rfl, rfl⟩ := H
                              try go_wp2
                              have n0_ := Aside0.mk (Kd.R_drew HO_17.out)
                              have n1_ := Aside0.mk (Kd.R_drew HO_18.out)
                              have n2_ := Aside0.mk (blk_drew BK1147.out)
                              have n3_ := Aside0.mk (below_drew1 HB.out)
                              clear HO_17
                              clear HO_18
                              clear BK1147
                              clear HB
                              have HO_17 := n0_
                              have HO_18 := n1_
                              have BK1147 := n2_
                              have HB := n3_
                              clear n0_ n1_ n2_ n3_
                              have p1160 : 0 ≤ (x19_3 : Int) := of_decide_eq_true (by first | (with_reducible assumption) | assumption)
                              have q1160 : x19_3 < (t1154.length : Int) := of_decide_eq_true (by first | (with_reducible assumption) | assumption)
                              obtain ⟨ad1160, e1160, hx1160_0⟩ := Kd.at_string (Kd.R_reads' HO_17.out).2.2 x19_3 p1160 q1160
                              cases e1160
                              replace p1160 := eq_true p1160
                              replace q1160 := eq_true q1160
                              obtain ⟨Ao43, co43, eo43⟩ := Kd.R_slice HO_18.out
                              (first | subst eo43 | (injection eo43 with f1_ f2_ f3_; have f4_ := f1_.symm; have f5_ := f3_.symm; clear f1_ f2_ f3_; subst f4_; subst f5_))
                              have p1161 : 0 ≤ (x19_3 : Int) := of_decide_eq_true (by first | (with_reducible assumption) | assumption)
                              have q1161 : x19_3 < (t1157.length : Int) := of_decide_eq_true (by first | (with_reducible assumption) | assumption)
                              obtain ⟨ad1161, e1161, hx1161_0⟩ := Kd.at_string (Kd.R_reads' HO_18.out).2.2 x19_3 p1161 q1161
                              cases e1161
                              replace p1161 := eq_true p1161
                              replace q1161 := eq_true q1161
                              refine start_ (n := 9) (S := fun w' => w'.cell? (ad1160.add (x19_3).toNat) = some (.string (rdOf ByteArray.empty t1154 x19_3)) ∧ w'.cell? (ad1161.add (x19_3).toNat) = some (.string (rdOf ByteArray.empty t1157 x19_3))) (ds := []) #[false, false, false, false, false, false, false, false, false] (by kernel_rfl) rfl rfl ⟨hx1160_0, hx1161_0⟩ (fun hHeld => ?_); refine with_tabW impl_ExtractCollision.tab12 impl_ExtractCollision.bits12 (fun HT_ HW_ => ?_)
                              generalize wr.drew = w42 at HO_17 HO_18 BK1147 HB hx1160_0 hx1161_0 hHeld ⊢
                              refine pure_ (i := 0) (N := some 80) (v := ?_) (a' := ?_) #[true, false, false, false, false, false, false, false, false] rfl rfl (any_of HT_.out (by kernel_rfl)) (fun _ _ _ h => h) (Or.inl ⟨by rfl, ?_⟩) ?_ ?_
                              rotate_left
                              · intro w'
                                go_simp
                                with_reducible rfl
                              rotate_left
                              · simp only [Act.put, List.setIfInBounds_toArray, List.set_cons_zero, List.set_cons_succ, i64_w, i32_w]
                                rfl
                              refine pure_ (i := 1) (N := some 81) (v := ?_) (a' := ?_) #[true, true, false, false, false, false, false, false, false] rfl rfl (any_of HT_.out (by kernel_rfl)) (fun _ _ _ h => h) (Or.inl ⟨by rfl, ?_⟩) ?_ ?_
                              rotate_left
                              · intro w'
                                go_simp
                                with_reducible rfl
                              rotate_left
                              · simp only [Act.put, List.setIfInBounds_toArray, List.set_cons_zero, List.set_cons_succ, i64_w, i32_w]
                                rfl
                              refine pure_ (i := 2) (N := some 82) (v := ?_) (a' := ?_) #[true, true, true, false, false, false, false, false, false] rfl rfl (any_of HT_.out (by kernel_rfl)) (fun _ _ _ h => h) (Or.inl ⟨by rfl, ?_⟩) ?_ ?_
                              rotate_left
                              · intro w'
                                go_simp
                                with_reducible rfl
                              rotate_left
                              · simp only [Act.put, List.setIfInBounds_toArray, List.set_cons_zero, List.set_cons_succ, i64_w, i32_w]
                                rfl
                              refine pure_ (i := 4) (N := some 84) (v := ?_) (a' := ?_) #[true, true, true, false, true, false, false, false, false] rfl rfl (any_of HT_.out (by kernel_rfl)) (fun _ _ _ h => h) (Or.inl ⟨by rfl, ?_⟩) ?_ ?_
                              rotate_left
                              · intro w'
                                go_simp
                                with_reducible rfl
                              rotate_left
                              · simp only [Act.put, List.setIfInBounds_toArray, List.set_cons_zero, List.set_cons_succ, i64_w, i32_w]
                                rfl
                              refine pure_ (i := 5) (N := some 85) (v := ?_) (a' := ?_) #[true, true, true, false, true, true, false, false, false] rfl rfl (any_of HT_.out (by kernel_rfl)) (fun _ _ _ h => h) (Or.inl ⟨by rfl, ?_⟩) ?_ ?_
                              rotate_left
                              · intro w'
                                go_simp
                                with_reducible rfl
                              rotate_left
                              · simp only [Act.put, List.setIfInBounds_toArray, List.set_cons_zero, List.set_cons_succ, i64_w, i32_w]
                                rfl
                              refine pure_ (i := 6) (N := some 86) (v := ?_) (a' := ?_) #[true, true, true, false, true, true, true, false, false] rfl rfl (any_of HT_.out (by kernel_rfl)) (fun _ _ _ h => h) (Or.inl ⟨by rfl, ?_⟩) ?_ ?_
                              rotate_left
                              · intro w'
                                go_simp
                                with_reducible rfl
                              rotate_left
                              · simp only [Act.put, List.setIfInBounds_toArray, List.set_cons_zero, List.set_cons_succ, i64_w, i32_w]
                                rfl
                              refine take_ (i := 3) (N := some 83) (v := ?_) (a' := ?_) #[true, true, true, true, true, true, true, false, false] rfl rfl (take_ofW HT_.out HW_.out (by kernel_rfl)) (fun _ _ _ h => h) (Or.inl ⟨by rfl, ?_⟩) hHeld ?_ ?_
                              rotate_left
                              · rintro w' ⟨s0, s1⟩
                                go_simp
                                with_reducible rfl
                              rotate_left
                              · simp only [Act.put, List.setIfInBounds_toArray, List.set_cons_zero, List.set_cons_succ, i64_w, i32_w]
                                rfl
                              refine take_ (i := 7) (N := some 87) (v := ?_) (a' := ?_) #[true, true, true, true, true, true, true, true, false] rfl rfl (take_ofW HT_.out HW_.out (by kernel_rfl)) (fun _ _ _ h => h) (Or.inl ⟨by rfl, ?_⟩) hHeld ?_ ?_
                              rotate_left
                              · rintro w' ⟨s0, s1⟩
                                go_simp
                                with_reducible rfl
                              rotate_left
                              · simp only [Act.put, List.setIfInBounds_toArray, List.set_cons_zero, List.set_cons_succ, i64_w, i32_w]
                                rfl
                              refine pure_ (i := 8) (N := some 88) (v := ?_) (a' := ?_) #[true, true, true, true, true, true, true, true, true] rfl rfl (any_of HT_.out (by kernel_rfl)) (fun _ _ _ h => h) (Or.inl ⟨by rfl, ?_⟩) ?_ ?_
                              rotate_left
                              · intro w'
                                go_simp
                                with_reducible rfl
                              rotate_left
                              · simp only [Act.put, List.setIfInBounds_toArray, List.set_cons_zero, List.set_cons_succ, i64_w, i32_w]
                                rfl
                              refine done_ (done_of HT_.out (by kernel_rfl)) ?_
                              try go_wp2
                              have n0_ := Aside0.mk (Kd.R_drew HO_17.out)
                              have n1_ := Aside0.mk (Kd.R_drew HO_18.out)
                              have n2_ := Aside0.mk (blk_drew BK1147.out)
                              have n3_ := Aside0.mk (below_drew1 HB.out)
                              clear HO_17
                              clear HO_18
                              clear BK1147
                              clear HB
                              have HO_17 := n0_
                              have HO_18 := n1_
                              have BK1147 := n2_
                              have HB := n3_
                              clear n0_ n1_ n2_ n3_
                              have p1162 : 0 ≤ (x19_3 : Int) := of_decide_eq_true (by first | (with_reducible assumption) | assumption)
                              have q1162 : x19_3 < (t1154.length : Int) := of_decide_eq_true (by first | (with_reducible assumption) | assumption)
                              obtain ⟨ad1162, e1162, hx1162_0⟩ := Kd.at_string (Kd.R_reads' HO_17.out).2.2 x19_3 p1162 q1162
                              obtain rfl : ad1160 = ad1162 := (by injection e1162)
                              replace p1162 := eq_true p1162
                              replace q1162 := eq_true q1162
                              have p1163 : 0 ≤ (x19_3 : Int) := of_decide_eq_true (by first | (with_reducible assumption) | assumption)
                              have q1163 : x19_3 < (t1157.length : Int) := of_decide_eq_true (by first | (with_reducible assumption) | assumption)
                              obtain ⟨ad1163, e1163, hx1163_0⟩ := Kd.at_string (Kd.R_reads' HO_18.out).2.2 x19_3 p1163 q1163
                              obtain rfl : ad1161 = ad1163 := (by injection e1163)
                              replace p1163 := eq_true p1163
                              replace q1163 := eq_true q1163
                              refine start_ (n := 11) (S := fun w' => w'.cell? (ad1160.add (x19_3).toNat) = some (.string (rdOf ByteArray.empty t1154 x19_3)) ∧ w'.cell? (ad1161.add (x19_3).toNat) = some (.string (rdOf ByteArray.empty t1157 x19_3))) (ds := []) #[false, false, false, false, false, false, false, false, false, false, false] (by kernel_rfl) rfl rfl ⟨hx1162_0, hx1163_0⟩ (fun hHeld => ?_); refine with_tabW impl_ExtractCollision.tab13 impl_ExtractCollision.bits13 (fun HT_ HW_ => ?_)
                              generalize w42.drew = w44 at HO_17 HO_18 BK1147 HB hx1162_0 hx1163_0 hHeld ⊢
                              refine pure_ (i := 0) (N := some 89) (v := ?_) (a' := ?_) #[true, false, false, false, false, false, false, false, false, false, false] rfl rfl (any_of HT_.out (by kernel_rfl)) (fun _ _ _ h => h) (Or.inl ⟨by rfl, ?_⟩) ?_ ?_
                              rotate_left
                              · intro w'
                                go_simp
                                with_reducible rfl
                              rotate_left
                              · simp only [Act.put, List.setIfInBounds_toArray, List.set_cons_zero, List.set_cons_succ, i64_w, i32_w]
                                rfl
                              refine pure_ (i := 1) (N := some 90) (v := ?_) (a' := ?_) #[true, true, false, false, false, false, false, false, false, false, false] rfl rfl (any_of HT_.out (by kernel_rfl)) (fun _ _ _ h => h) (Or.inl ⟨by rfl, ?_⟩) ?_ ?_
                              rotate_left
                              · intro w'
                                go_simp
                                with_reducible rfl
                              rotate_left
                              · simp only [Act.put, List.setIfInBounds_toArray, List.set_cons_zero, List.set_cons_succ, i64_w, i32_w]
                                rfl
                              refine pure_ (i := 2) (N := some 91) (v := ?_) (a' := ?_) #[true, true, true, false, false, false, false, false, false, false, false] rfl rfl (any_of HT_.out (by kernel_rfl)) (fun _ _ _ h => h) (Or.inl ⟨by rfl, ?_⟩) ?_ ?_
                              rotate_left
                              · intro w'
                                go_simp
                                with_reducible rfl
                              rotate_left
                              · simp only [Act.put, List.setIfInBounds_toArray, List.set_cons_zero, List.set_cons_succ, i64_w, i32_w]
                                rfl
                              refine pure_ (i := 4) (N := some 93) (v := ?_) (a' := ?_) #[true, true, true, false, true, false, false, false, false, false, false] rfl rfl (any_of HT_.out (by kernel_rfl)) (fun _ _ _ h => h) (Or.inl ⟨by rfl, ?_⟩) ?_ ?_
                              rotate_left
                              · intro w'
                                go_simp
                                with_reducible rfl
                              rotate_left
                              · simp only [Act.put, List.setIfInBounds_toArray, List.set_cons_zero, List.set_cons_succ, i64_w, i32_w]
                                rfl
                              refine pure_ (i := 5) (N := some 94) (v := ?_) (a' := ?_) #[true, true, true, false, true, true, false, false, false, false, false] rfl rfl (any_of HT_.out (by kernel_rfl)) (fun _ _ _ h => h) (Or.inl ⟨by rfl, ?_⟩) ?_ ?_
                              rotate_left
                              · intro w'
                                go_simp
                                with_reducible rfl
                              rotate_left
                              · simp only [Act.put, List.setIfInBounds_toArray, List.set_cons_zero, List.set_cons_succ, i64_w, i32_w]
                                rfl
                              refine pure_ (i := 6) (N := some 95) (v := ?_) (a' := ?_) #[true, true, true, false, true, true, true, false, false, false, false] rfl rfl (any_of HT_.out (by kernel_rfl)) (fun _ _ _ h => h) (Or.inl ⟨by rfl, ?_⟩) ?_ ?_
                              rotate_left
                              · intro w'
                                go_simp
                                with_reducible rfl
                              rotate_left
                              · simp only [Act.put, List.setIfInBounds_toArray, List.set_cons_zero, List.set_cons_succ, i64_w, i32_w]
                                rfl
                              refine take_ (i := 3) (N := some 92) (v := ?_) (a' := ?_) #[true, true, true, true, true, true, true, false, false, false, false] rfl rfl (take_ofW HT_.out HW_.out (by kernel_rfl)) (fun _ _ _ h => h) (Or.inl ⟨by rfl, ?_⟩) hHeld ?_ ?_
                              rotate_left
                              · rintro w' ⟨s0, s1⟩
                                go_simp
                                with_reducible rfl
                              rotate_left
                              · simp only [Act.put, List.setIfInBounds_toArray, List.set_cons_zero, List.set_cons_succ, i64_w, i32_w]
                                rfl
                              refine take_ (i := 7) (N := some 96) (v := ?_) (a' := ?_) #[true, true, true, true, true, true, true, true, false, false, false] rfl rfl (take_ofW HT_.out HW_.out (by kernel_rfl)) (fun _ _ _ h => h) (Or.inl ⟨by rfl, ?_⟩) hHeld ?_ ?_
                              rotate_left
                              · rintro w' ⟨s0, s1⟩
                                go_simp
                                with_reducible rfl
                              rotate_left
                              · simp only [Act.put, List.setIfInBounds_toArray, List.set_cons_zero, List.set_cons_succ, i64_w, i32_w]
                                rfl
                              refine pure_ (i := 8) (N := some 97) (v := ?_) (a' := ?_) #[true, true, true, true, true, true, true, true, true, false, false] rfl rfl (any_of HT_.out (by kernel_rfl)) (fun _ _ _ h => h) (Or.inl ⟨by rfl, ?_⟩) ?_ ?_
                              rotate_left
                              · intro w'
                                go_simp
                                with_reducible rfl
                              rotate_left
                              · simp only [Act.put, List.setIfInBounds_toArray, List.set_cons_zero, List.set_cons_succ, i64_w, i32_w]
                                rfl
                              refine one_ (i := 9) (N := none) #[true, true, true, true, true, true, true, true, true, true, false] rfl rfl (one_of HT_.out (by kernel_rfl)) (by decide) (fun K hK => ?_)
                              have hs45 : w44.cell? ⟨gb1147, 0, none⟩ = some (.string x1148000_3) := (blk_cell BK1147.out 0).trans rfl
                              have hfs45 := blk_frozen BK1147.out 0
                              have hs46 : w44.cell? ⟨gb1147, 1, none⟩ = some (.string x1148001_3) := (blk_cell BK1147.out 1).trans rfl
                              have hfs46 := blk_frozen BK1147.out 1
                              refine skip_ (w1 := ?_) (by rfl) rfl ?_ ?_
                              rotate_left
                              · go_simp
                                rfl
                              refine hK.out _ _ ⟨((cell_far (p := ⟨gb1147, _, none⟩) (by first | exact Kd.own_blk (Kd.R_ne HO_17.out BK1147.out (by decide)) | (rw [add_block]; exact Kd.own_blk (Kd.R_ne HO_17.out BK1147.out (by decide))) | (show (Addr.add _ _).block ≠ _; rw [add_block]; exact Kd.own_blk (Kd.R_ne HO_17.out BK1147.out (by decide))) | (dsimp only; exact Kd.own_blk (Kd.R_ne HO_17.out BK1147.out (by decide)))) _).trans (((cell_far (p := ⟨gb1147, _, none⟩) (by first | exact Kd.own_blk (Kd.R_ne HO_17.out BK1147.out (by decide)) | (rw [add_block]; exact Kd.own_blk (Kd.R_ne HO_17.out BK1147.out (by decide))) | (show (Addr.add _ _).block ≠ _; rw [add_block]; exact Kd.own_blk (Kd.R_ne HO_17.out BK1147.out (by decide))) | (dsimp only; exact Kd.own_blk (Kd.R_ne HO_17.out BK1147.out (by decide)))) _).trans (hHeld.1)))), ((cell_far (p := ⟨gb1147, _, none⟩) (by first | exact Kd.own_blk (Kd.R_ne HO_18.out BK1147.out (by decide)) | (rw [add_block]; exact Kd.own_blk (Kd.R_ne HO_18.out BK1147.out (by decide))) | (show (Addr.add _ _).block ≠ _; rw [add_block]; exact Kd.own_blk (Kd.R_ne HO_18.out BK1147.out (by decide))) | (dsimp only; exact Kd.own_blk (Kd.R_ne HO_18.out BK1147.out (by decide)))) _).trans (((cell_far (p := ⟨gb1147, _, none⟩) (by first | exact Kd.own_blk (Kd.R_ne HO_18.out BK1147.out (by decide)) | (rw [add_block]; exact Kd.own_blk (Kd.R_ne HO_18.out BK1147.out (by decide))) | (show (Addr.add _ _).block ≠ _; rw [add_block]; exact Kd.own_blk (Kd.R_ne HO_18.out BK1147.out (by decide))) | (dsimp only; exact Kd.own_blk (Kd.R_ne HO_18.out BK1147.out (by decide)))) _).trans (hHeld.2))))⟩ (fun hHeld => ?_)
                              clear hK K
                              refine pure_ (i := 10) (N := some 15) (v := ?_) (a' := ?_) #[true, true, true, true, true, true, true, true, true, true, true] rfl rfl (any_of HT_.out (by kernel_rfl)) (fun _ _ _ h => h) (Or.inl ⟨by rfl, ?_⟩) ?_ ?_
                              rotate_left
                              · intro w'
                                go_simp
                                with_reducible rfl
                              rotate_left
                              · simp only [Act.put, List.setIfInBounds_toArray, List.set_cons_zero, List.set_cons_succ, i64_w, i32_w]
                                rfl
                              refine done_ (done_of HT_.out (by kernel_rfl)) ?_
                              try go_wp2
                              refine bodyPost_ret (results_ct rfl _ _ gb1147 54 #[.string (rdOf ByteArray.empty t1154 x19_3), .string (rdOf ByteArray.empty t1157 x19_3)] (0, 0) _ rfl (by (with_reducible repeat (first | apply bN | apply bd | apply bA)); refine blk_put (cs := #[.string (rdOf ByteArray.empty t1154 x19_3), .string x1148001_3]) ?_ 1 _ rfl; (with_reducible repeat (first | apply bN | apply bd | apply bA)); refine blk_put (cs := #[.string x1148000_3, .string x1148001_3]) ?_ 0 _ rfl; (with_reducible repeat (first | apply bN | apply bd | apply bA)); exact BK1147.out) Try.underlying54 rfl (by kernel_rfl)) rfl ?_
                              exact ⟨by first | rfl | (simp [errW_none, errW_some] <;> rfl) | (simp [*, errW_none, errW_some] <;> rfl), by repeat (first | (with_reducible first | exact HB.out | apply below_alloc | apply pw_below_drewN | apply below_drew1 | refine below_set ?_ GE1147.out) | exact HB.out)⟩
                          · rw [if_neg c38] at H
                            exact absurd H (by simp)
                        · rw [if_neg c37] at H
                          exact absurd H (by simp)
                      · rw [if_neg c36] at H
                        exact absurd H (by simp)
                    · rw [if_neg c35] at H
                      have c35b0 : decide (0 ≤ x19_3) = false := decide_eq_false c35
                      clear c35
                      simp only [Option.some.injEq, Prod.mk.injEq] at H
                      obtain ⟨rfl, rfl, rfl⟩ := H
                      have hcz47_0 : wr.cell? ⟨gb1147, 0, none⟩ = some (.string x1148000_3) := (blk_cell BK1147.out 0).trans rfl
                      have hcz47_1 : wr.cell? ⟨gb1147, 1, none⟩ = some (.string x1148001_3) := (blk_cell BK1147.out 1).trans rfl
                      have hfz47_0 := blk_frozen BK1147.out 0
                      have hfz47_1 := blk_frozen BK1147.out 1
                      go_wp2
                      refine bodyPost_ret (results_ct rfl _ _ gb1147 54 #[.string (⟨#[]⟩ : ByteArray), .string (⟨#[]⟩ : ByteArray)] (0, 0) _ rfl (by (with_reducible repeat (first | apply bN | apply bd | apply bA)); refine blk_put (cs := #[.string (⟨#[]⟩ : ByteArray), .string x1148001_3]) ?_ 1 _ rfl; (with_reducible repeat (first | apply bN | apply bd | apply bA)); refine blk_put (cs := #[.string x1148000_3, .string x1148001_3]) ?_ 0 _ rfl; (with_reducible repeat (first | apply bN | apply bd | apply bA)); exact BK1147.out) Try.underlying54 rfl (by kernel_rfl)) rfl ?_
                      exact ⟨by first | rfl | (simp [errW_none, errW_some] <;> rfl) | (simp [*, errW_none, errW_some] <;> rfl), by repeat (first | (with_reducible first | exact HB.out | apply below_alloc | apply pw_below_drewN | apply below_drew1 | refine below_set ?_ GE1147.out) | exact HB.out)⟩
        · rw [if_neg c20] at H
          have c20b0 : (t1151 == 0) = false := beq_eq_false_iff_ne.mpr c20
          have c20b1 : (t1151 != 0) = true := bne_iff_ne.mpr c20
          simp only [Option.some.injEq, Prod.mk.injEq] at H
          obtain ⟨rfl, rfl, rfl⟩ := H
          go_wp2_with (first | ((with_reducible refine gate_callee (f := 110) rfl ?_); refine goesL_ (some 43) rfl rfl Try.func110 (by kernel_rfl) rfl #[.int .i64 a1, .int .i64 a2] rfl (by (try simp only [List.map_toArray, List.map_cons, List.map_nil]); first | done | rfl | (simp only [List.length_drop, List.length_take]; rfl)) ?_; (with_reducible refine (impl_placeCode.calls a1 a2 t1151 _ A19.out).mono ?_); rintro e w' ⟨rfl, ⟨nd, rfl⟩⟩; refine ⟨_, rfl, ?_⟩; (try (rw [drewN_self wc]; generalize hq_ : World.drewN wc _ = wc; have n0_ : Aside0 (wc.heap[gb1147]? = some (.cells #[.string (⟨#[]⟩ : ByteArray), .string (⟨#[]⟩ : ByteArray)] 54 (0, 0))) := ⟨by rw [← hq_]; exact (by (with_reducible repeat (first | apply bN | apply bd | apply bA)); exact BK1147.out)⟩; have n1_ : Aside0 (Below w.heap.size w wc) := ⟨by rw [← hq_]; exact (by repeat (first | (with_reducible first | exact HB.out | apply below_alloc | apply pw_below_drewN | apply below_drew1 | refine below_set ?_ GE1147.out) | exact HB.out))⟩; clear BK1147 HB hq_; have BK1147 := n0_; have HB := n1_; clear n0_ n1_)); have hcz48_0 : wc.cell? ⟨gb1147, 0, none⟩ = some (.string (⟨#[]⟩ : ByteArray)) := (blk_cell BK1147.out 0).trans rfl; have hcz48_1 : wc.cell? ⟨gb1147, 1, none⟩ = some (.string (⟨#[]⟩ : ByteArray)) := (blk_cell BK1147.out 1).trans rfl; have hfz48_0 := blk_frozen BK1147.out 0; have hfz48_1 := blk_frozen BK1147.out 1))
          refine bodyPost_ret (results_ct rfl _ _ gb1147 54 #[.string (⟨#[]⟩ : ByteArray), .string (⟨#[]⟩ : ByteArray)] (0, 0) _ rfl (by (with_reducible repeat (first | apply bN | apply bd | apply bA)); refine blk_put (cs := #[.string (⟨#[]⟩ : ByteArray), .string (⟨#[]⟩ : ByteArray)]) ?_ 1 _ rfl; (with_reducible repeat (first | apply bN | apply bd | apply bA)); refine blk_put (cs := #[.string (⟨#[]⟩ : ByteArray), .string (⟨#[]⟩ : ByteArray)]) ?_ 0 _ rfl; (with_reducible repeat (first | apply bN | apply bd | apply bA)); exact BK1147.out) Try.underlying54 rfl (by kernel_rfl)) rfl ?_
          exact ⟨by first | rfl | (simp [errW_none, errW_some] <;> rfl) | (simp [*, errW_none, errW_some] <;> rfl), by repeat (first | (with_reducible first | exact HB.out | apply below_alloc | apply pw_below_drewN | apply below_drew1 | refine below_set ?_ GE1147.out) | exact HB.out)⟩

/-! ### impl_FieldOK: function 154 -/
def impl_FieldOK.f (a0 : Int) : Option (Bool) := (impl_in.f a0 0 2130706432).bind fun t240 => (some t240)
set_option maxHeartbeats 8000000 in
set_option maxRecDepth 100000 in
theorem impl_FieldOK.calls (a0 : Int) (r : Bool) (w : World) (h : impl_FieldOK.f a0 = some r) :
    Calls Try.prog 154 #[.int .i64 a0] w fun e w' => e = .returned (.bool r) ∧ Drawn0 w w' := by
  have H : ((impl_in.f a0 0 2130706432).bind fun t240 => (some t240)) = some r := h
  clear h
  replace H := Option.bind_eq_some_iff.mp H
  obtain ⟨t240, A20, H⟩ := H
  replace H : (some t240) = some r := H
  have A2 := Aside0.mk A20
  clear A20
  obtain rfl := Option.some.inj H
  go_enter Try.func154, Try.ntmps154
  go_wp2_with (first | ((with_reducible refine gate_callee (f := 95) rfl ?_); refine goesL_ (some 4) rfl rfl Try.func95 (by kernel_rfl) rfl #[.int .i64 a0, .int .i64 0, .int .i64 2130706432] rfl (by (try simp only [List.map_toArray, List.map_cons, List.map_nil]); first | done | rfl | (simp only [List.length_drop, List.length_take]; rfl)) ?_; (with_reducible refine (impl_in.calls a0 0 2130706432 t240 _ A2.out).mono ?_); rintro e w' ⟨rfl, ⟨nd, rfl⟩⟩; refine ⟨_, rfl, ?_⟩))
  go_ret
  exact ⟨by first | rfl | (simp; done) | (simp [*]; done), by repeat (first | exact Drawn0.refl _ | apply Drawn0.step)⟩

/-! ### laws_eqCollision: function 52 -/
def laws_eqCollision.f (a0_0 : ByteArray) (a0_1 : ByteArray) (a1_0 : ByteArray) (a1_1 : ByteArray) : Option (Bool) := if a0_0.toList = a1_0.toList then (if a0_1.toList = a1_1.toList then (some true) else (some false)) else (some false)
set_option maxHeartbeats 8000000 in
set_option maxRecDepth 100000 in
theorem laws_eqCollision.calls (a0_0 : ByteArray) (a0_1 : ByteArray) (a1_0 : ByteArray) (a1_1 : ByteArray) (r : Bool) (w : World) (h : laws_eqCollision.f a0_0 a0_1 a1_0 a1_1 = some r) :
    Calls Try.prog 52 #[.agg #[.string a0_0, .string a0_1], .agg #[.string a1_0, .string a1_1]] w fun e w' => e = .returned (.bool r) ∧ Below w.heap.size w w' := by
  have hu54 := Try.underlying54
  have HB := Aside0.mk (Below.refl w.heap.size w)
  have H : (if a0_0.toList = a1_0.toList then (if a0_1.toList = a1_1.toList then (some true) else (some false)) else (some false)) = some r := h
  clear h
  by_cases c3 : a0_0.toList = a1_0.toList
  · rw [if_pos c3] at H
    have c3b0 : (a0_0.toList == a1_0.toList) = true := beq_iff_eq.mpr c3
    have c3b1 : (a0_0.toList != a1_0.toList) = false := bne_eq_false_iff_eq.mpr c3
    clear c3
    by_cases c4 : a0_1.toList = a1_1.toList
    · rw [if_pos c4] at H
      have c4b0 : (a0_1.toList == a1_1.toList) = true := beq_iff_eq.mpr c4
      have c4b1 : (a0_1.toList != a1_1.toList) = false := bne_eq_false_iff_eq.mpr c4
      clear c4
      obtain rfl := Option.some.inj H
      go_enter Try.func52, Try.ntmps52
      go_wp2_with (first | ((with_reducible refine gate_dst (N := 2) rfl ?_); refine box_event ?hg (N := 2) ?hd (cs := #[.string a0_0, .string a0_1]) (t := 54) ?hr ?_; (case hd => rfl); (case hg => rfl); (case hr => first | (go_simp; done) | (go_simp; rfl)); intro gb1164 hg w5 hbox hb; have n0_ := Aside0.mk (below_step (by repeat (first | (with_reducible first | exact HB.out | apply below_alloc | apply pw_below_drewN | apply below_drew1) | exact HB.out)) hb); have n1_ := Aside0.mk (hbox); have n2_ := Aside0.mk ((by rw [hg]; exact (below_size (by repeat (first | (with_reducible first | exact HB.out | apply below_alloc | apply pw_below_drewN | apply below_drew1) | exact HB.out))) : w.heap.size ≤ gb1164)); have n3_ := Aside0.mk ((by rw [hg]; exact (below_size (by repeat (first | (with_reducible first | exact HB.out | apply below_alloc | apply pw_below_drewN | apply below_drew1) | exact HB.out))) : w.heap.size ≤ gb1164)); clear HB; have HB := n0_; have BK1164 := n1_; have GW1164 := n2_; have GE1164 := n3_; clear n0_ n1_ n2_ n3_; clear hb hbox hg) | ((with_reducible refine gate_dst (N := 3) rfl ?_); refine box_event ?hg (N := 3) ?hd (cs := #[.string a1_0, .string a1_1]) (t := 54) ?hr ?_; (case hd => rfl); (case hg => rfl); (case hr => first | (go_simp; done) | (go_simp; rfl)); intro gb1165 hg w6 hbox hb; have n0_ := Aside0.mk (blk_below (g := gb1164) (o := .cells #[.string a0_0, .string a0_1] 54 (0, 0)) (by (with_reducible repeat (first | apply bN | apply bd | apply bA)); exact BK1164.out) hb); have n1_ := Aside0.mk (below_step (by repeat (first | (with_reducible first | exact HB.out | apply below_alloc | apply pw_below_drewN | apply below_drew1 | refine below_set ?_ GE1164.out) | exact HB.out)) hb); have n2_ := Aside0.mk (hbox); have n3_ := Aside0.mk ((by rw [hg]; exact (below_size (by repeat (first | (with_reducible first | exact HB.out | apply below_alloc | apply pw_below_drewN | apply below_drew1 | refine below_set ?_ GE1164.out) | exact HB.out))) : w.heap.size ≤ gb1165)); have n4_ := Aside0.mk ((by rw [hg]; exact (below_size (by repeat (first | (with_reducible first | exact HB.out | apply below_alloc | apply pw_below_drewN | apply below_drew1 | refine below_set ?_ GE1164.out) | exact HB.out))) : w.heap.size ≤ gb1165)); have n5_ := Aside0.mk ((by rw [hg]; exact Nat.ne_of_lt (blk_lt (g := gb1164) (o := .cells #[.string a0_0, .string a0_1] 54 (0, 0)) (by (with_reducible repeat (first | apply bN | apply bd | apply bA)); exact BK1164.out)) : gb1164 ≠ gb1165)); have n6_ := Aside0.mk ((by rw [hg]; exact Nat.ne_of_gt (blk_lt (g := gb1164) (o := .cells #[.string a0_0, .string a0_1] 54 (0, 0)) (by (with_reducible repeat (first | apply bN | apply bd | apply bA)); exact BK1164.out)) : gb1165 ≠ gb1164)); clear BK1164; clear HB; have BK1164 := n0_; have HB := n1_; have BK1165 := n2_; have GW1165 := n3_; have GE1165 := n4_; have NB1164_1165 := n5_; have NB1165_1164 := n6_; clear n0_ n1_ n2_ n3_ n4_ n5_ n6_; clear hb hbox hg; have hnb7 := NB1164_1165.out; have hnc7 := NB1165_1164.out; have hcz8_0 : w6.cell? ⟨gb1164, 0, none⟩ = some (.string a0_0) := (blk_cell BK1164.out 0).trans rfl; have hcz8_1 : w6.cell? ⟨gb1164, 1, none⟩ = some (.string a0_1) := (blk_cell BK1164.out 1).trans rfl; have hfz8_0 := blk_frozen BK1164.out 0; have hfz8_1 := blk_frozen BK1164.out 1; have hcz9_0 : w6.cell? ⟨gb1165, 0, none⟩ = some (.string a1_0) := (blk_cell BK1165.out 0).trans rfl; have hcz9_1 : w6.cell? ⟨gb1165, 1, none⟩ = some (.string a1_1) := (blk_cell BK1165.out 1).trans rfl; have hfz9_0 := blk_frozen BK1165.out 0; have hfz9_1 := blk_frozen BK1165.out 1))
      go_ret
      exact ⟨by first | rfl | (simp [errW_none, errW_some] <;> rfl) | (simp [*, errW_none, errW_some] <;> rfl), by repeat (first | (with_reducible first | exact HB.out | apply below_alloc | apply pw_below_drewN | apply below_drew1 | refine below_set ?_ GE1164.out | refine below_set ?_ GE1165.out) | exact HB.out)⟩
    · rw [if_neg c4] at H
      have c4b0 : (a0_1.toList == a1_1.toList) = false := beq_eq_false_iff_ne.mpr c4
      have c4b1 : (a0_1.toList != a1_1.toList) = true := bne_iff_ne.mpr c4
      obtain rfl := Option.some.inj H
      go_enter Try.func52, Try.ntmps52
      go_wp2_with (first | ((with_reducible refine gate_dst (N := 2) rfl ?_); refine box_event ?hg (N := 2) ?hd (cs := #[.string a0_0, .string a0_1]) (t := 54) ?hr ?_; (case hd => rfl); (case hg => rfl); (case hr => first | (go_simp; done) | (go_simp; rfl)); intro gb1164 hg w10 hbox hb; have n0_ := Aside0.mk (below_step (by repeat (first | (with_reducible first | exact HB.out | apply below_alloc | apply pw_below_drewN | apply below_drew1) | exact HB.out)) hb); have n1_ := Aside0.mk (hbox); have n2_ := Aside0.mk ((by rw [hg]; exact (below_size (by repeat (first | (with_reducible first | exact HB.out | apply below_alloc | apply pw_below_drewN | apply below_drew1) | exact HB.out))) : w.heap.size ≤ gb1164)); have n3_ := Aside0.mk ((by rw [hg]; exact (below_size (by repeat (first | (with_reducible first | exact HB.out | apply below_alloc | apply pw_below_drewN | apply below_drew1) | exact HB.out))) : w.heap.size ≤ gb1164)); clear HB; have HB := n0_; have BK1164 := n1_; have GW1164 := n2_; have GE1164 := n3_; clear n0_ n1_ n2_ n3_; clear hb hbox hg) | ((with_reducible refine gate_dst (N := 3) rfl ?_); refine box_event ?hg (N := 3) ?hd (cs := #[.string a1_0, .string a1_1]) (t := 54) ?hr ?_; (case hd => rfl); (case hg => rfl); (case hr => first | (go_simp; done) | (go_simp; rfl)); intro gb1165 hg w11 hbox hb; have n0_ := Aside0.mk (blk_below (g := gb1164) (o := .cells #[.string a0_0, .string a0_1] 54 (0, 0)) (by (with_reducible repeat (first | apply bN | apply bd | apply bA)); exact BK1164.out) hb); have n1_ := Aside0.mk (below_step (by repeat (first | (with_reducible first | exact HB.out | apply below_alloc | apply pw_below_drewN | apply below_drew1 | refine below_set ?_ GE1164.out) | exact HB.out)) hb); have n2_ := Aside0.mk (hbox); have n3_ := Aside0.mk ((by rw [hg]; exact (below_size (by repeat (first | (with_reducible first | exact HB.out | apply below_alloc | apply pw_below_drewN | apply below_drew1 | refine below_set ?_ GE1164.out) | exact HB.out))) : w.heap.size ≤ gb1165)); have n4_ := Aside0.mk ((by rw [hg]; exact (below_size (by repeat (first | (with_reducible first | exact HB.out | apply below_alloc | apply pw_below_drewN | apply below_drew1 | refine below_set ?_ GE1164.out) | exact HB.out))) : w.heap.size ≤ gb1165)); have n5_ := Aside0.mk ((by rw [hg]; exact Nat.ne_of_lt (blk_lt (g := gb1164) (o := .cells #[.string a0_0, .string a0_1] 54 (0, 0)) (by (with_reducible repeat (first | apply bN | apply bd | apply bA)); exact BK1164.out)) : gb1164 ≠ gb1165)); have n6_ := Aside0.mk ((by rw [hg]; exact Nat.ne_of_gt (blk_lt (g := gb1164) (o := .cells #[.string a0_0, .string a0_1] 54 (0, 0)) (by (with_reducible repeat (first | apply bN | apply bd | apply bA)); exact BK1164.out)) : gb1165 ≠ gb1164)); clear BK1164; clear HB; have BK1164 := n0_; have HB := n1_; have BK1165 := n2_; have GW1165 := n3_; have GE1165 := n4_; have NB1164_1165 := n5_; have NB1165_1164 := n6_; clear n0_ n1_ n2_ n3_ n4_ n5_ n6_; clear hb hbox hg; have hnb12 := NB1164_1165.out; have hnc12 := NB1165_1164.out; have hcz13_0 : w11.cell? ⟨gb1164, 0, none⟩ = some (.string a0_0) := (blk_cell BK1164.out 0).trans rfl; have hcz13_1 : w11.cell? ⟨gb1164, 1, none⟩ = some (.string a0_1) := (blk_cell BK1164.out 1).trans rfl; have hfz13_0 := blk_frozen BK1164.out 0; have hfz13_1 := blk_frozen BK1164.out 1; have hcz14_0 : w11.cell? ⟨gb1165, 0, none⟩ = some (.string a1_0) := (blk_cell BK1165.out 0).trans rfl; have hcz14_1 : w11.cell? ⟨gb1165, 1, none⟩ = some (.string a1_1) := (blk_cell BK1165.out 1).trans rfl; have hfz14_0 := blk_frozen BK1165.out 0; have hfz14_1 := blk_frozen BK1165.out 1))
      go_ret
      exact ⟨by first | rfl | (simp [errW_none, errW_some] <;> rfl) | (simp [*, errW_none, errW_some] <;> rfl), by repeat (first | (with_reducible first | exact HB.out | apply below_alloc | apply pw_below_drewN | apply below_drew1 | refine below_set ?_ GE1164.out | refine below_set ?_ GE1165.out) | exact HB.out)⟩
  · rw [if_neg c3] at H
    have c3b0 : (a0_0.toList == a1_0.toList) = false := beq_eq_false_iff_ne.mpr c3
    have c3b1 : (a0_0.toList != a1_0.toList) = true := bne_iff_ne.mpr c3
    obtain rfl := Option.some.inj H
    go_enter Try.func52, Try.ntmps52
    go_wp2_with (first | ((with_reducible refine gate_dst (N := 2) rfl ?_); refine box_event ?hg (N := 2) ?hd (cs := #[.string a0_0, .string a0_1]) (t := 54) ?hr ?_; (case hd => rfl); (case hg => rfl); (case hr => first | (go_simp; done) | (go_simp; rfl)); intro gb1164 hg w15 hbox hb; have n0_ := Aside0.mk (below_step (by repeat (first | (with_reducible first | exact HB.out | apply below_alloc | apply pw_below_drewN | apply below_drew1) | exact HB.out)) hb); have n1_ := Aside0.mk (hbox); have n2_ := Aside0.mk ((by rw [hg]; exact (below_size (by repeat (first | (with_reducible first | exact HB.out | apply below_alloc | apply pw_below_drewN | apply below_drew1) | exact HB.out))) : w.heap.size ≤ gb1164)); have n3_ := Aside0.mk ((by rw [hg]; exact (below_size (by repeat (first | (with_reducible first | exact HB.out | apply below_alloc | apply pw_below_drewN | apply below_drew1) | exact HB.out))) : w.heap.size ≤ gb1164)); clear HB; have HB := n0_; have BK1164 := n1_; have GW1164 := n2_; have GE1164 := n3_; clear n0_ n1_ n2_ n3_; clear hb hbox hg) | ((with_reducible refine gate_dst (N := 3) rfl ?_); refine box_event ?hg (N := 3) ?hd (cs := #[.string a1_0, .string a1_1]) (t := 54) ?hr ?_; (case hd => rfl); (case hg => rfl); (case hr => first | (go_simp; done) | (go_simp; rfl)); intro gb1165 hg w16 hbox hb; have n0_ := Aside0.mk (blk_below (g := gb1164) (o := .cells #[.string a0_0, .string a0_1] 54 (0, 0)) (by (with_reducible repeat (first | apply bN | apply bd | apply bA)); exact BK1164.out) hb); have n1_ := Aside0.mk (below_step (by repeat (first | (with_reducible first | exact HB.out | apply below_alloc | apply pw_below_drewN | apply below_drew1 | refine below_set ?_ GE1164.out) | exact HB.out)) hb); have n2_ := Aside0.mk (hbox); have n3_ := Aside0.mk ((by rw [hg]; exact (below_size (by repeat (first | (with_reducible first | exact HB.out | apply below_alloc | apply pw_below_drewN | apply below_drew1 | refine below_set ?_ GE1164.out) | exact HB.out))) : w.heap.size ≤ gb1165)); have n4_ := Aside0.mk ((by rw [hg]; exact (below_size (by repeat (first | (with_reducible first | exact HB.out | apply below_alloc | apply pw_below_drewN | apply below_drew1 | refine below_set ?_ GE1164.out) | exact HB.out))) : w.heap.size ≤ gb1165)); have n5_ := Aside0.mk ((by rw [hg]; exact Nat.ne_of_lt (blk_lt (g := gb1164) (o := .cells #[.string a0_0, .string a0_1] 54 (0, 0)) (by (with_reducible repeat (first | apply bN | apply bd | apply bA)); exact BK1164.out)) : gb1164 ≠ gb1165)); have n6_ := Aside0.mk ((by rw [hg]; exact Nat.ne_of_gt (blk_lt (g := gb1164) (o := .cells #[.string a0_0, .string a0_1] 54 (0, 0)) (by (with_reducible repeat (first | apply bN | apply bd | apply bA)); exact BK1164.out)) : gb1165 ≠ gb1164)); clear BK1164; clear HB; have BK1164 := n0_; have HB := n1_; have BK1165 := n2_; have GW1165 := n3_; have GE1165 := n4_; have NB1164_1165 := n5_; have NB1165_1164 := n6_; clear n0_ n1_ n2_ n3_ n4_ n5_ n6_; clear hb hbox hg; have hnb17 := NB1164_1165.out; have hnc17 := NB1165_1164.out; have hcz18_0 : w16.cell? ⟨gb1164, 0, none⟩ = some (.string a0_0) := (blk_cell BK1164.out 0).trans rfl; have hcz18_1 : w16.cell? ⟨gb1164, 1, none⟩ = some (.string a0_1) := (blk_cell BK1164.out 1).trans rfl; have hfz18_0 := blk_frozen BK1164.out 0; have hfz18_1 := blk_frozen BK1164.out 1; have hcz19_0 : w16.cell? ⟨gb1165, 0, none⟩ = some (.string a1_0) := (blk_cell BK1165.out 0).trans rfl; have hcz19_1 : w16.cell? ⟨gb1165, 1, none⟩ = some (.string a1_1) := (blk_cell BK1165.out 1).trans rfl; have hfz19_0 := blk_frozen BK1165.out 0; have hfz19_1 := blk_frozen BK1165.out 1))
    go_ret
    exact ⟨by first | rfl | (simp [errW_none, errW_some] <;> rfl) | (simp [*, errW_none, errW_some] <;> rfl), by repeat (first | (with_reducible first | exact HB.out | apply below_alloc | apply pw_below_drewN | apply below_drew1 | refine below_set ?_ GE1164.out | refine below_set ?_ GE1165.out) | exact HB.out)⟩

/-! ### laws_eqStringS: function 43 -/
def laws_eqStringS.l0 : Nat → List ByteArray → List ByteArray → Int → Option (Bool)
  | 0, _, _, _ => none
  | k + 1, x0, x1, x5 => if x5 < (x0.length : Int) then (if 0 ≤ x5 then (if x5 < (x1.length : Int) then (if (rdOf ByteArray.empty x0 x5).toList = (rdOf ByteArray.empty x1 x5).toList then (laws_eqStringS.l0 k x0 x1 (wrap64 (x5 + 1))) else (some false)) else (none)) else (none)) else (some true)
def laws_eqStringS.f (k : Nat) (l0 : List ByteArray) (l1 : List ByteArray) : Option (Bool) := if (l0.length : Int) = (l1.length : Int) then (laws_eqStringS.l0 k l0 l1 0) else (some false)
theorem laws_eqStringS.mono_l : ∀ k, (∀ y0 y1 y2, LeO (laws_eqStringS.l0 k y0 y1 y2) (laws_eqStringS.l0 (k + 1) y0 y1 y2))
  | 0 => fun _ _ _ r h => by simp [laws_eqStringS.l0] at h
  | k + 1 => by
    have ih0 := laws_eqStringS.mono_l k
    · intro y0 y1 y2
      unfold laws_eqStringS.l0
      repeat' first
      | (with_reducible exact ih0 _ _ _)
      | (with_reducible exact LeO.refl _)
      | (with_reducible exact LeO.none _)
      | (with_reducible refine LeO.ite ?_ ?_)
      | (with_reducible refine LeO.bind ?_ (fun _ => ?_))
      | exact ih0 _ _ _
      | exact LeO.none _
      | refine LeO.ite ?_ ?_
      | refine LeO.bind ?_ (fun _ => ?_)
theorem laws_eqStringS.mono : ∀ a0 a1 k, LeO (laws_eqStringS.f k a0 a1) (laws_eqStringS.f (k + 1) a0 a1) := by
  intro a0 a1 k
  have ih0 := laws_eqStringS.mono_l k
  unfold laws_eqStringS.f
  repeat' first
      | (with_reducible exact ih0 _ _ _)
      | (with_reducible exact LeO.refl _)
      | (with_reducible exact LeO.none _)
      | (with_reducible refine LeO.ite ?_ ?_)
      | (with_reducible refine LeO.bind ?_ (fun _ => ?_))
      | exact ih0 _ _ _
      | exact LeO.none _
      | refine LeO.ite ?_ ?_
      | refine LeO.bind ?_ (fun _ => ?_)
set_option maxHeartbeats 8000000 in
set_option maxRecDepth 100000 in
theorem laws_eqStringS.calls (k : Nat) (A0 : Option Addr) (c0 : Nat) (l0 : List ByteArray) (A1 : Option Addr) (c1 : Nat) (l1 : List ByteArray) (r : Bool) (w : World) (hr0 : Kd.C Kd.string w A0 l0.length l0) (hc0 : l0.length ≤ c0) (hr1 : Kd.C Kd.string w A1 l1.length l1) (hc1 : l1.length ≤ c1) (h : laws_eqStringS.f k l0 l1 = some r) :
    Calls Try.prog 43 #[.slice A0 l0.length c0, .slice A1 l1.length c1] w fun e w' => e = .returned (.bool r) ∧ Drawn0 w w' := by
  have HR0 := Aside0.mk hr0
  have HC0 := Aside0.mk hc0
  clear hr0 hc0
  have HR1 := Aside0.mk hr1
  have HC1 := Aside0.mk hc1
  clear hr1 hc1
  have H : (if (l0.length : Int) = (l1.length : Int) then (laws_eqStringS.l0 k l0 l1 0) else (some false)) = some r := h
  clear h
  by_cases c3 : (l0.length : Int) = (l1.length : Int)
  · rw [if_pos c3] at H
    have c3b0 : ((l0.length : Int) == (l1.length : Int)) = true := beq_iff_eq.mpr c3
    have c3b1 : ((l0.length : Int) != (l1.length : Int)) = false := bne_eq_false_iff_eq.mpr c3
    have c3b2 : (l0.length == l1.length) = true := by first | simpa using c3 | (simp at c3 ⊢; omega)
    clear c3
    have H' := Aside0.mk H
    clear H
    go_enter Try.func43, Try.ntmps43
    go_wp2
    repeat (go_quiet (fail); try go_wp2)
    go_loopg [5] k (fun kq v5 w' => ∃ (x5_1 : Int), v5 = .int .i64 x5_1 ∧ Aside0 (laws_eqStringS.l0 kq l0 l1 x5_1 = some r) ∧ Aside0 (kq ≤ k) ∧ Drawn0 w w')
    case atStart => exact ⟨(0), (by first | rfl | (simp; done) | (simp [*]; done)), H', ⟨Nat.le_refl _⟩, by repeat (first | exact Drawn0.refl _ | apply Drawn0.step)⟩
    case round =>
      clear H'
      try clear c1
      try clear p2
      try clear c3
      try clear c3b0
      try clear c3b1
      try clear c3b2
      obtain ⟨x5_1, rfl, HA, HK1, ⟨m1, rfl⟩⟩ := hrel
      cases gk with
      | zero => exact absurd HA.out (by simp [laws_eqStringS.l0])
      | succ k1 =>
        have H := HA.out
        clear HA
        simp only [laws_eqStringS.l0] at H
        by_cases c4 : x5_1 < (l0.length : Int)
        · rw [if_pos c4] at H
          have c4b0 : decide (x5_1 < (l0.length : Int)) = true := decide_eq_true c4
          clear c4
          by_cases c5 : 0 ≤ x5_1
          · rw [if_pos c5] at H
            have c5b0 : decide (0 ≤ x5_1) = true := decide_eq_true c5
            clear c5
            by_cases c6 : x5_1 < (l1.length : Int)
            · rw [if_pos c6] at H
              have c6b0 : decide (x5_1 < (l1.length : Int)) = true := decide_eq_true c6
              clear c6
              by_cases c7 : (rdOf ByteArray.empty l0 x5_1).toList = (rdOf ByteArray.empty l1 x5_1).toList
              · rw [if_pos c7] at H
                have c7b0 : ((rdOf ByteArray.empty l0 x5_1).toList == (rdOf ByteArray.empty l1 x5_1).toList) = true := beq_iff_eq.mpr c7
                have c7b1 : ((rdOf ByteArray.empty l0 x5_1).toList != (rdOf ByteArray.empty l1 x5_1).toList) = false := bne_eq_false_iff_eq.mpr c7
                clear c7
                have H' := Aside0.mk H
                clear H
                have p1061 : 0 ≤ (x5_1 : Int) := of_decide_eq_true (by first | (with_reducible assumption) | assumption)
                have q1061 : x5_1 < (l0.length : Int) := of_decide_eq_true (by first | (with_reducible assumption) | assumption)
                obtain ⟨ad1061, e1061, hx1061_0⟩ := Kd.at_string HR0.out x5_1 p1061 q1061
                cases e1061
                replace p1061 := eq_true p1061
                replace q1061 := eq_true q1061
                have p1062 : 0 ≤ (x5_1 : Int) := of_decide_eq_true (by first | (with_reducible assumption) | assumption)
                have q1062 : x5_1 < (l1.length : Int) := of_decide_eq_true (by first | (with_reducible assumption) | assumption)
                obtain ⟨ad1062, e1062, hx1062_0⟩ := Kd.at_string HR1.out x5_1 p1062 q1062
                cases e1062
                replace p1062 := eq_true p1062
                replace q1062 := eq_true q1062
                go_wp2
                repeat (go_quiet (fail); try go_wp2)
                go_roundg k1
                case measure => have := HK1.out; omega
                case rel => exact ⟨(wrap64 (x5_1 + 1)), (by first | rfl | (simp; done) | (simp [*]; done)), H', ⟨by have := HK1.out; omega⟩, by repeat (first | exact Drawn0.refl _ | apply Drawn0.step)⟩
              · rw [if_neg c7] at H
                have c7b0 : ((rdOf ByteArray.empty l0 x5_1).toList == (rdOf ByteArray.empty l1 x5_1).toList) = false := beq_eq_false_iff_ne.mpr c7
                have c7b1 : ((rdOf ByteArray.empty l0 x5_1).toList != (rdOf ByteArray.empty l1 x5_1).toList) = true := bne_iff_ne.mpr c7
                obtain rfl := Option.some.inj H
                have p1061 : 0 ≤ (x5_1 : Int) := of_decide_eq_true (by first | (with_reducible assumption) | assumption)
                have q1061 : x5_1 < (l0.length : Int) := of_decide_eq_true (by first | (with_reducible assumption) | assumption)
                obtain ⟨ad1061, e1061, hx1061_0⟩ := Kd.at_string HR0.out x5_1 p1061 q1061
                cases e1061
                replace p1061 := eq_true p1061
                replace q1061 := eq_true q1061
                have p1062 : 0 ≤ (x5_1 : Int) := of_decide_eq_true (by first | (with_reducible assumption) | assumption)
                have q1062 : x5_1 < (l1.length : Int) := of_decide_eq_true (by first | (with_reducible assumption) | assumption)
                obtain ⟨ad1062, e1062, hx1062_0⟩ := Kd.at_string HR1.out x5_1 p1062 q1062
                cases e1062
                replace p1062 := eq_true p1062
                replace q1062 := eq_true q1062
                go_wp2
                repeat (go_quiet (fail); try go_wp2)
                go_ret
                exact ⟨by first | rfl | (simp; done) | (simp [*]; done), by repeat (first | exact Drawn0.refl _ | apply Drawn0.step)⟩
            · rw [if_neg c6] at H
              exact absurd H (by simp)
          · rw [if_neg c5] at H
            exact absurd H (by simp)
        · rw [if_neg c4] at H
          have c4b0 : decide (x5_1 < (l0.length : Int)) = false := decide_eq_false c4
          clear c4
          obtain rfl := Option.some.inj H
          go_wp2
          repeat (go_quiet (fail); try go_wp2)
          go_ret
          exact ⟨by first | rfl | (simp; done) | (simp [*]; done), by repeat (first | exact Drawn0.refl _ | apply Drawn0.step)⟩
  · rw [if_neg c3] at H
    have c3b0 : ((l0.length : Int) == (l1.length : Int)) = false := beq_eq_false_iff_ne.mpr c3
    have c3b1 : ((l0.length : Int) != (l1.length : Int)) = true := bne_iff_ne.mpr c3
    have c3b2 : (l0.length == l1.length) = false := by first | simpa using c3 | (simp at c3 ⊢; omega)
    obtain rfl := Option.some.inj H
    go_enter Try.func43, Try.ntmps43
    go_wp2
    repeat (go_quiet (fail); try go_wp2)
    go_ret
    exact ⟨by first | rfl | (simp; done) | (simp [*]; done), by repeat (first | exact Drawn0.refl _ | apply Drawn0.step)⟩

end Go.Proofs.Ytlogocmojnhpbaa.Print
