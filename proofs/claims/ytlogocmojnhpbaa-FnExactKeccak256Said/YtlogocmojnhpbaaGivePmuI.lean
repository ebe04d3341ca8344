/- The contract of the program's Permute: what it answers to every text. -/
import Derived.Test.YtlogocmojnhpbaaGiveTextI
import Derived.Test.YtlogocmojnhpbaaGiveLanesI
namespace Go.Proofs.Ytlogocmojnhpbaa.Print
open Go.RowKit Go.Proofs.YtlogocmojnhpbaaW.PrintWords Go.Proofs.YtlogocmojnhpbaaW.PrintLast
set_option linter.unusedVariables false
set_option linter.unusedSimpArgs false
def iPermute (s : ByteArray) : ByteArray × Int := if (s.size : Int) > 65536 then (⟨#[]⟩, 2) else if (s.size : Int) = 200 then (strOfNums (kText (kPerm (kLanes (bytesOf s) s.size) 24) 200), 0) else (⟨#[]⟩, 8)
set_option maxHeartbeats 8000000 in
theorem isLongI.calls (s : ByteArray) (w : World) : Calls Try.prog 83 #[.string s] w fun e w' => e = .returned (.bool (decide ((s.size : Int) > 65536))) ∧ w' = w := by
  go_enter Try.func83, Try.ntmps83
  go_wp2
  go_ret
  exact ⟨rfl, rfl⟩
set_option maxHeartbeats 8000000 in
set_option maxRecDepth 100000 in
theorem permuteI.calls (s : ByteArray) (w : World) :
    Calls Try.prog 22 #[.string s] w fun e w' => e = .returned (.tuple #[.string (iPermute s).1, .int .i64 (iPermute s).2]) ∧ Below w.heap.size w w' := by
  have L0 := isLongI.calls s
  unfold iPermute
  by_cases h1 : (s.size : Int) > 65536
  · rw [if_pos h1]
    rw [decide_eq_true h1] at L0
    have L0 := Aside0.mk L0
    clear h1
    go_enter Try.func22, Try.ntmps22
    go_wp2_with (go_at_call 83; refine (L0.out _).mono ?_; rintro e w1 ⟨rfl, rfl⟩)
    refine bodyPost_ret (results_tmp2 rfl _ _ _) rfl ?_
    exact ⟨rfl, Below.refl _ _⟩
  · rw [if_neg h1]
    rw [decide_eq_false h1] at L0
    have L0 := Aside0.mk L0
    clear h1
    by_cases h2 : (s.size : Int) = 200
    · rw [if_pos h2]
      have d2 : ((s.size : Int) == 200) = true := beq_iff_eq.2 h2
      have d3 : ((s.size : Int) != 200) = false := by rw [bne, d2]; rfl
      have d4 : decide ((s.size : Int) = 200) = true := decide_eq_true h2
      have hl : s.size ≤ 200 := by omega
      have hsz : s.size ≤ 9223372036854775807 := by omega
      clear h2
      go_enter Try.func22, Try.ntmps22
      go_upto_region 5 with (go_at_call 83; refine (L0.out _).mono ?_; rintro e w1 ⟨rfl, rfl⟩)
      have hcv := fun W => print_bytes (P := Try.prog) 9 25 5 Try.underlying9 Try.underlying25 Try.underlying5 s W
      have hrd := bytes_reads w1 5 s hsz
      have hbl := bytes_below (Below.refl w1.heap.size w1) (Nat.le_refl _) 5 s
      have hlen : (bytesOf s).length = s.size := bytesOf_length s
      have hC : Kd.C (Kd.int .u8) (Lib.bytesWorld w1 5 s) (some ⟨w1.heap.size, 0, none⟩) (bytesOf s).length (bytesOf s) := by
        rw [hlen]
        exact Kd.C_of_reads (d := (0 : Int)) hrd
      have L1 := lanesI.calls (some ⟨w1.heap.size, 0, none⟩) (grownCap w1 s.size 0 5) (bytesOf s) _ hC (by rw [hlen]; exact hl)
      rw [hlen] at L1
      have hps : (nums .u64 (kLanes (bytesOf s) s.size)).toArray.size = 25 := by simp [nums, kLanes_length]
      have hone : (nums .u64 (kLanes (bytesOf s) s.size)).toArray.all (·.oneCell') = true := by simp [nums, Value.oneCell']
      have hP : (nums .u64 (kLanes (bytesOf s) s.size)).toArray = (nums .u64 (kLanes (bytesOf s) s.size)).toArray := rfl
      generalize hPP : (nums .u64 (kLanes (bytesOf s) s.size)).toArray = P1 at L1 hps hone
      have hst : ∀ W2 : World, (storeVar 96 ⟨W2.heap.size, 0, none⟩ (.agg P1)).run Try.prog (W2.alloc (.cells #[Value.int .u64 0, Value.int .u64 0, Value.int .u64 0, Value.int .u64 0, Value.int .u64 0, Value.int .u64 0, Value.int .u64 0, Value.int .u64 0, Value.int .u64 0, Value.int .u64 0, Value.int .u64 0, Value.int .u64 0, Value.int .u64 0, Value.int .u64 0, Value.int .u64 0, Value.int .u64 0, Value.int .u64 0, Value.int .u64 0, Value.int .u64 0, Value.int .u64 0, Value.int .u64 0, Value.int .u64 0, Value.int .u64 0, Value.int .u64 0, Value.int .u64 0] 96)) = .ok () (W2.alloc (.cells P1 96)) := by
        intro W2
        have h := run_storeVar_row (P := Try.prog) (W2.alloc (.cells #[Value.int .u64 0, Value.int .u64 0, Value.int .u64 0, Value.int .u64 0, Value.int .u64 0, Value.int .u64 0, Value.int .u64 0, Value.int .u64 0, Value.int .u64 0, Value.int .u64 0, Value.int .u64 0, Value.int .u64 0, Value.int .u64 0, Value.int .u64 0, Value.int .u64 0, Value.int .u64 0, Value.int .u64 0, Value.int .u64 0, Value.int .u64 0, Value.int .u64 0, Value.int .u64 0, Value.int .u64 0, Value.int .u64 0, Value.int .u64 0, Value.int .u64 0] 96)) W2.heap.size 96 96 #[Value.int .u64 0, Value.int .u64 0, Value.int .u64 0, Value.int .u64 0, Value.int .u64 0, Value.int .u64 0, Value.int .u64 0, Value.int .u64 0, Value.int .u64 0, Value.int .u64 0, Value.int .u64 0, Value.int .u64 0, Value.int .u64 0, Value.int .u64 0, Value.int .u64 0, Value.int .u64 0, Value.int .u64 0, Value.int .u64 0, Value.int .u64 0, Value.int .u64 0, Value.int .u64 0, Value.int .u64 0, Value.int .u64 0, Value.int .u64 0, Value.int .u64 0] P1 (blk_new _ _) (by rw [hps]; kernel_rfl) (by rw [hps]; rfl) hone
        rw [setRow_new] at h
        exact h
      have HP := Aside0.mk hPP
      clear hPP hP
      have hst2 := hst
      simp [storeVar, go_sem, hps] at hst2
      have L1 := Aside0.mk L1
      have hkl := kLanes_length (bytesOf s) s.size
      clear hst
      go_wp2_with (first | (go_at_call 84; refine L1.out.mono ?_; rintro e w2 ⟨rfl, hb2⟩) | (go_at_call 85; refine (permI.calls _ (kLanes (bytesOf s) s.size) _ hkl (by unfold Arr; rw [HP.out]; exact blk_new _ _)).mono ?_; rintro e w3 ⟨rfl, S3, M3⟩) | (go_at_call 86; refine (textI.calls _ (kPerm (kLanes (bytesOf s) s.size) 24) _ (by rw [kPerm_length]; exact hkl) S3).mono ?_; rintro e w4 ⟨v4, rfl, hR, hb4⟩; have hcv2 := own_string (P := Try.prog) Try.underlying25 Try.underlying5 Try.underlying9 (Kd.own_of_R hR)))
      refine bodyPost_ret (results_tmp2 rfl _ _ _) rfl ?_
      have b2 := below_step hbl hb2
      have b3 := below_alloc b2 (.cells P1 96)
      have b4 := M3.2.2 _ b3 (fun i hi e => by have := b2.size; omega)
      exact ⟨rfl, below_step b4 hb4⟩
    · rw [if_neg h2]
      have d2 : ((s.size : Int) == 200) = false := beq_eq_false_iff_ne.2 h2
      have d3 : ((s.size : Int) != 200) = true := by rw [bne, d2]; rfl
      have d4 : decide ((s.size : Int) = 200) = false := decide_eq_false h2
      clear h2
      go_enter Try.func22, Try.ntmps22
      go_wp2_with (go_at_call 83; refine (L0.out _).mono ?_; rintro e w1 ⟨rfl, rfl⟩)
      refine bodyPost_ret (results_tmp2 rfl _ _ _) rfl ?_
      exact ⟨rfl, Below.refl _ _⟩
end Go.Proofs.Ytlogocmojnhpbaa.Print
