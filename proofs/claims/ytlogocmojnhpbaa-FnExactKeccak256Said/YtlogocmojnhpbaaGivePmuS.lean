/- The contract of the reference's Permute: what it answers to every text. -/
import Derived.Test.YtlogocmojnhpbaaGiveTextS
import Derived.Test.YtlogocmojnhpbaaGiveLanesS
import Derived.Test.YtlogocmojnhpbaaGivePermT
namespace Go.Proofs.Ytlogocmojnhpbaa.Print
open Go.RowKit Go.Proofs.YtlogocmojnhpbaaW.PrintWords Go.Proofs.YtlogocmojnhpbaaW.PrintLast
set_option linter.unusedVariables false
set_option linter.unusedSimpArgs false
def sPermute (s : ByteArray) : ByteArray × Int := if (s.size : Int) > 65536 then (⟨#[]⟩, 2) else if (s.size : Int) = 200 then (strOfNums (kText (sPerm (kLanes (bytesOf s) s.size) 24) 200), 0) else (⟨#[]⟩, 8)
set_option maxHeartbeats 8000000 in
set_option maxRecDepth 100000 in
theorem permuteS.calls (s : ByteArray) (w : World) :
    Calls Try.prog 21 #[.string s] w fun e w' => e = .returned (.tuple #[.string (sPermute s).1, .int .i64 (sPermute s).2]) ∧ Below w.heap.size w w' := by
  unfold sPermute
  by_cases h1 : (s.size : Int) > 65536
  · rw [if_pos h1]
    have d1 : decide ((65536 : Int) < (s.size : Int)) = true := decide_eq_true h1
    clear h1
    go_enter Try.func21, Try.ntmps21
    go_wp2
    refine bodyPost_ret (results_tmp2 rfl _ _ _) rfl ?_
    exact ⟨rfl, Below.refl _ _⟩
  · rw [if_neg h1]
    have d1 : decide ((65536 : Int) < (s.size : Int)) = false := decide_eq_false h1
    clear h1
    by_cases h2 : (s.size : Int) = 200
    · rw [if_pos h2]
      have d2 : ((s.size : Int) == 200) = true := beq_iff_eq.2 h2
      have d3 : ((s.size : Int) != 200) = false := by rw [bne, d2]; rfl
      have d4 : decide ((s.size : Int) = 200) = true := decide_eq_true h2
      have L1 := Aside0.mk (lanesS.calls s w (by omega))
      have L2 := fun W => permS.calls (kLanes (bytesOf s) s.size) W (kLanes_length _ _)
      have L3 := fun W => textS.calls (sPerm (kLanes (bytesOf s) s.size) 24) 200 W (by rw [sPerm_length]; exact kLanes_length _ _) (Nat.le_refl _)
      generalize kText (sPerm (kLanes (bytesOf s) s.size) 24) 200 = T at L3 ⊢
      generalize (nums .u64 (sPerm (kLanes (bytesOf s) s.size) 24)).toArray = P2 at L2 L3
      generalize (nums .u64 (kLanes (bytesOf s) s.size)).toArray = P1 at L1 L2
      have L2 := Aside0.mk L2
      have L3 := Aside0.mk L3
      clear h2
      go_enter Try.func21, Try.ntmps21
      go_wp2_with (first | (go_at_call 82; refine L1.out.mono ?_; rintro e w1 ⟨rfl, hb1⟩) | (go_at_call 81; refine (L2.out _).mono ?_; rintro e w2 ⟨rfl, hb2⟩) | (go_at_call 80; refine (L3.out _).mono ?_; rintro e w3 ⟨rfl, hb3⟩))
      refine bodyPost_ret (results_tmp2 rfl _ _ _) rfl ?_
      exact ⟨rfl, below_step (below_step hb1 hb2) hb3⟩
    · rw [if_neg h2]
      have d2 : ((s.size : Int) == 200) = false := beq_eq_false_iff_ne.2 h2
      have d3 : ((s.size : Int) != 200) = true := by rw [bne, d2]; rfl
      have d4 : decide ((s.size : Int) = 200) = false := decide_eq_false h2
      clear h2
      go_enter Try.func21, Try.ntmps21
      go_wp2
      refine bodyPost_ret (results_tmp2 rfl _ _ _) rfl ?_
      exact ⟨rfl, Below.refl _ _⟩
end Go.Proofs.Ytlogocmojnhpbaa.Print
