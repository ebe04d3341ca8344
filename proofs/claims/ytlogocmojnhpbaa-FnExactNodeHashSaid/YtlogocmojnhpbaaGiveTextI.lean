/- The contract of a state's text: its bytes, the lower ones of a lane first. -/
import Derived.Test.YtlogocmojnhpbaaPrint0
import Derived.Test.YtlogocmojnhpbaaGivePermF
namespace Go.Proofs.Ytlogocmojnhpbaa.Print
open Go.RowKit Go.Proofs.YtlogocmojnhpbaaW.PrintWords Go.Proofs.YtlogocmojnhpbaaW.PrintLast
set_option linter.unusedVariables false
set_option linter.unusedSimpArgs false
/-- A state's first i bytes. -/
def kText (s : List Int) : Nat → List Int
  | 0 => []
  | i + 1 => kText s i ++ [s.getD (i / 8) 0 / 2 ^ (8 * (i % 8)) % 256]
theorem kText_length (s : List Int) (i : Nat) : (kText s i).length = i := by
  induction i with
  | zero => rfl
  | succ i ih => simp [kText, ih]
set_option maxHeartbeats 8000000 in
set_option maxRecDepth 100000 in
theorem textI.calls (g : Nat) (s : List Int) (w : World) (hs : s.length = 25) (hb : Arr w g 96 .u64 s) :
    Calls Try.prog 86 #[.pointer (some ⟨g, 0, none⟩)] w fun e w' => ∃ v0_ : Value, e = .returned (v0_) ∧ Kd.R (Kd.int .u8) 5 w' w.heap.size (fun _ => True) v0_ (kText s 200) ∧ Below w.heap.size w w' := by
  have HB := Aside0.mk (Below.refl w.heap.size w)
  have HA := Aside0.mk hb
  have hlt := hb.lt
  clear hb
  obtain ⟨y0, hy0⟩ : ∃ y_ : List Int, y_ = (([] : List Int)) := ⟨_, rfl⟩
  have Ny0 := Aside0.mk hy0
  clear hy0
  go_enter Try.func86, Try.ntmps86
  go_wp2_with (first | ((with_reducible refine gate_dst (N := 5) rfl ?_); refine Kd.R_lit (Kd.int .u8) _ 5 ?hg (N := 5) ?hd (xs := ([] : List Int)) (inner := []) (ok := fun _ => True) (okp := fun _ => True) ?hr ?hp (fun _ hk => hk) trivial (Below.refl _ _) (Nat.le_refl _) (by simp) ?_; (case hd => rfl); (case hg => rfl); (case hr => first | (go_simp; done) | (go_simp; rfl)); (case hp => exact (Reps.none _ _)); intro v0 w3 ho4 hb hg_ hnew_; clear hg_ hnew_; (first | rw [← Ny0.out] at ho4 | (simp only [Int.reduceToNat] at ho4; rw [← Ny0.out] at ho4)); have n0_ := Aside0.mk (Kd.R_lower ho4 (below_size (by repeat (first | (with_reducible first | exact HB.out | apply below_alloc | apply pw_below_drewN | apply below_drew1) | exact HB.out)))); have n1_ := Aside0.mk (below_step (by repeat (first | (with_reducible first | exact HB.out | apply below_alloc | apply pw_below_drewN | apply below_drew1) | exact HB.out)) hb); clear HB; have HO0 := n0_; have HB := n1_; clear n0_ n1_; clear hb ho4))
  go_loopg [3, 6] 200 (fun gg s3 s6 w' => ∃ (x3 : List Int) (k : Nat), k ≤ 200 ∧ 200 - k ≤ gg ∧ s6 = .int .i64 k ∧ Aside0 (x3 = kText s k) ∧ Aside0 (Kd.R (Kd.int .u8) 5 w' w.heap.size (fun _ => True) s3 x3) ∧ Aside0 (Below w.heap.size w w'))
  case atStart => exact ⟨y0, 0, by omega, by omega, rfl, ⟨Ny0.out⟩, HO0, HB⟩
  case round =>
    obtain ⟨x3, k, hk, hg, rfl, HX, HO3, HB⟩ := hrel
    by_cases hlt2 : k < 200
    · have hltz : (k : Int) < 200 := by omega
      have h0z : (0 : Int) ≤ (k : Int) := by omega
      have HG : Arr wr g 96 .u64 s := (HB.out.block g hlt).trans HA.out
      have q0 := HG.cell (k / 8) (by omega)
      obtain ⟨v0, hv0⟩ : ∃ v, v = s.getD (k / 8) 0 := ⟨_, rfl⟩
      rw [← hv0] at q0
      obtain ⟨b0, hb0⟩ : ∃ b, b = v0 / 2 ^ (8 * (k % 8)) % 256 := ⟨_, rfl⟩
      obtain ⟨y1, hy1⟩ : ∃ y_ : List Int, y_ = x3 ++ [b0] := ⟨_, rfl⟩
      have Ny1 := Aside0.mk hy1
      have HV := Aside0.mk hv0
      have HB0 := Aside0.mk hb0
      have LM : Aside0 (x3.length < 140737488355328) := ⟨by rw [HX.out, kText_length]; omega⟩
      have e1 : v0 / 2 ^ (8 * (k % 8)) % 256 = b0 := hb0.symm
      clear hy1 hv0 hb0 hlt2

      go_wp2_with (first | ((with_reducible refine gate_builtin (b := .append) (xs := #[.tmp 9, .tmp 21]) rfl ?_); at_builtin; refine Kd.R_append (Kd.int .u8) (w0 := w) w.heap.size rfl (.tmp 9) (.tmp 21) 25 5 (.int .u8 0) 1 rfl Try.underlying25 info5 rfl (by decide) (by omega) u3 x3 (b0) [.int .u8 (b0)] (fun _ => True) (fun _ => False) rfl rfl ?aP (fun _ hk => hk.elim) ?aF ?aO ?aB ?aS ?aL ?_; (case aP => exact rfl); (case aB => exact (by repeat (first | (with_reducible first | exact HB.out | apply below_alloc | apply pw_below_drewN | apply below_drew1) | exact HB.out))); (case aF => exact (fun _ _ => trivial)); (case aO => exact (by (with_reducible repeat (first | apply Kd.R_alloc | apply Kd.R_drewN | apply Kd.R_drew)); exact HO3.out)); (case aS => exact (below_size (by repeat (first | (with_reducible first | exact HB.out | apply below_alloc | apply pw_below_drewN | apply below_drew1) | exact HB.out)))); (case aL => have := LM.out; omega); intro v1 w10 ho hb hg hat; rw [← Ny1.out] at ho; have n0_ := Aside0.mk (hb); have n1_ := Aside0.mk (ho); clear HB; clear HO3; have HB := n0_; have HO4 := n1_; clear n0_ n1_; clear ho hb hg hat))

      go_roundg (200 - (k + 1))
      case measure => omega
      case rel => exact ⟨y1, k + 1, by omega, by omega, by go_num, ⟨by rw [Ny1.out, HX.out, HB0.out, HV.out]; rfl⟩, HO4, HB⟩
    · have hk25 : k = 200 := by omega
      subst hk25
      go_wp2
      go_ret
      exact ⟨_, rfl, by rw [← HX.out]; exact HO3.out, HB.out⟩
end Go.Proofs.Ytlogocmojnhpbaa.Print
