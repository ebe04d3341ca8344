-- Packed by a program of this session (slim.py) out of printed texts; not trusted, Lean checks it.
import Derived.Test.YtlogocmojnhpbaaPrint0
import Derived.Test.YtlogocmojnhpbaaQFnExactNodeHash0
import Derived.Laws.PanicsMore
import Derived.Laws.CopyOwn
/- The contract of the program's Permute: what it answers to every text. -/
namespace Go.Proofs.Ytlogocmojnhpbaa.Print
open Go.RowKit Go.Proofs.YtlogocmojnhpbaaW.PrintWords Go.Proofs.YtlogocmojnhpbaaW.PrintLast
set_option linter.unusedVariables false
set_option linter.unusedSimpArgs false
def iPermute (s : ByteArray) : ByteArray × Int := if (s.size : Int) > 65536 then (⟨#[]⟩, 2) else if (s.size : Int) = 200 then (strOfNums (kText (kPerm (kLanes (bytesOf s) s.size) 24) 200), 0) else (⟨#[]⟩, 8)
set_option maxHeartbeats 8000000 in
theorem isLongI.calls (s : ByteArray) (w : World) : Calls Try.prog 83 #[.string s] w fun e w' => e = .returned (.bool (decide ((s.size : Int) > 65536))) ∧ w' = w := by
  go_enter Try.func83, Try.ntmps83
  go_wp2
  go_ret
  exact ⟨rfl, rfl⟩
set_option maxHeartbeats 8000000 in
set_option maxRecDepth 100000 in
theorem permuteI.calls (s : ByteArray) (w : World) :
    Calls Try.prog 22 #[.string s] w fun e w' => e = .returned (.tuple #[.string (iPermute s).1, .int .i64 (iPermute s).2]) ∧ Below w.heap.size w w' := by
  have L0 := isLongI.calls s
  unfold iPermute
  by_cases h1 : (s.size : Int) > 65536
  · rw [if_pos h1]
    rw [decide_eq_true h1] at L0
    have L0 := Aside0.mk L0
    clear h1
    go_enter Try.func22, Try.ntmps22
    go_wp2_with (go_at_call 83; refine (L0.out _).mono ?_; rintro e w1 ⟨rfl, rfl⟩)
    refine bodyPost_ret (results_tmp2 rfl _ _ _) rfl ?_
    exact ⟨rfl, Below.refl _ _⟩
  · rw [if_neg h1]
    rw [decide_eq_false h1] at L0
    have L0 := Aside0.mk L0
    clear h1
    by_cases h2 : (s.size : Int) = 200
    · rw [if_pos h2]
      have d2 : ((s.size : Int) == 200) = true := beq_iff_eq.2 h2
      have d3 : ((s.size : Int) != 200) = false := by rw [bne, d2]; rfl
      have d4 : decide ((s.size : Int) = 200) = true := decide_eq_true h2
      have hl : s.size ≤ 200 := by omega
      have hsz : s.size ≤ 9223372036854775807 := by omega
      clear h2
      go_enter Try.func22, Try.ntmps22
      go_upto_region 5 with (go_at_call 83; refine (L0.out _).mono ?_; rintro e w1 ⟨rfl, rfl⟩)
      have hcv := fun W => print_bytes (P := Try.prog) 9 25 5 Try.underlying9 Try.underlying25 Try.underlying5 s W
      have hrd := bytes_reads w1 5 s hsz
      have hbl := bytes_below (Below.refl w1.heap.size w1) (Nat.le_refl _) 5 s
      have hlen : (bytesOf s).length = s.size := bytesOf_length s
      have hC : Kd.C (Kd.int .u8) (Lib.bytesWorld w1 5 s) (some ⟨w1.heap.size, 0, none⟩) (bytesOf s).length (bytesOf s) := by
        rw [hlen]
        exact Kd.C_of_reads (d := (0 : Int)) hrd
      have L1 := lanesI.calls (some ⟨w1.heap.size, 0, none⟩) (grownCap w1 s.size 0 5) (bytesOf s) _ hC (by rw [hlen]; exact hl)
      rw [hlen] at L1
      have hps : (nums .u64 (kLanes (bytesOf s) s.size)).toArray.size = 25 := by simp [nums, kLanes_length]
      have hone : (nums .u64 (kLanes (bytesOf s) s.size)).toArray.all (·.oneCell') = true := by simp [nums, Value.oneCell']
      have hP : (nums .u64 (kLanes (bytesOf s) s.size)).toArray = (nums .u64 (kLanes (bytesOf s) s.size)).toArray := rfl
      generalize hPP : (nums .u64 (kLanes (bytesOf s) s.size)).toArray = P1 at L1 hps hone
      have hst : ∀ W2 : World, (storeVar 96 ⟨W2.heap.size, 0, none⟩ (.agg P1)).run Try.prog (W2.alloc (.cells #[Value.int .u64 0, Value.int .u64 0, Value.int .u64 0, Value.int .u64 0, Value.int .u64 0, Value.int .u64 0, Value.int .u64 0, Value.int .u64 0, Value.int .u64 0, Value.int .u64 0, Value.int .u64 0, Value.int .u64 0, Value.int .u64 0, Value.int .u64 0, Value.int .u64 0, Value.int .u64 0, Value.int .u64 0, Value.int .u64 0, Value.int .u64 0, Value.int .u64 0, Value.int .u64 0, Value.int .u64 0, Value.int .u64 0, Value.int .u64 0, Value.int .u64 0] 96)) = .ok () (W2.alloc (.cells P1 96)) := by
        intro W2
        have h := run_storeVar_row (P := Try.prog) (W2.alloc (.cells #[Value.int .u64 0, Value.int .u64 0, Value.int .u64 0, Value.int .u64 0, Value.int .u64 0, Value.int .u64 0, Value.int .u64 0, Value.int .u64 0, Value.int .u64 0, Value.int .u64 0, Value.int .u64 0, Value.int .u64 0, Value.int .u64 0, Value.int .u64 0, Value.int .u64 0, Value.int .u64 0, Value.int .u64 0, Value.int .u64 0, Value.int .u64 0, Value.int .u64 0, Value.int .u64 0, Value.int .u64 0, Value.int .u64 0, Value.int .u64 0, Value.int .u64 0] 96)) W2.heap.size 96 96 #[Value.int .u64 0, Value.int .u64 0, Value.int .u64 0, Value.int .u64 0, Value.int .u64 0, Value.int .u64 0, Value.int .u64 0, Value.int .u64 0, Value.int .u64 0, Value.int .u64 0, Value.int .u64 0, Value.int .u64 0, Value.int .u64 0, Value.int .u64 0, Value.int .u64 0, Value.int .u64 0, Value.int .u64 0, Value.int .u64 0, Value.int .u64 0, Value.int .u64 0, Value.int .u64 0, Value.int .u64 0, Value.int .u64 0, Value.int .u64 0, Value.int .u64 0] P1 (blk_new _ _) (by rw [hps]; kernel_rfl) (by rw [hps]; rfl) hone
        rw [setRow_new] at h
        exact h
      have HP := Aside0.mk hPP
      clear hPP hP
      have hst2 := hst
      simp [storeVar, go_sem, hps] at hst2
      have L1 := Aside0.mk L1
      have hkl := kLanes_length (bytesOf s) s.size
      clear hst
      go_wp2_with (first | (go_at_call 84; refine L1.out.mono ?_; rintro e w2 ⟨rfl, hb2⟩) | (go_at_call 85; refine (permI.calls _ (kLanes (bytesOf s) s.size) _ hkl (by unfold Arr; rw [HP.out]; exact blk_new _ _)).mono ?_; rintro e w3 ⟨rfl, S3, M3⟩) | (go_at_call 86; refine (textI.calls _ (kPerm (kLanes (bytesOf s) s.size) 24) _ (by rw [kPerm_length]; exact hkl) S3).mono ?_; rintro e w4 ⟨v4, rfl, hR, hb4⟩; have hcv2 := own_string (P := Try.prog) Try.underlying25 Try.underlying5 Try.underlying9 (Kd.own_of_R hR)))
      refine bodyPost_ret (results_tmp2 rfl _ _ _) rfl ?_
      have b2 := below_step hbl hb2
      have b3 := below_alloc b2 (.cells P1 96)
      have b4 := M3.2.2 _ b3 (fun i hi e => by have := b2.size; omega)
      exact ⟨rfl, below_step b4 hb4⟩
    · rw [if_neg h2]
      have d2 : ((s.size : Int) == 200) = false := beq_eq_false_iff_ne.2 h2
      have d3 : ((s.size : Int) != 200) = true := by rw [bne, d2]; rfl
      have d4 : decide ((s.size : Int) = 200) = false := decide_eq_false h2
      clear h2
      go_enter Try.func22, Try.ntmps22
      go_wp2_with (go_at_call 83; refine (L0.out _).mono ?_; rintro e w1 ⟨rfl, rfl⟩)
      refine bodyPost_ret (results_tmp2 rfl _ _ _) rfl ?_
      exact ⟨rfl, Below.refl _ _⟩
end Go.Proofs.Ytlogocmojnhpbaa.Print
/- The contract of the reference's l03Lanes: the state that a text is. -/
namespace Go.Proofs.Ytlogocmojnhpbaa.Print
open Go.RowKit Go.Proofs.YtlogocmojnhpbaaW.PrintWords
set_option linter.unusedVariables false
set_option linter.unusedSimpArgs false
theorem idx_str (s : ByteArray) (k : Nat) (hk : k < s.size) (w : World) : (Instr.index 9 (.string s) (.int .i64 (k : Int))).run Try.prog w = .ok (.int .u8 (bt s (k : Int))) w := by
  have h1 : (0 : Int) ≤ (k : Int) := by omega
  have e : s[k]? = some (s[k]'hk) := by simp [hk]
  have h2 : bt s (k : Int) = ((s[k]'hk).toNat : Int) := by unfold bt; rw [dif_pos (by simpa using hk)]; simp
  rw [h2]
  simp [Instr.index, run_underlying Try.underlying9, asIntOf, h1, go_sem, hk]
set_option maxHeartbeats 8000000 in
set_option maxRecDepth 100000 in
theorem lanesS.loop (g : Nat) (s : ByteArray) (wr : World) {u1 u2 u5 u6 u7 u8 u9 u10 u11 u12 u13 u14 u15 u16 u17 u18 u19 u20 u21 u22 u23 u24 u25 u26 u27 : Value} {Q : Exit → Act → World → Prop} (hn : s.size ≤ 200) (hb : Arr wr g 93 .u64 (kLanes (bytesOf s) 0))
    (hexit : ∀ (a' : Act) (w' : World), Arr w' g 93 .u64 (kLanes (bytesOf s) s.size) → Moved wr w' (fun i => i = g) → (∃ z4 z6 z7 z8 z9 z10 z11 z12 z13 z14 z15 z16 z17 z18 z19 z20 z21 z22 z23 z24 z25 z26 : Value, a' = ⟨List.toArray (Value.string s :: u1 :: u2 :: Value.pointer (some ⟨g, 0, none⟩) :: z4 :: u5 :: z6 :: z7 :: z8 :: z9 :: z10 :: z11 :: z12 :: z13 :: z14 :: z15 :: z16 :: z17 :: z18 :: z19 :: z20 :: z21 :: z22 :: z23 :: z24 :: z25 :: z26 :: u27 :: []), []⟩) → Q (.exit 0) a' w') :
    Code.wp Try.prog (nthLoop Try.f82.body 0) Q ⟨List.toArray (Value.string s :: u1 :: u2 :: Value.pointer (some ⟨g, 0, none⟩) :: Value.int .i64 0 :: u5 :: u6 :: u7 :: u8 :: u9 :: u10 :: u11 :: u12 :: u13 :: u14 :: u15 :: u16 :: u17 :: u18 :: u19 :: u20 :: u21 :: u22 :: u23 :: u24 :: u25 :: u26 :: u27 :: []), []⟩ wr := by
  conv => arg 2; whnf
  have HB := Aside0.mk hb
  have HX := Aside0.mk hexit
  clear hb hexit
  go_loopg [4] s.size (fun gg s4 w' => ∃ k : Nat, k ≤ s.size ∧ s.size - k ≤ gg ∧ s4 = .int .i64 k ∧ Aside0 (Arr w' g 93 .u64 (kLanes (bytesOf s) k)) ∧ Aside0 (Moved wr w' (fun i => i = g)))
  case atStart => exact ⟨0, by omega, by omega, rfl, HB, ⟨Moved.refl _ _⟩⟩
  case round =>
    obtain ⟨k, hk, hg, rfl, HK, HO⟩ := hrel
    by_cases hlt : k < s.size
    · have hltz : (k : Int) < (s.size : Int) := by omega
      have h0z : (0 : Int) ≤ (k : Int) := by omega
      have q0 := HK.out.cell (k / 8) (by rw [kLanes_length]; omega)
      have f0 := HK.out.frozen (k / 8)
      have hx := fun w => idx_str s k hlt w
      obtain ⟨c, hc⟩ : ∃ c, c = bt s (k : Int) := ⟨_, rfl⟩
      simp only [← hc] at hx
      have HC : Aside0 (c = (bytesOf s).getD k 0) := ⟨by rw [hc, ← rd_bytesOf]; simp [rd]⟩
      clear hc hlt
      go_wp2
      have a1 : ((k : Int)).tdiv 8 = (k : Int) / 8 := Int.tdiv_eq_ediv_of_nonneg (by omega)
      have a2 : IntKind.i64.wrap ((k : Int) / 8) = (k : Int) / 8 := by rw [IntKind.wrap_i64]; omega
      have a3 : (0 : Int) ≤ (k : Int) / 8 := by omega
      have a4 : (k : Int) / 8 < 25 := by omega
      have a5 : ((k : Int) / 8).toNat = k / 8 := by omega
      have b1 : ((k : Int)).tmod 8 = (k : Int) % 8 := Int.tmod_eq_emod_of_nonneg (by omega)
      have b2 : IntKind.i64.wrap ((k : Int) % 8) = (k : Int) % 8 := by rw [IntKind.wrap_i64]; omega
      have b3 : IntKind.i64.wrap (8 * ((k : Int) % 8)) = 8 * ((k : Int) % 8) := by rw [IntKind.wrap_i64]; omega
      have b4 : (0 : Int) ≤ 8 * ((k : Int) % 8) := by omega
      have b5 : (8 * ((k : Int) % 8)).toNat = 8 * (k % 8) := by omega
      have b6 : min (8 * (k % 8)) 64 = 8 * (k % 8) := by omega
      have b7 : IntKind.u64.wrap (8 * ((k : Int) % 8)) = 8 * ((k : Int) % 8) := by first | (rw [IntKind.wrap_u64]; omega) | (simp only [IntKind.wrap, IntKind.bits, IntKind.signed]; first | omega | (simp; omega))
      refine wp_region_still_tail 15 (by kernel_rfl) (by kernel_rfl) ?_
      show wpStill _ _ (World.drew _) (fun a' => wpList _ _ _ _ a' (World.drew _)) _ _
      simp only [List.take_succ_cons, List.take_zero, List.drop_succ_cons, List.drop_zero]
      repeat still_step
      refine wpStill_nil ?_
      clear a1 a2 a3 a4 a5 b1 b2 b3 b4 b5 b6 b7
      go_wp2
      go_roundg (s.size - (k + 1))
      case measure => omega
      case rel => exact ⟨k + 1, by omega, by omega, by go_num, ⟨by rw [HC.out]; exact (HK.out.drew).set (k / 8) _⟩, ⟨(HO.out.drew).set g _ _ (.inl rfl)⟩⟩
    · have hk25 : k = s.size := by omega
      subst hk25
      have hd : decide ((s.size : Int) < (s.size : Int)) = false := decide_eq_false (by omega)
      go_wp2
      exact HX.out _ _ HK.out HO.out ⟨_, _, _, _, _, _, _, _, _, _, _, _, _, _, _, _, _, _, _, _, _, _, rfl⟩
set_option maxHeartbeats 8000000 in
set_option maxRecDepth 100000 in
theorem lanesS.calls (s : ByteArray) (w : World) (hn : s.size ≤ 200) :
    Calls Try.prog 82 #[.string s] w fun e w' => e = .returned (.agg (nums .u64 (kLanes (bytesOf s) s.size)).toArray) ∧ Below w.heap.size w w' := by
  go_enter Try.func82, Try.ntmps82
  go_upto_region 0 with fail
  apply wp_region_lit
  refine Go.Great.wpList_allocTo rfl (some 2) rfl (.pointer (some ⟨w.heap.size, 0, none⟩)) (.cells z25 93) (by kernel_rfl) ?_
  refine wpList_frame (a' := ⟨List.toArray (Value.string s :: undef :: Value.pointer (some ⟨w.heap.size, 0, none⟩) :: undef :: undef :: undef :: undef :: undef :: undef :: undef :: undef :: undef :: undef :: undef :: undef :: undef :: undef :: undef :: undef :: undef :: undef :: undef :: undef :: undef :: undef :: undef :: undef :: undef :: []), []⟩) (by kernel_rfl) ?_
  apply wpList_nil
  go_upto_region 1 with fail
  apply wp_region_lit
  refine wpList_buildTo rfl 93 _ rfl (some 5) rfl z25 (by kernel_rfl) ?_
  refine Go.Great.wpList_allocTo rfl (some 3) rfl (.pointer (some ⟨(w.alloc (.cells z25 93)).heap.size, 0, none⟩)) (.cells z25 93) (by kernel_rfl) ?_
  refine wpList_store_rowTo rfl 93 _ _ rfl rfl (w.alloc (.cells z25 93)).heap.size z25 (by kernel_rfl) (by kernel_rfl) 93 z25 (blk_new _ _) (by kernel_rfl) rfl (by kernel_rfl) ?_
  rw [setRow_self _ _ _ _ _ (blk_new _ _)]
  refine wpList_frame (a' := ⟨List.toArray (Value.string s :: undef :: Value.pointer (some ⟨w.heap.size, 0, none⟩) :: Value.pointer (some ⟨(w.alloc (Obj.cells z25 93)).heap.size, 0, none⟩) :: undef :: Value.agg z25 :: undef :: undef :: undef :: undef :: undef :: undef :: undef :: undef :: undef :: undef :: undef :: undef :: undef :: undef :: undef :: undef :: undef :: undef :: undef :: undef :: undef :: undef :: []), []⟩) (by kernel_rfl) ?_
  apply wpList_nil
  have AO : Arr ((w.alloc (.cells z25 93)).alloc (.cells z25 93)) w.heap.size 93 .u64 (List.replicate 25 0) := blk_alloc (blk_new _ _) _
  have AG : Arr ((w.alloc (.cells z25 93)).alloc (.cells z25 93)) (w.alloc (.cells z25 93)).heap.size 93 .u64 (kLanes (bytesOf s) 0) := blk_new _ _
  have BW : Below w.heap.size w ((w.alloc (.cells z25 93)).alloc (.cells z25 93)) := below_alloc (below_alloc (Below.refl _ w) _) _
  have g1 : w.heap.size < (w.alloc (.cells z25 93)).heap.size := blk_lt (blk_new w (.cells z25 93))
  have MV := ((Moved.refl w (fun i => w.heap.size ≤ i)).alloc (.cells z25 93)).alloc (.cells z25 93)
  clear BW
  generalize ((w.alloc (.cells z25 93)).alloc (.cells z25 93)) = W1 at AG AO MV ⊢
  generalize (w.alloc (.cells z25 93)).heap.size = g at AG g1 ⊢
  generalize hga : w.heap.size = go at AO MV g1 ⊢
  have HG := Aside0.mk hga
  have n1 : go ≠ g := by omega
  have g1' : go ≤ g := by omega
  have AO := Aside0.mk AO
  have AG := Aside0.mk AG
  have MV := Aside0.mk MV
  clear hga g1
  go_wp2
  refine lanesS.loop g s W1 hn AG.out ?_
  intro a2 W2 S1 m1 hz
  obtain ⟨v4, hz⟩ := hz
  obtain ⟨v6, hz⟩ := hz
  obtain ⟨v7, hz⟩ := hz
  obtain ⟨v8, hz⟩ := hz
  obtain ⟨v9, hz⟩ := hz
  obtain ⟨v10, hz⟩ := hz
  obtain ⟨v11, hz⟩ := hz
  obtain ⟨v12, hz⟩ := hz
  obtain ⟨v13, hz⟩ := hz
  obtain ⟨v14, hz⟩ := hz
  obtain ⟨v15, hz⟩ := hz
  obtain ⟨v16, hz⟩ := hz
  obtain ⟨v17, hz⟩ := hz
  obtain ⟨v18, hz⟩ := hz
  obtain ⟨v19, hz⟩ := hz
  obtain ⟨v20, hz⟩ := hz
  obtain ⟨v21, hz⟩ := hz
  obtain ⟨v22, hz⟩ := hz
  obtain ⟨v23, hz⟩ := hz
  obtain ⟨v24, hz⟩ := hz
  obtain ⟨v25, hz⟩ := hz
  obtain ⟨v26, hz⟩ := hz
  subst hz
  have AO := AO.out.moved m1 (fun e => n1 e)
  have MV := MV.out.trans_new m1 (fun i e => .inl (e ▸ g1'))
  have hsz : (nums .u64 (kLanes (bytesOf s) s.size)).toArray.size = 25 := by simp [nums, kLanes_length]
  have hone : (nums .u64 (kLanes (bytesOf s) s.size)).toArray.all (·.oneCell') = true := by simp [nums, Value.oneCell']
  go_upto_region 6 with fail
  apply wp_region_lit
  refine wpList_load_row rfl 93 _ rfl g rfl 93 _ (0, 0) _ S1 Try.underlying93 rfl (by rw [hsz]; kernel_rfl) ?_
  refine wpList_store_rowTo rfl 93 _ _ rfl rfl go (nums .u64 (kLanes (bytesOf s) s.size)).toArray (by kernel_rfl) (by kernel_rfl) 93 _ AO (by rw [hsz]; kernel_rfl) (by rw [hsz]; rfl) hone ?_
  have AF := setRow_heap W2 go _ (nums .u64 (kLanes (bytesOf s) s.size)).toArray 93 (0, 0) AO
  have BF : Below w.heap.size w (W2.setRow go (nums .u64 (kLanes (bytesOf s) s.size)).toArray) := below_setRow (MV.below (fun i hi h => absurd h (by have := HG.out; omega))) (Nat.le_of_eq HG.out) _
  generalize W2.setRow go (nums .u64 (kLanes (bytesOf s) s.size)).toArray = W3 at AF BF ⊢
  refine wpList_frame (a' := ⟨List.toArray (Value.string s :: undef :: Value.pointer (some ⟨go, 0, none⟩) :: Value.pointer (some ⟨g, 0, none⟩) :: v4 :: Value.agg z25 :: v6 :: v7 :: v8 :: v9 :: v10 :: v11 :: v12 :: v13 :: v14 :: v15 :: v16 :: v17 :: v18 :: v19 :: v20 :: v21 :: v22 :: v23 :: v24 :: v25 :: v26 :: Value.agg (nums .u64 (kLanes (bytesOf s) s.size)).toArray :: []), []⟩) (by kernel_rfl) ?_
  apply wpList_nil
  go_wp2
  refine bodyPost_ret (results_cell_row rfl _ _ go 93 _ (0, 0) _ rfl AF Try.underlying93 rfl (by rw [hsz]; kernel_rfl)) rfl ?_
  exact ⟨rfl, BF⟩
end Go.Proofs.Ytlogocmojnhpbaa.Print
/- The contract of the reference's permutation: its inner loops. -/
namespace Go.Proofs.Ytlogocmojnhpbaa.Print
open Go.RowKit Go.Proofs.YtlogocmojnhpbaaW.PrintWords
set_option linter.unusedVariables false
set_option linter.unusedSimpArgs false
set_option maxHeartbeats 8000000 in
set_option maxRecDepth 100000 in
theorem permS.chiIn (g gb x : Nat) (a b : List Int) (wr : World) {u0 u2 u3 u4 u5 u6 u7 u8 u10 u11 u14 u15 u16 u17 u18 u19 u20 u21 u22 u23 u24 u25 u26 u27 u28 u29 u30 u31 u32 u33 u34 u35 u36 u37 u38 u39 u40 u41 u42 u43 u44 u45 u46 u47 u48 u49 u50 u51 u52 u53 u54 u55 u56 u57 u58 u59 u60 u61 u62 u63 u64 u65 u66 u67 u68 u69 u70 u71 u72 u73 u74 u75 u76 u77 u78 u79 u80 u81 u82 u83 u84 u85 u86 u87 u88 u89 u90 u91 u92 u93 u94 u95 u96 u97 u98 u99 u100 u101 u102 u103 u104 u105 u106 u107 u108 u109 u110 u111 u112 u113 u114 u115 u116 u117 u118 u119 u120 u121 u122 u123 u124 u125 u126 u127 u128 u129 u130 u131 u132 u133 u134 u135 u136 u137 u138 u139 u140 u141 u142 u143 u144 u145 u146 u147 u148 : Value} {Q : Exit → Act → World → Prop} (ha : a.length = 25) (hbl : b.length = 25) (hx : x < 5) (n1 : gb ≠ g) (hb : Arr wr g 93 .u64 a) (hm : Arr wr gb 93 .u64 b)
    (hexit : ∀ (a' : Act) (w' : World), Arr w' g 93 .u64 (sChiIn b a x 5) → Moved wr w' (fun i => i = g) → (∃ z13 z107 z108 z109 z110 z111 z112 z113 z114 z115 z116 z117 z118 z119 z120 z121 z122 z123 z124 z125 z126 z127 z128 z129 z130 z131 z132 z133 z134 z135 z136 z137 z138 z139 z140 : Value, a' = ⟨List.toArray (u0 :: Value.pointer (some ⟨g, 0, none⟩) :: u2 :: u3 :: u4 :: u5 :: u6 :: u7 :: u8 :: Value.pointer (some ⟨gb, 0, none⟩) :: u10 :: u11 :: Value.int .i64 (x : Int) :: z13 :: u14 :: u15 :: u16 :: u17 :: u18 :: u19 :: u20 :: u21 :: u22 :: u23 :: u24 :: u25 :: u26 :: u27 :: u28 :: u29 :: u30 :: u31 :: u32 :: u33 :: u34 :: u35 :: u36 :: u37 :: u38 :: u39 :: u40 :: u41 :: u42 :: u43 :: u44 :: u45 :: u46 :: u47 :: u48 :: u49 :: u50 :: u51 :: u52 :: u53 :: u54 :: u55 :: u56 :: u57 :: u58 :: u59 :: u60 :: u61 :: u62 :: u63 :: u64 :: u65 :: u66 :: u67 :: u68 :: u69 :: u70 :: u71 :: u72 :: u73 :: u74 :: u75 :: u76 :: u77 :: u78 :: u79 :: u80 :: u81 :: u82 :: u83 :: u84 :: u85 :: u86 :: u87 :: u88 :: u89 :: u90 :: u91 :: u92 :: u93 :: u94 :: u95 :: u96 :: u97 :: u98 :: u99 :: u100 :: u101 :: u102 :: u103 :: u104 :: u105 :: u106 :: z107 :: z108 :: z109 :: z110 :: z111 :: z112 :: z113 :: z114 :: z115 :: z116 :: z117 :: z118 :: z119 :: z120 :: z121 :: z122 :: z123 :: z124 :: z125 :: z126 :: z127 :: z128 :: z129 :: z130 :: z131 :: z132 :: z133 :: z134 :: z135 :: z136 :: z137 :: z138 :: z139 :: z140 :: u141 :: u142 :: u143 :: u144 :: u145 :: u146 :: u147 :: u148 :: []), []⟩) → Q (.exit 12) a' w') :
    Code.wp Try.prog (nthLoop Try.f81.body 6) Q ⟨List.toArray (u0 :: Value.pointer (some ⟨g, 0, none⟩) :: u2 :: u3 :: u4 :: u5 :: u6 :: u7 :: u8 :: Value.pointer (some ⟨gb, 0, none⟩) :: u10 :: u11 :: Value.int .i64 (x : Int) :: Value.int .i64 0 :: u14 :: u15 :: u16 :: u17 :: u18 :: u19 :: u20 :: u21 :: u22 :: u23 :: u24 :: u25 :: u26 :: u27 :: u28 :: u29 :: u30 :: u31 :: u32 :: u33 :: u34 :: u35 :: u36 :: u37 :: u38 :: u39 :: u40 :: u41 :: u42 :: u43 :: u44 :: u45 :: u46 :: u47 :: u48 :: u49 :: u50 :: u51 :: u52 :: u53 :: u54 :: u55 :: u56 :: u57 :: u58 :: u59 :: u60 :: u61 :: u62 :: u63 :: u64 :: u65 :: u66 :: u67 :: u68 :: u69 :: u70 :: u71 :: u72 :: u73 :: u74 :: u75 :: u76 :: u77 :: u78 :: u79 :: u80 :: u81 :: u82 :: u83 :: u84 :: u85 :: u86 :: u87 :: u88 :: u89 :: u90 :: u91 :: u92 :: u93 :: u94 :: u95 :: u96 :: u97 :: u98 :: u99 :: u100 :: u101 :: u102 :: u103 :: u104 :: u105 :: u106 :: u107 :: u108 :: u109 :: u110 :: u111 :: u112 :: u113 :: u114 :: u115 :: u116 :: u117 :: u118 :: u119 :: u120 :: u121 :: u122 :: u123 :: u124 :: u125 :: u126 :: u127 :: u128 :: u129 :: u130 :: u131 :: u132 :: u133 :: u134 :: u135 :: u136 :: u137 :: u138 :: u139 :: u140 :: u141 :: u142 :: u143 :: u144 :: u145 :: u146 :: u147 :: u148 :: []), []⟩ wr := by
  conv => arg 2; whnf
  have HB := Aside0.mk hb
  have HM := Aside0.mk hm
  have HX := Aside0.mk hexit
  clear hb hexit hm
  go_loopg [13] 5 (fun gg s13 w' => ∃ k : Nat, k ≤ 5 ∧ 5 - k ≤ gg ∧ s13 = .int .i64 k ∧ Aside0 (Arr w' g 93 .u64 (sChiIn b a x k)) ∧ Aside0 (Moved wr w' (fun i => i = g)))
  case atStart => exact ⟨0, by omega, by omega, rfl, HB, ⟨Moved.refl _ _⟩⟩
  case round =>
    obtain ⟨k, hk, hg, rfl, HK, HO⟩ := hrel
    by_cases hlt : k < 5
    · have hltz : (k : Int) < 5 := by omega
      have h0z : (0 : Int) ≤ (k : Int) := by omega
      have HG := HM.out.moved HO.out (fun e => n1 e)
      have q0 := HG.cell (x + 5 * k) (by omega)
      have q1 := HG.cell ((x + 1) % 5 + 5 * k) (by omega)
      have q2 := HG.cell ((x + 2) % 5 + 5 * k) (by omega)
      have q3 := HK.out.cell (x + 5 * k) (by rw [sChiIn_length]; omega)
      have f3 := HK.out.frozen (x + 5 * k)
      clear hlt
      go_wp2
      have m11 : IntKind.i64.wrap (5 * (k : Int)) = 5 * (k : Int) := by rw [IntKind.wrap_i64]; omega
      have m12 : IntKind.i64.wrap ((x : Int) + 5 * (k : Int)) = (x : Int) + 5 * (k : Int) := by rw [IntKind.wrap_i64]; omega
      have m13 : (0 : Int) ≤ (x : Int) + 5 * (k : Int) := by omega
      have m14 : (x : Int) + 5 * (k : Int) < 25 := by omega
      have m15 : ((x : Int) + 5 * (k : Int)).toNat = x + 5 * k := by omega
      have a1 : IntKind.i64.wrap ((x : Int) + 1) = (x : Int) + 1 := by rw [IntKind.wrap_i64]; omega
      have b1 : ((x : Int) + 1).tmod 5 = ((x : Int) + 1) % 5 := Int.tmod_eq_emod_of_nonneg (by omega)
      have c1 : IntKind.i64.wrap (((x : Int) + 1) % 5) = ((x : Int) + 1) % 5 := by rw [IntKind.wrap_i64]; omega
      have d1 : IntKind.i64.wrap (((x : Int) + 1) % 5 + 5 * (k : Int)) = ((x : Int) + 1) % 5 + 5 * (k : Int) := by rw [IntKind.wrap_i64]; omega
      have e1 : (0 : Int) ≤ ((x : Int) + 1) % 5 + 5 * (k : Int) := by omega
      have f1 : ((x : Int) + 1) % 5 + 5 * (k : Int) < 25 := by omega
      have g1 : (((x : Int) + 1) % 5 + 5 * (k : Int)).toNat = (x + 1) % 5 + 5 * k := by omega
      have a2 : IntKind.i64.wrap ((x : Int) + 2) = (x : Int) + 2 := by rw [IntKind.wrap_i64]; omega
      have b2 : ((x : Int) + 2).tmod 5 = ((x : Int) + 2) % 5 := Int.tmod_eq_emod_of_nonneg (by omega)
      have c2 : IntKind.i64.wrap (((x : Int) + 2) % 5) = ((x : Int) + 2) % 5 := by rw [IntKind.wrap_i64]; omega
      have d2 : IntKind.i64.wrap (((x : Int) + 2) % 5 + 5 * (k : Int)) = ((x : Int) + 2) % 5 + 5 * (k : Int) := by rw [IntKind.wrap_i64]; omega
      have e2 : (0 : Int) ≤ ((x : Int) + 2) % 5 + 5 * (k : Int) := by omega
      have f2 : ((x : Int) + 2) % 5 + 5 * (k : Int) < 25 := by omega
      have g2 : (((x : Int) + 2) % 5 + 5 * (k : Int)).toNat = (x + 2) % 5 + 5 * k := by omega
      refine wp_region_still_tail 30 (by kernel_rfl) (by kernel_rfl) ?_
      show wpStill _ _ (World.drew _) (fun a' => wpList _ _ _ _ a' (World.drew _)) _ _
      simp only [List.take_succ_cons, List.take_zero, List.drop_succ_cons, List.drop_zero]
      repeat still_step
      refine wpStill_nil ?_
      clear m11 m12 m13 m14 m15 a1 a2 b1 b2 c1 c2 d1 d2 e1 e2 f1 f2 g1 g2
      go_wp2
      go_roundg (5 - (k + 1))
      case measure => omega
      case rel => exact ⟨k + 1, by omega, by omega, by go_num, ⟨(HK.out.drew).set (x + 5 * k) _⟩, ⟨(HO.out.drew).set g _ _ (.inl rfl)⟩⟩
    · have hk25 : k = 5 := by omega
      subst hk25
      go_wp2
      exact HX.out _ _ HK.out HO.out ⟨_, _, _, _, _, _, _, _, _, _, _, _, _, _, _, _, _, _, _, _, _, _, _, _, _, _, _, _, _, _, _, _, _, _, _, rfl⟩
end Go.Proofs.Ytlogocmojnhpbaa.Print
/- The contract of the reference's permutation: its inner loops. -/
namespace Go.Proofs.Ytlogocmojnhpbaa.Print
open Go.RowKit Go.Proofs.YtlogocmojnhpbaaW.PrintWords
set_option linter.unusedVariables false
set_option linter.unusedSimpArgs false
set_option maxHeartbeats 8000000 in
set_option maxRecDepth 100000 in
theorem permS.moveIn (g gh gb x : Nat) (a b : List Int) (wr : World) {u0 u2 u3 u5 u6 u7 u8 u12 u13 u14 u15 u16 u17 u18 u19 u20 u21 u22 u23 u24 u25 u26 u27 u28 u29 u30 u31 u32 u33 u34 u35 u36 u37 u38 u39 u40 u41 u42 u43 u44 u45 u46 u47 u48 u49 u50 u51 u52 u53 u54 u55 u56 u57 u58 u59 u60 u61 u62 u63 u64 u65 u66 u67 u68 u69 u70 u71 u72 u73 u74 u75 u76 u77 u78 u79 u80 u81 u82 u83 u84 u85 u86 u87 u88 u89 u90 u91 u92 u93 u94 u95 u96 u97 u98 u99 u100 u101 u102 u103 u104 u105 u106 u107 u108 u109 u110 u111 u112 u113 u114 u115 u116 u117 u118 u119 u120 u121 u122 u123 u124 u125 u126 u127 u128 u129 u130 u131 u132 u133 u134 u135 u136 u137 u138 u139 u140 u141 u142 u143 u144 u145 u146 u147 u148 : Value} {Q : Exit → Act → World → Prop} (ha : a.length = 25) (hbl : b.length = 25) (hx : x < 5) (n1 : gb ≠ g) (n2 : gb ≠ gh) (hb : Arr wr g 93 .u64 a) (hh : Arr wr gh 147 .u64 kShifts) (hm : Arr wr gb 93 .u64 b)
    (hexit : ∀ (a' : Act) (w' : World), Arr w' gb 93 .u64 (sMoveIn a b x 5) → Moved wr w' (fun i => i = gb) → (∃ z11 z76 z77 z78 z79 z80 z81 z82 z83 z84 z85 z86 z87 z88 z89 z90 z91 z92 z93 z94 z95 z96 z97 z98 z99 z100 z101 z102 : Value, a' = ⟨List.toArray (u0 :: Value.pointer (some ⟨g, 0, none⟩) :: u2 :: u3 :: Value.pointer (some ⟨gh, 0, none⟩) :: u5 :: u6 :: u7 :: u8 :: Value.pointer (some ⟨gb, 0, none⟩) :: Value.int .i64 (x : Int) :: z11 :: u12 :: u13 :: u14 :: u15 :: u16 :: u17 :: u18 :: u19 :: u20 :: u21 :: u22 :: u23 :: u24 :: u25 :: u26 :: u27 :: u28 :: u29 :: u30 :: u31 :: u32 :: u33 :: u34 :: u35 :: u36 :: u37 :: u38 :: u39 :: u40 :: u41 :: u42 :: u43 :: u44 :: u45 :: u46 :: u47 :: u48 :: u49 :: u50 :: u51 :: u52 :: u53 :: u54 :: u55 :: u56 :: u57 :: u58 :: u59 :: u60 :: u61 :: u62 :: u63 :: u64 :: u65 :: u66 :: u67 :: u68 :: u69 :: u70 :: u71 :: u72 :: u73 :: u74 :: u75 :: z76 :: z77 :: z78 :: z79 :: z80 :: z81 :: z82 :: z83 :: z84 :: z85 :: z86 :: z87 :: z88 :: z89 :: z90 :: z91 :: z92 :: z93 :: z94 :: z95 :: z96 :: z97 :: z98 :: z99 :: z100 :: z101 :: z102 :: u103 :: u104 :: u105 :: u106 :: u107 :: u108 :: u109 :: u110 :: u111 :: u112 :: u113 :: u114 :: u115 :: u116 :: u117 :: u118 :: u119 :: u120 :: u121 :: u122 :: u123 :: u124 :: u125 :: u126 :: u127 :: u128 :: u129 :: u130 :: u131 :: u132 :: u133 :: u134 :: u135 :: u136 :: u137 :: u138 :: u139 :: u140 :: u141 :: u142 :: u143 :: u144 :: u145 :: u146 :: u147 :: u148 :: []), []⟩) → Q (.exit 8) a' w') :
    Code.wp Try.prog (nthLoop Try.f81.body 4) Q ⟨List.toArray (u0 :: Value.pointer (some ⟨g, 0, none⟩) :: u2 :: u3 :: Value.pointer (some ⟨gh, 0, none⟩) :: u5 :: u6 :: u7 :: u8 :: Value.pointer (some ⟨gb, 0, none⟩) :: Value.int .i64 (x : Int) :: Value.int .i64 0 :: u12 :: u13 :: u14 :: u15 :: u16 :: u17 :: u18 :: u19 :: u20 :: u21 :: u22 :: u23 :: u24 :: u25 :: u26 :: u27 :: u28 :: u29 :: u30 :: u31 :: u32 :: u33 :: u34 :: u35 :: u36 :: u37 :: u38 :: u39 :: u40 :: u41 :: u42 :: u43 :: u44 :: u45 :: u46 :: u47 :: u48 :: u49 :: u50 :: u51 :: u52 :: u53 :: u54 :: u55 :: u56 :: u57 :: u58 :: u59 :: u60 :: u61 :: u62 :: u63 :: u64 :: u65 :: u66 :: u67 :: u68 :: u69 :: u70 :: u71 :: u72 :: u73 :: u74 :: u75 :: u76 :: u77 :: u78 :: u79 :: u80 :: u81 :: u82 :: u83 :: u84 :: u85 :: u86 :: u87 :: u88 :: u89 :: u90 :: u91 :: u92 :: u93 :: u94 :: u95 :: u96 :: u97 :: u98 :: u99 :: u100 :: u101 :: u102 :: u103 :: u104 :: u105 :: u106 :: u107 :: u108 :: u109 :: u110 :: u111 :: u112 :: u113 :: u114 :: u115 :: u116 :: u117 :: u118 :: u119 :: u120 :: u121 :: u122 :: u123 :: u124 :: u125 :: u126 :: u127 :: u128 :: u129 :: u130 :: u131 :: u132 :: u133 :: u134 :: u135 :: u136 :: u137 :: u138 :: u139 :: u140 :: u141 :: u142 :: u143 :: u144 :: u145 :: u146 :: u147 :: u148 :: []), []⟩ wr := by
  conv => arg 2; whnf
  have HB := Aside0.mk hb
  have HH := Aside0.mk hh
  have HM := Aside0.mk hm
  have HX := Aside0.mk hexit
  clear hb hh hexit hm
  go_loopg [11] 5 (fun gg s11 w' => ∃ k : Nat, k ≤ 5 ∧ 5 - k ≤ gg ∧ s11 = .int .i64 k ∧ Aside0 (Arr w' gb 93 .u64 (sMoveIn a b x k)) ∧ Aside0 (Moved wr w' (fun i => i = gb)))
  case atStart => exact ⟨0, by omega, by omega, rfl, HM, ⟨Moved.refl _ _⟩⟩
  case round =>
    obtain ⟨k, hk, hg, rfl, HK, HO⟩ := hrel
    by_cases hlt : k < 5
    · have hltz : (k : Int) < 5 := by omega
      have h0z : (0 : Int) ≤ (k : Int) := by omega
      have HG := HB.out.moved HO.out (fun e => n1 e.symm)
      have HG2 := HH.out.moved HO.out (fun e => n2 e.symm)
      have q0 := HG.cell (x + 5 * k) (by omega)
      have q1 := HG2.cell (x + 5 * k) (by show x + 5 * k < 25; omega)
      have q2 := HK.out.cell (k + 5 * ((2 * x + 3 * k) % 5)) (by rw [sMoveIn_length]; omega)
      have f2 := HK.out.frozen (k + 5 * ((2 * x + 3 * k) % 5))
      have b3 : 0 ≤ kShifts.getD (x + 5 * k) 0 ∧ kShifts.getD (x + 5 * k) 0 < 64 := kShifts_bd _
      obtain ⟨sh, hsh⟩ : ∃ sh, sh = kShifts.getD (x + 5 * k) 0 := ⟨_, rfl⟩
      rw [← hsh] at q1 b3
      have HS := Aside0.mk hsh
      clear hsh hlt
      go_wp2
      have m1 : IntKind.i64.wrap (2 * (x : Int)) = 2 * (x : Int) := by rw [IntKind.wrap_i64]; omega
      have m2 : IntKind.i64.wrap (3 * (k : Int)) = 3 * (k : Int) := by rw [IntKind.wrap_i64]; omega
      have m3 : IntKind.i64.wrap (2 * (x : Int) + 3 * (k : Int)) = 2 * (x : Int) + 3 * (k : Int) := by rw [IntKind.wrap_i64]; omega
      have m4 : (2 * (x : Int) + 3 * (k : Int)).tmod 5 = (2 * (x : Int) + 3 * (k : Int)) % 5 := Int.tmod_eq_emod_of_nonneg (by omega)
      have m5 : IntKind.i64.wrap ((2 * (x : Int) + 3 * (k : Int)) % 5) = (2 * (x : Int) + 3 * (k : Int)) % 5 := by rw [IntKind.wrap_i64]; omega
      have m6 : IntKind.i64.wrap (5 * ((2 * (x : Int) + 3 * (k : Int)) % 5)) = 5 * ((2 * (x : Int) + 3 * (k : Int)) % 5) := by rw [IntKind.wrap_i64]; omega
      have m7 : IntKind.i64.wrap ((k : Int) + 5 * ((2 * (x : Int) + 3 * (k : Int)) % 5)) = (k : Int) + 5 * ((2 * (x : Int) + 3 * (k : Int)) % 5) := by rw [IntKind.wrap_i64]; omega
      have m8 : (0 : Int) ≤ (k : Int) + 5 * ((2 * (x : Int) + 3 * (k : Int)) % 5) := by omega
      have m9 : (k : Int) + 5 * ((2 * (x : Int) + 3 * (k : Int)) % 5) < 25 := by omega
      have m10 : ((k : Int) + 5 * ((2 * (x : Int) + 3 * (k : Int)) % 5)).toNat = k + 5 * ((2 * x + 3 * k) % 5) := by omega
      have m11 : IntKind.i64.wrap (5 * (k : Int)) = 5 * (k : Int) := by rw [IntKind.wrap_i64]; omega
      have m12 : IntKind.i64.wrap ((x : Int) + 5 * (k : Int)) = (x : Int) + 5 * (k : Int) := by rw [IntKind.wrap_i64]; omega
      have m13 : (0 : Int) ≤ (x : Int) + 5 * (k : Int) := by omega
      have m14 : (x : Int) + 5 * (k : Int) < 25 := by omega
      have m15 : ((x : Int) + 5 * (k : Int)).toNat = x + 5 * k := by omega
      refine wp_region_still_tail 23 (by kernel_rfl) (by kernel_rfl) ?_
      show wpStill _ _ (World.drew _) (fun a' => wpList _ _ _ _ a' (World.drew _)) _ _
      simp only [List.take_succ_cons, List.take_zero, List.drop_succ_cons, List.drop_zero]
      repeat still_step
      still_call (turn.still _ _ _ b3.1 b3.2)
      repeat still_step
      refine wpStill_nil ?_
      clear m1 m2 m3 m4 m5 m6 m7 m8 m9 m10 m11 m12 m13 m14 m15
      go_wp2
      go_roundg (5 - (k + 1))
      case measure => omega
      case rel => exact ⟨k + 1, by omega, by omega, by go_num, ⟨by rw [HS.out]; exact (HK.out.drew).set (k + 5 * ((2 * x + 3 * k) % 5)) _⟩, ⟨(HO.out.drew).set gb _ _ (.inl rfl)⟩⟩
    · have hk25 : k = 5 := by omega
      subst hk25
      go_wp2
      exact HX.out _ _ HK.out HO.out ⟨_, _, _, _, _, _, _, _, _, _, _, _, _, _, _, _, _, _, _, _, _, _, _, _, _, _, _, _, rfl⟩
end Go.Proofs.Ytlogocmojnhpbaa.Print
/- The contract of the reference's permutation: its inner loops. -/
namespace Go.Proofs.Ytlogocmojnhpbaa.Print
open Go.RowKit Go.Proofs.YtlogocmojnhpbaaW.PrintWords
set_option linter.unusedVariables false
set_option linter.unusedSimpArgs false
set_option maxHeartbeats 8000000 in
set_option maxRecDepth 100000 in
theorem permS.sums (g gs : Nat) (a : List Int) (wr : World) {u0 u2 u3 u4 u5 u8 u9 u10 u11 u12 u13 u14 u15 u16 u17 u18 u19 u20 u21 u22 u23 u24 u25 u26 u27 u28 u29 u30 u31 u32 u33 u34 u35 u36 u37 u38 u39 u40 u41 u42 u43 u44 u45 u46 u47 u48 u49 u50 u51 u52 u53 u54 u55 u56 u57 u58 u59 u60 u61 u62 u63 u64 u65 u66 u67 u68 u69 u70 u71 u72 u73 u74 u75 u76 u77 u78 u79 u80 u81 u82 u83 u84 u85 u86 u87 u88 u89 u90 u91 u92 u93 u94 u95 u96 u97 u98 u99 u100 u101 u102 u103 u104 u105 u106 u107 u108 u109 u110 u111 u112 u113 u114 u115 u116 u117 u118 u119 u120 u121 u122 u123 u124 u125 u126 u127 u128 u129 u130 u131 u132 u133 u134 u135 u136 u137 u138 u139 u140 u141 u142 u143 u144 u145 u146 u147 u148 : Value} {Q : Exit → Act → World → Prop} (ha : a.length = 25) (hne : gs ≠ g) (hb : Arr wr g 93 .u64 a) (hc : Arr wr gs 149 .u64 (sSums a 0))
    (hexit : ∀ (a' : Act) (w' : World), Arr w' gs 149 .u64 (sSums a 5) → Moved wr w' (fun i => i = gs) → (∃ z7 z21 z22 z23 z24 z25 z26 z27 z28 z29 z30 z31 z32 z33 z34 z35 z36 z37 z38 z39 z40 z41 z42 z43 z44 z45 z46 z47 z48 z49 : Value, a' = ⟨List.toArray (u0 :: Value.pointer (some ⟨g, 0, none⟩) :: u2 :: u3 :: u4 :: u5 :: Value.pointer (some ⟨gs, 0, none⟩) :: z7 :: u8 :: u9 :: u10 :: u11 :: u12 :: u13 :: u14 :: u15 :: u16 :: u17 :: u18 :: u19 :: u20 :: z21 :: z22 :: z23 :: z24 :: z25 :: z26 :: z27 :: z28 :: z29 :: z30 :: z31 :: z32 :: z33 :: z34 :: z35 :: z36 :: z37 :: z38 :: z39 :: z40 :: z41 :: z42 :: z43 :: z44 :: z45 :: z46 :: z47 :: z48 :: z49 :: u50 :: u51 :: u52 :: u53 :: u54 :: u55 :: u56 :: u57 :: u58 :: u59 :: u60 :: u61 :: u62 :: u63 :: u64 :: u65 :: u66 :: u67 :: u68 :: u69 :: u70 :: u71 :: u72 :: u73 :: u74 :: u75 :: u76 :: u77 :: u78 :: u79 :: u80 :: u81 :: u82 :: u83 :: u84 :: u85 :: u86 :: u87 :: u88 :: u89 :: u90 :: u91 :: u92 :: u93 :: u94 :: u95 :: u96 :: u97 :: u98 :: u99 :: u100 :: u101 :: u102 :: u103 :: u104 :: u105 :: u106 :: u107 :: u108 :: u109 :: u110 :: u111 :: u112 :: u113 :: u114 :: u115 :: u116 :: u117 :: u118 :: u119 :: u120 :: u121 :: u122 :: u123 :: u124 :: u125 :: u126 :: u127 :: u128 :: u129 :: u130 :: u131 :: u132 :: u133 :: u134 :: u135 :: u136 :: u137 :: u138 :: u139 :: u140 :: u141 :: u142 :: u143 :: u144 :: u145 :: u146 :: u147 :: u148 :: []), []⟩) → Q (.exit 2) a' w') :
    Code.wp Try.prog (nthLoop Try.f81.body 1) Q ⟨List.toArray (u0 :: Value.pointer (some ⟨g, 0, none⟩) :: u2 :: u3 :: u4 :: u5 :: Value.pointer (some ⟨gs, 0, none⟩) :: Value.int .i64 0 :: u8 :: u9 :: u10 :: u11 :: u12 :: u13 :: u14 :: u15 :: u16 :: u17 :: u18 :: u19 :: u20 :: u21 :: u22 :: u23 :: u24 :: u25 :: u26 :: u27 :: u28 :: u29 :: u30 :: u31 :: u32 :: u33 :: u34 :: u35 :: u36 :: u37 :: u38 :: u39 :: u40 :: u41 :: u42 :: u43 :: u44 :: u45 :: u46 :: u47 :: u48 :: u49 :: u50 :: u51 :: u52 :: u53 :: u54 :: u55 :: u56 :: u57 :: u58 :: u59 :: u60 :: u61 :: u62 :: u63 :: u64 :: u65 :: u66 :: u67 :: u68 :: u69 :: u70 :: u71 :: u72 :: u73 :: u74 :: u75 :: u76 :: u77 :: u78 :: u79 :: u80 :: u81 :: u82 :: u83 :: u84 :: u85 :: u86 :: u87 :: u88 :: u89 :: u90 :: u91 :: u92 :: u93 :: u94 :: u95 :: u96 :: u97 :: u98 :: u99 :: u100 :: u101 :: u102 :: u103 :: u104 :: u105 :: u106 :: u107 :: u108 :: u109 :: u110 :: u111 :: u112 :: u113 :: u114 :: u115 :: u116 :: u117 :: u118 :: u119 :: u120 :: u121 :: u122 :: u123 :: u124 :: u125 :: u126 :: u127 :: u128 :: u129 :: u130 :: u131 :: u132 :: u133 :: u134 :: u135 :: u136 :: u137 :: u138 :: u139 :: u140 :: u141 :: u142 :: u143 :: u144 :: u145 :: u146 :: u147 :: u148 :: []), []⟩ wr := by
  conv => arg 2; whnf
  have HB := Aside0.mk hb
  have HC := Aside0.mk hc
  have HX := Aside0.mk hexit
  clear hb hc hexit
  go_loopg [7] 5 (fun gg s7 w' => ∃ k : Nat, k ≤ 5 ∧ 5 - k ≤ gg ∧ s7 = .int .i64 k ∧ Aside0 (Arr w' gs 149 .u64 (sSums a k)) ∧ Aside0 (Moved wr w' (fun i => i = gs)))
  case atStart => exact ⟨0, by omega, by omega, rfl, HC, ⟨Moved.refl _ _⟩⟩
  case round =>
    obtain ⟨k, hk, hg, rfl, HK, HO⟩ := hrel
    by_cases hlt : k < 5
    · have hltz : (k : Int) < 5 := by omega
      have h0z : (0 : Int) ≤ (k : Int) := by omega
      have HG := HB.out.moved HO.out (fun e => hne e.symm)
      have q0 := HG.cell k (by omega)
      have q1 := HG.cell (k + 5) (by omega)
      have q2 := HG.cell (k + 10) (by omega)
      have q3 := HG.cell (k + 15) (by omega)
      have q4 := HG.cell (k + 20) (by omega)
      have q5 := HK.out.cell k (by rw [sSums_length]; omega)
      have f5 := HK.out.frozen k
      clear hlt
      go_wp2
      have l0 : (k : Int) < 25 := by omega
      have m5 : IntKind.i64.wrap ((k : Int) + 5) = (k : Int) + 5 := by rw [IntKind.wrap_i64]; omega
      have l5 : (k : Int) + 5 < 25 := by omega
      have z5 : (0 : Int) ≤ (k : Int) + 5 := by omega
      have t5 : ((k : Int) + 5).toNat = k + 5 := by omega
      have m10 : IntKind.i64.wrap ((k : Int) + 10) = (k : Int) + 10 := by rw [IntKind.wrap_i64]; omega
      have l10 : (k : Int) + 10 < 25 := by omega
      have z10 : (0 : Int) ≤ (k : Int) + 10 := by omega
      have t10 : ((k : Int) + 10).toNat = k + 10 := by omega
      have m15 : IntKind.i64.wrap ((k : Int) + 15) = (k : Int) + 15 := by rw [IntKind.wrap_i64]; omega
      have l15 : (k : Int) + 15 < 25 := by omega
      have z15 : (0 : Int) ≤ (k : Int) + 15 := by omega
      have t15 : ((k : Int) + 15).toNat = k + 15 := by omega
      have m20 : IntKind.i64.wrap ((k : Int) + 20) = (k : Int) + 20 := by rw [IntKind.wrap_i64]; omega
      have l20 : (k : Int) + 20 < 25 := by omega
      have z20 : (0 : Int) ≤ (k : Int) + 20 := by omega
      have t20 : ((k : Int) + 20).toNat = k + 20 := by omega
      refine wp_region_still_tail 25 (by kernel_rfl) (by kernel_rfl) ?_
      show wpStill _ _ (World.drew _) (fun a' => wpList _ _ _ _ a' (World.drew _)) _ _
      simp only [List.take_succ_cons, List.take_zero, List.drop_succ_cons, List.drop_zero]
      repeat still_step
      refine wpStill_nil ?_
      clear l0 m5 l5 z5 t5 m10 l10 z10 t10 m15 l15 z15 t15 m20 l20 z20 t20
      go_wp2
      go_roundg (5 - (k + 1))
      case measure => omega
      case rel => exact ⟨k + 1, by omega, by omega, by go_num, ⟨(HK.out.drew).set k _⟩, ⟨(HO.out.drew).set gs _ _ (.inl rfl)⟩⟩
    · have hk25 : k = 5 := by omega
      subst hk25
      go_wp2
      exact HX.out _ _ HK.out HO.out ⟨_, _, _, _, _, _, _, _, _, _, _, _, _, _, _, _, _, _, _, _, _, _, _, _, _, _, _, _, _, _, rfl⟩
end Go.Proofs.Ytlogocmojnhpbaa.Print
/- The contract of the reference's permutation: its inner loops. -/
namespace Go.Proofs.Ytlogocmojnhpbaa.Print
open Go.RowKit Go.Proofs.YtlogocmojnhpbaaW.PrintWords
set_option linter.unusedVariables false
set_option linter.unusedSimpArgs false
set_option maxHeartbeats 8000000 in
set_option maxRecDepth 100000 in
theorem permS.theta (g gs : Nat) (a c : List Int) (wr : World) {u0 u2 u3 u4 u5 u7 u9 u10 u11 u12 u13 u14 u15 u16 u17 u18 u19 u20 u21 u22 u23 u24 u25 u26 u27 u28 u29 u30 u31 u32 u33 u34 u35 u36 u37 u38 u39 u40 u41 u42 u43 u44 u45 u46 u47 u48 u49 u50 u51 u52 u53 u54 u55 u56 u57 u58 u59 u60 u61 u62 u63 u64 u65 u66 u67 u68 u69 u70 u71 u72 u73 u74 u75 u76 u77 u78 u79 u80 u81 u82 u83 u84 u85 u86 u87 u88 u89 u90 u91 u92 u93 u94 u95 u96 u97 u98 u99 u100 u101 u102 u103 u104 u105 u106 u107 u108 u109 u110 u111 u112 u113 u114 u115 u116 u117 u118 u119 u120 u121 u122 u123 u124 u125 u126 u127 u128 u129 u130 u131 u132 u133 u134 u135 u136 u137 u138 u139 u140 u141 u142 u143 u144 u145 u146 u147 u148 : Value} {Q : Exit → Act → World → Prop} (ha : a.length = 25) (hcl : c.length = 5) (hne : gs ≠ g) (hb : Arr wr g 93 .u64 a) (hc : Arr wr gs 149 .u64 c)
    (hexit : ∀ (a' : Act) (w' : World), Arr w' g 93 .u64 (sTheta c a 25) → Moved wr w' (fun i => i = g) → (∃ z8 z50 z51 z52 z53 z54 z55 z56 z57 z58 z59 z60 z61 z62 z63 z64 z65 z66 z67 z68 z69 z70 : Value, a' = ⟨List.toArray (u0 :: Value.pointer (some ⟨g, 0, none⟩) :: u2 :: u3 :: u4 :: u5 :: Value.pointer (some ⟨gs, 0, none⟩) :: u7 :: z8 :: u9 :: u10 :: u11 :: u12 :: u13 :: u14 :: u15 :: u16 :: u17 :: u18 :: u19 :: u20 :: u21 :: u22 :: u23 :: u24 :: u25 :: u26 :: u27 :: u28 :: u29 :: u30 :: u31 :: u32 :: u33 :: u34 :: u35 :: u36 :: u37 :: u38 :: u39 :: u40 :: u41 :: u42 :: u43 :: u44 :: u45 :: u46 :: u47 :: u48 :: u49 :: z50 :: z51 :: z52 :: z53 :: z54 :: z55 :: z56 :: z57 :: z58 :: z59 :: z60 :: z61 :: z62 :: z63 :: z64 :: z65 :: z66 :: z67 :: z68 :: z69 :: z70 :: u71 :: u72 :: u73 :: u74 :: u75 :: u76 :: u77 :: u78 :: u79 :: u80 :: u81 :: u82 :: u83 :: u84 :: u85 :: u86 :: u87 :: u88 :: u89 :: u90 :: u91 :: u92 :: u93 :: u94 :: u95 :: u96 :: u97 :: u98 :: u99 :: u100 :: u101 :: u102 :: u103 :: u104 :: u105 :: u106 :: u107 :: u108 :: u109 :: u110 :: u111 :: u112 :: u113 :: u114 :: u115 :: u116 :: u117 :: u118 :: u119 :: u120 :: u121 :: u122 :: u123 :: u124 :: u125 :: u126 :: u127 :: u128 :: u129 :: u130 :: u131 :: u132 :: u133 :: u134 :: u135 :: u136 :: u137 :: u138 :: u139 :: u140 :: u141 :: u142 :: u143 :: u144 :: u145 :: u146 :: u147 :: u148 :: []), []⟩) → Q (.exit 4) a' w') :
    Code.wp Try.prog (nthLoop Try.f81.body 2) Q ⟨List.toArray (u0 :: Value.pointer (some ⟨g, 0, none⟩) :: u2 :: u3 :: u4 :: u5 :: Value.pointer (some ⟨gs, 0, none⟩) :: u7 :: Value.int .i64 0 :: u9 :: u10 :: u11 :: u12 :: u13 :: u14 :: u15 :: u16 :: u17 :: u18 :: u19 :: u20 :: u21 :: u22 :: u23 :: u24 :: u25 :: u26 :: u27 :: u28 :: u29 :: u30 :: u31 :: u32 :: u33 :: u34 :: u35 :: u36 :: u37 :: u38 :: u39 :: u40 :: u41 :: u42 :: u43 :: u44 :: u45 :: u46 :: u47 :: u48 :: u49 :: u50 :: u51 :: u52 :: u53 :: u54 :: u55 :: u56 :: u57 :: u58 :: u59 :: u60 :: u61 :: u62 :: u63 :: u64 :: u65 :: u66 :: u67 :: u68 :: u69 :: u70 :: u71 :: u72 :: u73 :: u74 :: u75 :: u76 :: u77 :: u78 :: u79 :: u80 :: u81 :: u82 :: u83 :: u84 :: u85 :: u86 :: u87 :: u88 :: u89 :: u90 :: u91 :: u92 :: u93 :: u94 :: u95 :: u96 :: u97 :: u98 :: u99 :: u100 :: u101 :: u102 :: u103 :: u104 :: u105 :: u106 :: u107 :: u108 :: u109 :: u110 :: u111 :: u112 :: u113 :: u114 :: u115 :: u116 :: u117 :: u118 :: u119 :: u120 :: u121 :: u122 :: u123 :: u124 :: u125 :: u126 :: u127 :: u128 :: u129 :: u130 :: u131 :: u132 :: u133 :: u134 :: u135 :: u136 :: u137 :: u138 :: u139 :: u140 :: u141 :: u142 :: u143 :: u144 :: u145 :: u146 :: u147 :: u148 :: []), []⟩ wr := by
  conv => arg 2; whnf
  have HB := Aside0.mk hb
  have HC := Aside0.mk hc
  have HX := Aside0.mk hexit
  clear hb hc hexit
  go_loopg [8] 25 (fun gg s8 w' => ∃ k : Nat, k ≤ 25 ∧ 25 - k ≤ gg ∧ s8 = .int .i64 k ∧ Aside0 (Arr w' g 93 .u64 (sTheta c a k)) ∧ Aside0 (Moved wr w' (fun i => i = g)))
  case atStart => exact ⟨0, by omega, by omega, rfl, HB, ⟨Moved.refl _ _⟩⟩
  case round =>
    obtain ⟨k, hk, hg, rfl, HK, HO⟩ := hrel
    by_cases hlt : k < 25
    · have hltz : (k : Int) < 25 := by omega
      have h0z : (0 : Int) ≤ (k : Int) := by omega
      have HG := HC.out.moved HO.out (fun e => hne e)
      have q0 := HK.out.cell k (by rw [sTheta_length]; omega)
      have f0 := HK.out.frozen k
      have q1 := HG.cell ((k + 4) % 5) (by omega)
      have q2 := HG.cell ((k + 1) % 5) (by omega)
      clear hlt
      go_wp2
      have m4 : IntKind.i64.wrap ((k : Int) + 4) = (k : Int) + 4 := by rw [IntKind.wrap_i64]; omega
      have r4 : ((k : Int) + 4).tmod 5 = ((k : Int) + 4) % 5 := Int.tmod_eq_emod_of_nonneg (by omega)
      have s4 : IntKind.i64.wrap (((k : Int) + 4) % 5) = ((k : Int) + 4) % 5 := by rw [IntKind.wrap_i64]; omega
      have l4 : ((k : Int) + 4) % 5 < 5 := by omega
      have z4 : (0 : Int) ≤ ((k : Int) + 4) % 5 := by omega
      have t4 : (((k : Int) + 4) % 5).toNat = (k + 4) % 5 := by omega
      have m1 : IntKind.i64.wrap ((k : Int) + 1) = (k : Int) + 1 := by rw [IntKind.wrap_i64]; omega
      have r1 : ((k : Int) + 1).tmod 5 = ((k : Int) + 1) % 5 := Int.tmod_eq_emod_of_nonneg (by omega)
      have s1 : IntKind.i64.wrap (((k : Int) + 1) % 5) = ((k : Int) + 1) % 5 := by rw [IntKind.wrap_i64]; omega
      have l1 : ((k : Int) + 1) % 5 < 5 := by omega
      have z1 : (0 : Int) ≤ ((k : Int) + 1) % 5 := by omega
      have t1 : (((k : Int) + 1) % 5).toNat = (k + 1) % 5 := by omega
      refine wp_region_still_tail 17 (by kernel_rfl) (by kernel_rfl) ?_
      show wpStill _ _ (World.drew _) (fun a' => wpList _ _ _ _ a' (World.drew _)) _ _
      simp only [List.take_succ_cons, List.take_zero, List.drop_succ_cons, List.drop_zero]
      repeat still_step
      still_call (turn.still _ _ _ (by omega) (by omega))
      repeat still_step
      refine wpStill_nil ?_
      clear m4 r4 s4 l4 z4 t4 m1 r1 s1 l1 z1 t1
      go_wp2
      go_roundg (25 - (k + 1))
      case measure => omega
      case rel => exact ⟨k + 1, by omega, by omega, by go_num, ⟨(HK.out.drew).set k _⟩, ⟨(HO.out.drew).set g _ _ (.inl rfl)⟩⟩
    · have hk25 : k = 25 := by omega
      subst hk25
      go_wp2
      exact HX.out _ _ HK.out HO.out ⟨_, _, _, _, _, _, _, _, _, _, _, _, _, _, _, _, _, _, _, _, _, _, rfl⟩
end Go.Proofs.Ytlogocmojnhpbaa.Print
/- The contract of the reference's permutation: its rounds, and what it answers. -/
namespace Go.Proofs.Ytlogocmojnhpbaa.Print
open Go.RowKit Go.Proofs.YtlogocmojnhpbaaW.PrintWords
set_option linter.unusedVariables false
set_option linter.unusedSimpArgs false
set_option maxHeartbeats 8000000 in
set_option maxRecDepth 100000 in
theorem permS.move (g gh gb : Nat) (a : List Int) (wr : World) {u0 u2 u3 u5 u6 u7 u8 u11 u12 u13 u14 u15 u16 u17 u18 u19 u20 u21 u22 u23 u24 u25 u26 u27 u28 u29 u30 u31 u32 u33 u34 u35 u36 u37 u38 u39 u40 u41 u42 u43 u44 u45 u46 u47 u48 u49 u50 u51 u52 u53 u54 u55 u56 u57 u58 u59 u60 u61 u62 u63 u64 u65 u66 u67 u68 u69 u70 u71 u72 u73 u74 u75 u76 u77 u78 u79 u80 u81 u82 u83 u84 u85 u86 u87 u88 u89 u90 u91 u92 u93 u94 u95 u96 u97 u98 u99 u100 u101 u102 u103 u104 u105 u106 u107 u108 u109 u110 u111 u112 u113 u114 u115 u116 u117 u118 u119 u120 u121 u122 u123 u124 u125 u126 u127 u128 u129 u130 u131 u132 u133 u134 u135 u136 u137 u138 u139 u140 u141 u142 u143 u144 u145 u146 u147 u148 : Value} {Q : Exit → Act → World → Prop} (ha : a.length = 25) (n1 : gb ≠ g) (n2 : gb ≠ gh) (hb : Arr wr g 93 .u64 a) (hh : Arr wr gh 147 .u64 kShifts) (hm : Arr wr gb 93 .u64 (sMoved a 0))
    (hexit : ∀ (a' : Act) (w' : World), Arr w' gb 93 .u64 (sMoved a 5) → Moved wr w' (fun i => i = gb) → (∃ z10 z11 z72 z73 z74 z75 z76 z77 z78 z79 z80 z81 z82 z83 z84 z85 z86 z87 z88 z89 z90 z91 z92 z93 z94 z95 z96 z97 z98 z99 z100 z101 z102 : Value, a' = ⟨List.toArray (u0 :: Value.pointer (some ⟨g, 0, none⟩) :: u2 :: u3 :: Value.pointer (some ⟨gh, 0, none⟩) :: u5 :: u6 :: u7 :: u8 :: Value.pointer (some ⟨gb, 0, none⟩) :: z10 :: z11 :: u12 :: u13 :: u14 :: u15 :: u16 :: u17 :: u18 :: u19 :: u20 :: u21 :: u22 :: u23 :: u24 :: u25 :: u26 :: u27 :: u28 :: u29 :: u30 :: u31 :: u32 :: u33 :: u34 :: u35 :: u36 :: u37 :: u38 :: u39 :: u40 :: u41 :: u42 :: u43 :: u44 :: u45 :: u46 :: u47 :: u48 :: u49 :: u50 :: u51 :: u52 :: u53 :: u54 :: u55 :: u56 :: u57 :: u58 :: u59 :: u60 :: u61 :: u62 :: u63 :: u64 :: u65 :: u66 :: u67 :: u68 :: u69 :: u70 :: u71 :: z72 :: z73 :: z74 :: z75 :: z76 :: z77 :: z78 :: z79 :: z80 :: z81 :: z82 :: z83 :: z84 :: z85 :: z86 :: z87 :: z88 :: z89 :: z90 :: z91 :: z92 :: z93 :: z94 :: z95 :: z96 :: z97 :: z98 :: z99 :: z100 :: z101 :: z102 :: u103 :: u104 :: u105 :: u106 :: u107 :: u108 :: u109 :: u110 :: u111 :: u112 :: u113 :: u114 :: u115 :: u116 :: u117 :: u118 :: u119 :: u120 :: u121 :: u122 :: u123 :: u124 :: u125 :: u126 :: u127 :: u128 :: u129 :: u130 :: u131 :: u132 :: u133 :: u134 :: u135 :: u136 :: u137 :: u138 :: u139 :: u140 :: u141 :: u142 :: u143 :: u144 :: u145 :: u146 :: u147 :: u148 :: []), []⟩) → Q (.exit 6) a' w') :
    Code.wp Try.prog (nthLoop Try.f81.body 3) Q ⟨List.toArray (u0 :: Value.pointer (some ⟨g, 0, none⟩) :: u2 :: u3 :: Value.pointer (some ⟨gh, 0, none⟩) :: u5 :: u6 :: u7 :: u8 :: Value.pointer (some ⟨gb, 0, none⟩) :: Value.int .i64 0 :: u11 :: u12 :: u13 :: u14 :: u15 :: u16 :: u17 :: u18 :: u19 :: u20 :: u21 :: u22 :: u23 :: u24 :: u25 :: u26 :: u27 :: u28 :: u29 :: u30 :: u31 :: u32 :: u33 :: u34 :: u35 :: u36 :: u37 :: u38 :: u39 :: u40 :: u41 :: u42 :: u43 :: u44 :: u45 :: u46 :: u47 :: u48 :: u49 :: u50 :: u51 :: u52 :: u53 :: u54 :: u55 :: u56 :: u57 :: u58 :: u59 :: u60 :: u61 :: u62 :: u63 :: u64 :: u65 :: u66 :: u67 :: u68 :: u69 :: u70 :: u71 :: u72 :: u73 :: u74 :: u75 :: u76 :: u77 :: u78 :: u79 :: u80 :: u81 :: u82 :: u83 :: u84 :: u85 :: u86 :: u87 :: u88 :: u89 :: u90 :: u91 :: u92 :: u93 :: u94 :: u95 :: u96 :: u97 :: u98 :: u99 :: u100 :: u101 :: u102 :: u103 :: u104 :: u105 :: u106 :: u107 :: u108 :: u109 :: u110 :: u111 :: u112 :: u113 :: u114 :: u115 :: u116 :: u117 :: u118 :: u119 :: u120 :: u121 :: u122 :: u123 :: u124 :: u125 :: u126 :: u127 :: u128 :: u129 :: u130 :: u131 :: u132 :: u133 :: u134 :: u135 :: u136 :: u137 :: u138 :: u139 :: u140 :: u141 :: u142 :: u143 :: u144 :: u145 :: u146 :: u147 :: u148 :: []), []⟩ wr := by
  conv => arg 2; whnf
  have HB := Aside0.mk hb
  have HH := Aside0.mk hh
  have HM := Aside0.mk hm
  have HX := Aside0.mk hexit
  clear hb hh hexit hm
  go_loopg [10] 5 (fun gg s10 w' => ∃ k : Nat, k ≤ 5 ∧ 5 - k ≤ gg ∧ s10 = .int .i64 k ∧ Aside0 (Arr w' gb 93 .u64 (sMoved a k)) ∧ Aside0 (Moved wr w' (fun i => i = gb)))
  case atStart => exact ⟨0, by omega, by omega, rfl, HM, ⟨Moved.refl _ _⟩⟩
  case round =>
    obtain ⟨k, hk, hg, rfl, HK, HO⟩ := hrel
    by_cases hlt : k < 5
    · have hltz : (k : Int) < 5 := by omega
      have h0z : (0 : Int) ≤ (k : Int) := by omega
      have HG := Aside0.mk (HB.out.moved HO.out (fun e => n1 e.symm))
      have HG2 := Aside0.mk (HH.out.moved HO.out (fun e => n2 e.symm))
      go_wp2
      refine permS.moveIn g gh gb k a (sMoved a k) wr ha (sMoved_length _ _) hlt n1 n2 HG.out HG2.out HK.out ?_
      intro a2 W2 S1 m1 hz
      obtain ⟨y11, hz⟩ := hz
      obtain ⟨y76, hz⟩ := hz
      obtain ⟨y77, hz⟩ := hz
      obtain ⟨y78, hz⟩ := hz
      obtain ⟨y79, hz⟩ := hz
      obtain ⟨y80, hz⟩ := hz
      obtain ⟨y81, hz⟩ := hz
      obtain ⟨y82, hz⟩ := hz
      obtain ⟨y83, hz⟩ := hz
      obtain ⟨y84, hz⟩ := hz
      obtain ⟨y85, hz⟩ := hz
      obtain ⟨y86, hz⟩ := hz
      obtain ⟨y87, hz⟩ := hz
      obtain ⟨y88, hz⟩ := hz
      obtain ⟨y89, hz⟩ := hz
      obtain ⟨y90, hz⟩ := hz
      obtain ⟨y91, hz⟩ := hz
      obtain ⟨y92, hz⟩ := hz
      obtain ⟨y93, hz⟩ := hz
      obtain ⟨y94, hz⟩ := hz
      obtain ⟨y95, hz⟩ := hz
      obtain ⟨y96, hz⟩ := hz
      obtain ⟨y97, hz⟩ := hz
      obtain ⟨y98, hz⟩ := hz
      obtain ⟨y99, hz⟩ := hz
      obtain ⟨y100, hz⟩ := hz
      obtain ⟨y101, hz⟩ := hz
      obtain ⟨y102, hz⟩ := hz
      subst hz
      have S1 := Aside0.mk S1
      have MV := Aside0.mk (HO.out.trans m1)
      clear m1
      go_wp2
      go_roundg (5 - (k + 1))
      case measure => omega
      case rel => exact ⟨k + 1, by omega, by omega, by go_num, ⟨S1.out⟩, ⟨MV.out⟩⟩
    · have hk25 : k = 5 := by omega
      subst hk25
      go_wp2
      exact HX.out _ _ HK.out HO.out ⟨_, _, _, _, _, _, _, _, _, _, _, _, _, _, _, _, _, _, _, _, _, _, _, _, _, _, _, _, _, _, _, _, _, rfl⟩
set_option maxHeartbeats 8000000 in
set_option maxRecDepth 100000 in
theorem permS.chi (g gb : Nat) (a b : List Int) (wr : World) {u0 u2 u3 u4 u5 u6 u7 u8 u10 u11 u13 u14 u15 u16 u17 u18 u19 u20 u21 u22 u23 u24 u25 u26 u27 u28 u29 u30 u31 u32 u33 u34 u35 u36 u37 u38 u39 u40 u41 u42 u43 u44 u45 u46 u47 u48 u49 u50 u51 u52 u53 u54 u55 u56 u57 u58 u59 u60 u61 u62 u63 u64 u65 u66 u67 u68 u69 u70 u71 u72 u73 u74 u75 u76 u77 u78 u79 u80 u81 u82 u83 u84 u85 u86 u87 u88 u89 u90 u91 u92 u93 u94 u95 u96 u97 u98 u99 u100 u101 u102 u103 u104 u105 u106 u107 u108 u109 u110 u111 u112 u113 u114 u115 u116 u117 u118 u119 u120 u121 u122 u123 u124 u125 u126 u127 u128 u129 u130 u131 u132 u133 u134 u135 u136 u137 u138 u139 u140 u141 u142 u143 u144 u145 u146 u147 u148 : Value} {Q : Exit → Act → World → Prop} (ha : a.length = 25) (hbl : b.length = 25) (n1 : gb ≠ g) (hb : Arr wr g 93 .u64 a) (hm : Arr wr gb 93 .u64 b)
    (hexit : ∀ (a' : Act) (w' : World), Arr w' g 93 .u64 (sChi b a 5) → Moved wr w' (fun i => i = g) → (∃ z12 z13 z103 z104 z105 z106 z107 z108 z109 z110 z111 z112 z113 z114 z115 z116 z117 z118 z119 z120 z121 z122 z123 z124 z125 z126 z127 z128 z129 z130 z131 z132 z133 z134 z135 z136 z137 z138 z139 z140 : Value, a' = ⟨List.toArray (u0 :: Value.pointer (some ⟨g, 0, none⟩) :: u2 :: u3 :: u4 :: u5 :: u6 :: u7 :: u8 :: Value.pointer (some ⟨gb, 0, none⟩) :: u10 :: u11 :: z12 :: z13 :: u14 :: u15 :: u16 :: u17 :: u18 :: u19 :: u20 :: u21 :: u22 :: u23 :: u24 :: u25 :: u26 :: u27 :: u28 :: u29 :: u30 :: u31 :: u32 :: u33 :: u34 :: u35 :: u36 :: u37 :: u38 :: u39 :: u40 :: u41 :: u42 :: u43 :: u44 :: u45 :: u46 :: u47 :: u48 :: u49 :: u50 :: u51 :: u52 :: u53 :: u54 :: u55 :: u56 :: u57 :: u58 :: u59 :: u60 :: u61 :: u62 :: u63 :: u64 :: u65 :: u66 :: u67 :: u68 :: u69 :: u70 :: u71 :: u72 :: u73 :: u74 :: u75 :: u76 :: u77 :: u78 :: u79 :: u80 :: u81 :: u82 :: u83 :: u84 :: u85 :: u86 :: u87 :: u88 :: u89 :: u90 :: u91 :: u92 :: u93 :: u94 :: u95 :: u96 :: u97 :: u98 :: u99 :: u100 :: u101 :: u102 :: z103 :: z104 :: z105 :: z106 :: z107 :: z108 :: z109 :: z110 :: z111 :: z112 :: z113 :: z114 :: z115 :: z116 :: z117 :: z118 :: z119 :: z120 :: z121 :: z122 :: z123 :: z124 :: z125 :: z126 :: z127 :: z128 :: z129 :: z130 :: z131 :: z132 :: z133 :: z134 :: z135 :: z136 :: z137 :: z138 :: z139 :: z140 :: u141 :: u142 :: u143 :: u144 :: u145 :: u146 :: u147 :: u148 :: []), []⟩) → Q (.exit 10) a' w') :
    Code.wp Try.prog (nthLoop Try.f81.body 5) Q ⟨List.toArray (u0 :: Value.pointer (some ⟨g, 0, none⟩) :: u2 :: u3 :: u4 :: u5 :: u6 :: u7 :: u8 :: Value.pointer (some ⟨gb, 0, none⟩) :: u10 :: u11 :: Value.int .i64 0 :: u13 :: u14 :: u15 :: u16 :: u17 :: u18 :: u19 :: u20 :: u21 :: u22 :: u23 :: u24 :: u25 :: u26 :: u27 :: u28 :: u29 :: u30 :: u31 :: u32 :: u33 :: u34 :: u35 :: u36 :: u37 :: u38 :: u39 :: u40 :: u41 :: u42 :: u43 :: u44 :: u45 :: u46 :: u47 :: u48 :: u49 :: u50 :: u51 :: u52 :: u53 :: u54 :: u55 :: u56 :: u57 :: u58 :: u59 :: u60 :: u61 :: u62 :: u63 :: u64 :: u65 :: u66 :: u67 :: u68 :: u69 :: u70 :: u71 :: u72 :: u73 :: u74 :: u75 :: u76 :: u77 :: u78 :: u79 :: u80 :: u81 :: u82 :: u83 :: u84 :: u85 :: u86 :: u87 :: u88 :: u89 :: u90 :: u91 :: u92 :: u93 :: u94 :: u95 :: u96 :: u97 :: u98 :: u99 :: u100 :: u101 :: u102 :: u103 :: u104 :: u105 :: u106 :: u107 :: u108 :: u109 :: u110 :: u111 :: u112 :: u113 :: u114 :: u115 :: u116 :: u117 :: u118 :: u119 :: u120 :: u121 :: u122 :: u123 :: u124 :: u125 :: u126 :: u127 :: u128 :: u129 :: u130 :: u131 :: u132 :: u133 :: u134 :: u135 :: u136 :: u137 :: u138 :: u139 :: u140 :: u141 :: u142 :: u143 :: u144 :: u145 :: u146 :: u147 :: u148 :: []), []⟩ wr := by
  conv => arg 2; whnf
  have HB := Aside0.mk hb
  have HM := Aside0.mk hm
  have HX := Aside0.mk hexit
  clear hb hexit hm
  go_loopg [12] 5 (fun gg s12 w' => ∃ k : Nat, k ≤ 5 ∧ 5 - k ≤ gg ∧ s12 = .int .i64 k ∧ Aside0 (Arr w' g 93 .u64 (sChi b a k)) ∧ Aside0 (Moved wr w' (fun i => i = g)))
  case atStart => exact ⟨0, by omega, by omega, rfl, HB, ⟨Moved.refl _ _⟩⟩
  case round =>
    obtain ⟨k, hk, hg, rfl, HK, HO⟩ := hrel
    by_cases hlt : k < 5
    · have hltz : (k : Int) < 5 := by omega
      have h0z : (0 : Int) ≤ (k : Int) := by omega
      have HG := Aside0.mk (HM.out.moved HO.out (fun e => n1 e))
      go_wp2
      refine permS.chiIn g gb k (sChi b a k) b wr (by rw [sChi_length]; exact ha) hbl hlt n1 HK.out HG.out ?_
      intro a2 W2 S1 m1 hz
      obtain ⟨y13, hz⟩ := hz
      obtain ⟨y107, hz⟩ := hz
      obtain ⟨y108, hz⟩ := hz
      obtain ⟨y109, hz⟩ := hz
      obtain ⟨y110, hz⟩ := hz
      obtain ⟨y111, hz⟩ := hz
      obtain ⟨y112, hz⟩ := hz
      obtain ⟨y113, hz⟩ := hz
      obtain ⟨y114, hz⟩ := hz
      obtain ⟨y115, hz⟩ := hz
      obtain ⟨y116, hz⟩ := hz
      obtain ⟨y117, hz⟩ := hz
      obtain ⟨y118, hz⟩ := hz
      obtain ⟨y119, hz⟩ := hz
      obtain ⟨y120, hz⟩ := hz
      obtain ⟨y121, hz⟩ := hz
      obtain ⟨y122, hz⟩ := hz
      obtain ⟨y123, hz⟩ := hz
      obtain ⟨y124, hz⟩ := hz
      obtain ⟨y125, hz⟩ := hz
      obtain ⟨y126, hz⟩ := hz
      obtain ⟨y127, hz⟩ := hz
      obtain ⟨y128, hz⟩ := hz
      obtain ⟨y129, hz⟩ := hz
      obtain ⟨y130, hz⟩ := hz
      obtain ⟨y131, hz⟩ := hz
      obtain ⟨y132, hz⟩ := hz
      obtain ⟨y133, hz⟩ := hz
      obtain ⟨y134, hz⟩ := hz
      obtain ⟨y135, hz⟩ := hz
      obtain ⟨y136, hz⟩ := hz
      obtain ⟨y137, hz⟩ := hz
      obtain ⟨y138, hz⟩ := hz
      obtain ⟨y139, hz⟩ := hz
      obtain ⟨y140, hz⟩ := hz
      subst hz
      have S1 := Aside0.mk S1
      have MV := Aside0.mk (HO.out.trans m1)
      clear m1
      go_wp2
      go_roundg (5 - (k + 1))
      case measure => omega
      case rel => exact ⟨k + 1, by omega, by omega, by go_num, ⟨S1.out⟩, ⟨MV.out⟩⟩
    · have hk25 : k = 5 := by omega
      subst hk25
      go_wp2
      exact HX.out _ _ HK.out HO.out ⟨_, _, _, _, _, _, _, _, _, _, _, _, _, _, _, _, _, _, _, _, _, _, _, _, _, _, _, _, _, _, _, _, _, _, _, _, _, _, _, _, rfl⟩
set_option maxHeartbeats 8000000 in
set_option maxRecDepth 100000 in
theorem permS.rounds (g gr gh : Nat) (a : List Int) (wr' : World) {u0 u2 u6 u7 u8 u9 u10 u11 u12 u13 u14 u15 u16 u17 u18 u19 u20 u21 u22 u23 u24 u25 u26 u27 u28 u29 u30 u31 u32 u33 u34 u35 u36 u37 u38 u39 u40 u41 u42 u43 u44 u45 u46 u47 u48 u49 u50 u51 u52 u53 u54 u55 u56 u57 u58 u59 u60 u61 u62 u63 u64 u65 u66 u67 u68 u69 u70 u71 u72 u73 u74 u75 u76 u77 u78 u79 u80 u81 u82 u83 u84 u85 u86 u87 u88 u89 u90 u91 u92 u93 u94 u95 u96 u97 u98 u99 u100 u101 u102 u103 u104 u105 u106 u107 u108 u109 u110 u111 u112 u113 u114 u115 u116 u117 u118 u119 u120 u121 u122 u123 u124 u125 u126 u127 u128 u129 u130 u131 u132 u133 u134 u135 u136 u137 u138 u139 u140 u141 u142 u143 u144 u145 u146 u147 u148 : Value} {Q : Exit → Act → World → Prop} (ha : a.length = 25) (h1 : gh ≠ g) (h2 : gr ≠ g) (hb : Arr wr' g 93 .u64 a) (hr : Arr wr' gr 145 .u64 kConsts) (hh : Arr wr' gh 147 .u64 kShifts)
    (hexit : ∀ (a' : Act) (w' : World), Arr w' g 93 .u64 (sPerm a 24) → Moved wr' w' (fun i => i = g) → (∃ z5 z6 z7 z8 z9 z10 z11 z12 z13 z16 z17 z18 z19 z20 z21 z22 z23 z24 z25 z26 z27 z28 z29 z30 z31 z32 z33 z34 z35 z36 z37 z38 z39 z40 z41 z42 z43 z44 z45 z46 z47 z48 z49 z50 z51 z52 z53 z54 z55 z56 z57 z58 z59 z60 z61 z62 z63 z64 z65 z66 z67 z68 z69 z70 z71 z72 z73 z74 z75 z76 z77 z78 z79 z80 z81 z82 z83 z84 z85 z86 z87 z88 z89 z90 z91 z92 z93 z94 z95 z96 z97 z98 z99 z100 z101 z102 z103 z104 z105 z106 z107 z108 z109 z110 z111 z112 z113 z114 z115 z116 z117 z118 z119 z120 z121 z122 z123 z124 z125 z126 z127 z128 z129 z130 z131 z132 z133 z134 z135 z136 z137 z138 z139 z140 z141 z142 z143 z144 z145 z146 z147 : Value, a' = ⟨List.toArray (u0 :: Value.pointer (some ⟨g, 0, none⟩) :: u2 :: Value.pointer (some ⟨gr, 0, none⟩) :: Value.pointer (some ⟨gh, 0, none⟩) :: z5 :: z6 :: z7 :: z8 :: z9 :: z10 :: z11 :: z12 :: z13 :: u14 :: u15 :: z16 :: z17 :: z18 :: z19 :: z20 :: z21 :: z22 :: z23 :: z24 :: z25 :: z26 :: z27 :: z28 :: z29 :: z30 :: z31 :: z32 :: z33 :: z34 :: z35 :: z36 :: z37 :: z38 :: z39 :: z40 :: z41 :: z42 :: z43 :: z44 :: z45 :: z46 :: z47 :: z48 :: z49 :: z50 :: z51 :: z52 :: z53 :: z54 :: z55 :: z56 :: z57 :: z58 :: z59 :: z60 :: z61 :: z62 :: z63 :: z64 :: z65 :: z66 :: z67 :: z68 :: z69 :: z70 :: z71 :: z72 :: z73 :: z74 :: z75 :: z76 :: z77 :: z78 :: z79 :: z80 :: z81 :: z82 :: z83 :: z84 :: z85 :: z86 :: z87 :: z88 :: z89 :: z90 :: z91 :: z92 :: z93 :: z94 :: z95 :: z96 :: z97 :: z98 :: z99 :: z100 :: z101 :: z102 :: z103 :: z104 :: z105 :: z106 :: z107 :: z108 :: z109 :: z110 :: z111 :: z112 :: z113 :: z114 :: z115 :: z116 :: z117 :: z118 :: z119 :: z120 :: z121 :: z122 :: z123 :: z124 :: z125 :: z126 :: z127 :: z128 :: z129 :: z130 :: z131 :: z132 :: z133 :: z134 :: z135 :: z136 :: z137 :: z138 :: z139 :: z140 :: z141 :: z142 :: z143 :: z144 :: z145 :: z146 :: z147 :: u148 :: []), []⟩) → Q (.exit 0) a' w') :
    Code.wp Try.prog (nthLoop Try.f81.body 0) Q ⟨List.toArray (u0 :: Value.pointer (some ⟨g, 0, none⟩) :: u2 :: Value.pointer (some ⟨gr, 0, none⟩) :: Value.pointer (some ⟨gh, 0, none⟩) :: Value.int .i64 0 :: u6 :: u7 :: u8 :: u9 :: u10 :: u11 :: u12 :: u13 :: u14 :: u15 :: u16 :: u17 :: u18 :: u19 :: u20 :: u21 :: u22 :: u23 :: u24 :: u25 :: u26 :: u27 :: u28 :: u29 :: u30 :: u31 :: u32 :: u33 :: u34 :: u35 :: u36 :: u37 :: u38 :: u39 :: u40 :: u41 :: u42 :: u43 :: u44 :: u45 :: u46 :: u47 :: u48 :: u49 :: u50 :: u51 :: u52 :: u53 :: u54 :: u55 :: u56 :: u57 :: u58 :: u59 :: u60 :: u61 :: u62 :: u63 :: u64 :: u65 :: u66 :: u67 :: u68 :: u69 :: u70 :: u71 :: u72 :: u73 :: u74 :: u75 :: u76 :: u77 :: u78 :: u79 :: u80 :: u81 :: u82 :: u83 :: u84 :: u85 :: u86 :: u87 :: u88 :: u89 :: u90 :: u91 :: u92 :: u93 :: u94 :: u95 :: u96 :: u97 :: u98 :: u99 :: u100 :: u101 :: u102 :: u103 :: u104 :: u105 :: u106 :: u107 :: u108 :: u109 :: u110 :: u111 :: u112 :: u113 :: u114 :: u115 :: u116 :: u117 :: u118 :: u119 :: u120 :: u121 :: u122 :: u123 :: u124 :: u125 :: u126 :: u127 :: u128 :: u129 :: u130 :: u131 :: u132 :: u133 :: u134 :: u135 :: u136 :: u137 :: u138 :: u139 :: u140 :: u141 :: u142 :: u143 :: u144 :: u145 :: u146 :: u147 :: u148 :: []), []⟩ wr' := by
  conv => arg 2; whnf
  have HB := Aside0.mk hb
  have HR := Aside0.mk hr
  have HH := Aside0.mk hh
  have HX := Aside0.mk hexit
  clear hb hexit hh hr
  go_loopg [5] 24 (fun gg s5 w' => ∃ k : Nat, k ≤ 24 ∧ 24 - k ≤ gg ∧ s5 = .int .i64 k ∧ Aside0 (Arr w' g 93 .u64 (sPerm a k)) ∧ Aside0 (Moved wr' w' (fun i => i = g)))
  case atStart => exact ⟨0, by omega, by omega, rfl, HB, ⟨Moved.refl _ _⟩⟩
  case round =>
    obtain ⟨k, hk, hg, rfl, HK, HO⟩ := hrel
    by_cases hlt : k < 24
    · have hltz : (k : Int) < 24 := by omega
      have h0z : (0 : Int) ≤ (k : Int) := by omega
      have AH := HH.out.moved HO.out (fun e => h1 e)
      have AR := HR.out.moved HO.out (fun e => h2 e)
      go_upto_region 6 with fail
      apply wp_region_lit
      refine wpList_buildTo rfl 149 _ rfl (some 20) rfl z5 (by kernel_rfl) ?_
      refine Go.Great.wpList_allocTo rfl (some 6) rfl (.pointer (some ⟨wr.heap.size, 0, none⟩)) (.cells z5 149) (by kernel_rfl) ?_
      refine wpList_store_rowTo rfl 149 _ _ rfl rfl wr.heap.size z5 (by kernel_rfl) (by kernel_rfl) 149 z5 (blk_new _ _) (by kernel_rfl) rfl (by kernel_rfl) ?_
      rw [setRow_self _ _ _ _ _ (blk_new _ _)]
      refine wpList_frame (a' := ⟨List.toArray (u0 :: Value.pointer (some ⟨g, 0, none⟩) :: u2 :: Value.pointer (some ⟨gr, 0, none⟩) :: Value.pointer (some ⟨gh, 0, none⟩) :: Value.int .i64 (k : Int) :: Value.pointer (some ⟨wr.heap.size, 0, none⟩) :: u7 :: u8 :: u9 :: u10 :: u11 :: u12 :: u13 :: u14 :: u15 :: Value.int .i64 (k : Int) :: Value.bool true :: u18 :: u19 :: Value.agg z5 :: u21 :: u22 :: u23 :: u24 :: u25 :: u26 :: u27 :: u28 :: u29 :: u30 :: u31 :: u32 :: u33 :: u34 :: u35 :: u36 :: u37 :: u38 :: u39 :: u40 :: u41 :: u42 :: u43 :: u44 :: u45 :: u46 :: u47 :: u48 :: u49 :: u50 :: u51 :: u52 :: u53 :: u54 :: u55 :: u56 :: u57 :: u58 :: u59 :: u60 :: u61 :: u62 :: u63 :: u64 :: u65 :: u66 :: u67 :: u68 :: u69 :: u70 :: u71 :: u72 :: u73 :: u74 :: u75 :: u76 :: u77 :: u78 :: u79 :: u80 :: u81 :: u82 :: u83 :: u84 :: u85 :: u86 :: u87 :: u88 :: u89 :: u90 :: u91 :: u92 :: u93 :: u94 :: u95 :: u96 :: u97 :: u98 :: u99 :: u100 :: u101 :: u102 :: u103 :: u104 :: u105 :: u106 :: u107 :: u108 :: u109 :: u110 :: u111 :: u112 :: u113 :: u114 :: u115 :: u116 :: u117 :: u118 :: u119 :: u120 :: u121 :: u122 :: u123 :: u124 :: u125 :: u126 :: u127 :: u128 :: u129 :: u130 :: u131 :: u132 :: u133 :: u134 :: u135 :: u136 :: u137 :: u138 :: u139 :: u140 :: u141 :: u142 :: u143 :: u144 :: u145 :: u146 :: u147 :: u148 :: []), []⟩) (by kernel_rfl) ?_
      apply wpList_nil
      have A1 : Arr (wr.alloc (.cells z5 149)) wr.heap.size 149 .u64 (sSums (sPerm a k) 0) := blk_new _ _
      have AG : Arr (wr.alloc (.cells z5 149)) g 93 .u64 (sPerm a k) := HK.out.alloc _
      have AH := AH.alloc (.cells z5 149)
      have AR := AR.alloc (.cells z5 149)
      have MV := HO.out.alloc (.cells z5 149)
      have g1 : g < wr.heap.size := HK.out.lt
      have g2 : gh < wr.heap.size := (HH.out.moved HO.out (fun e => h1 e)).lt
      have g3 : gr < wr.heap.size := (HR.out.moved HO.out (fun e => h2 e)).lt
      have g4 : wr'.heap.size ≤ wr.heap.size := HO.out.1
      have g5 : wr.heap.size < (wr.alloc (.cells z5 149)).heap.size := A1.lt
      generalize (wr.alloc (.cells z5 149)) = W1 at A1 AG AH AR MV g5 ⊢
      generalize wr.heap.size = gs at A1 g1 g2 g3 g4 g5 ⊢
      have hl : (sPerm a k).length = 25 := by rw [sPerm_length]; exact ha
      clear HK HO
      have n1 : gs ≠ g := by omega
      have n2 : gs ≠ gh := by omega
      have n3 : gs ≠ gr := by omega
      have A1 := Aside0.mk A1
      have AG := Aside0.mk AG
      have AH := Aside0.mk AH
      have AR := Aside0.mk AR
      have MV := Aside0.mk MV
      clear g1 g2 g3
      go_wp2
      refine permS.sums g gs (sPerm a k) W1 hl n1 AG.out A1.out ?_
      intro a2 W2 S1 m1 hz
      obtain ⟨y7, hz⟩ := hz
      obtain ⟨y21, hz⟩ := hz
      obtain ⟨y22, hz⟩ := hz
      obtain ⟨y23, hz⟩ := hz
      obtain ⟨y24, hz⟩ := hz
      obtain ⟨y25, hz⟩ := hz
      obtain ⟨y26, hz⟩ := hz
      obtain ⟨y27, hz⟩ := hz
      obtain ⟨y28, hz⟩ := hz
      obtain ⟨y29, hz⟩ := hz
      obtain ⟨y30, hz⟩ := hz
      obtain ⟨y31, hz⟩ := hz
      obtain ⟨y32, hz⟩ := hz
      obtain ⟨y33, hz⟩ := hz
      obtain ⟨y34, hz⟩ := hz
      obtain ⟨y35, hz⟩ := hz
      obtain ⟨y36, hz⟩ := hz
      obtain ⟨y37, hz⟩ := hz
      obtain ⟨y38, hz⟩ := hz
      obtain ⟨y39, hz⟩ := hz
      obtain ⟨y40, hz⟩ := hz
      obtain ⟨y41, hz⟩ := hz
      obtain ⟨y42, hz⟩ := hz
      obtain ⟨y43, hz⟩ := hz
      obtain ⟨y44, hz⟩ := hz
      obtain ⟨y45, hz⟩ := hz
      obtain ⟨y46, hz⟩ := hz
      obtain ⟨y47, hz⟩ := hz
      obtain ⟨y48, hz⟩ := hz
      obtain ⟨y49, hz⟩ := hz
      subst hz
      have AG := Aside0.mk (AG.out.moved m1 (fun e => n1 e.symm))
      have AH := Aside0.mk (AH.out.moved m1 (fun e => n2 e.symm))
      have AR := Aside0.mk (AR.out.moved m1 (fun e => n3 e.symm))
      have MV := Aside0.mk (MV.out.trans_new m1 (fun i e => .inr (e ▸ g4)))
      have g5 : gs < W2.heap.size := Nat.lt_of_lt_of_le g5 m1.1
      have S1 := Aside0.mk S1
      clear m1 A1
      go_wp2
      refine permS.theta g gs (sPerm a k) (sSums (sPerm a k) 5) W2 hl (sSums_length _ _) n1 AG.out S1.out ?_
      intro a3 W3 S2 m2 hz
      obtain ⟨x8, hz⟩ := hz
      obtain ⟨x50, hz⟩ := hz
      obtain ⟨x51, hz⟩ := hz
      obtain ⟨x52, hz⟩ := hz
      obtain ⟨x53, hz⟩ := hz
      obtain ⟨x54, hz⟩ := hz
      obtain ⟨x55, hz⟩ := hz
      obtain ⟨x56, hz⟩ := hz
      obtain ⟨x57, hz⟩ := hz
      obtain ⟨x58, hz⟩ := hz
      obtain ⟨x59, hz⟩ := hz
      obtain ⟨x60, hz⟩ := hz
      obtain ⟨x61, hz⟩ := hz
      obtain ⟨x62, hz⟩ := hz
      obtain ⟨x63, hz⟩ := hz
      obtain ⟨x64, hz⟩ := hz
      obtain ⟨x65, hz⟩ := hz
      obtain ⟨x66, hz⟩ := hz
      obtain ⟨x67, hz⟩ := hz
      obtain ⟨x68, hz⟩ := hz
      obtain ⟨x69, hz⟩ := hz
      obtain ⟨x70, hz⟩ := hz
      subst hz
      have AH := AH.out.moved m2 (fun e => h1 e)
      have AR := AR.out.moved m2 (fun e => h2 e)
      have MV := MV.out.trans_new m2 (fun i e => .inl e)
      have g5 : gs < W3.heap.size := Nat.lt_of_lt_of_le g5 m2.1
      clear m2 AG S1
      have hl2 : (sTheta (sSums (sPerm a k) 5) (sPerm a k) 25).length = 25 := by rw [sTheta_length]; exact hl
      go_upto_region 15 with fail
      apply wp_region_lit
      refine wpList_buildTo rfl 93 _ rfl (some 71) rfl z25 (by kernel_rfl) ?_
      refine Go.Great.wpList_allocTo rfl (some 9) rfl (.pointer (some ⟨W3.heap.size, 0, none⟩)) (.cells z25 93) (by kernel_rfl) ?_
      refine wpList_store_rowTo rfl 93 _ _ rfl rfl W3.heap.size z25 (by kernel_rfl) (by kernel_rfl) 93 z25 (blk_new _ _) (by kernel_rfl) rfl (by kernel_rfl) ?_
      rw [setRow_self _ _ _ _ _ (blk_new _ _)]
      refine wpList_frame (a' := ⟨List.toArray (u0 :: Value.pointer (some ⟨g, 0, none⟩) :: u2 :: Value.pointer (some ⟨gr, 0, none⟩) :: Value.pointer (some ⟨gh, 0, none⟩) :: Value.int .i64 (k : Int) :: Value.pointer (some ⟨gs, 0, none⟩) :: y7 :: x8 :: Value.pointer (some ⟨W3.heap.size, 0, none⟩) :: u10 :: u11 :: u12 :: u13 :: u14 :: u15 :: Value.int .i64 (k : Int) :: Value.bool true :: u18 :: u19 :: Value.agg z5 :: y21 :: y22 :: y23 :: y24 :: y25 :: y26 :: y27 :: y28 :: y29 :: y30 :: y31 :: y32 :: y33 :: y34 :: y35 :: y36 :: y37 :: y38 :: y39 :: y40 :: y41 :: y42 :: y43 :: y44 :: y45 :: y46 :: y47 :: y48 :: y49 :: x50 :: x51 :: x52 :: x53 :: x54 :: x55 :: x56 :: x57 :: x58 :: x59 :: x60 :: x61 :: x62 :: x63 :: x64 :: x65 :: x66 :: x67 :: x68 :: x69 :: x70 :: Value.agg z25 :: u72 :: u73 :: u74 :: u75 :: u76 :: u77 :: u78 :: u79 :: u80 :: u81 :: u82 :: u83 :: u84 :: u85 :: u86 :: u87 :: u88 :: u89 :: u90 :: u91 :: u92 :: u93 :: u94 :: u95 :: u96 :: u97 :: u98 :: u99 :: u100 :: u101 :: u102 :: u103 :: u104 :: u105 :: u106 :: u107 :: u108 :: u109 :: u110 :: u111 :: u112 :: u113 :: u114 :: u115 :: u116 :: u117 :: u118 :: u119 :: u120 :: u121 :: u122 :: u123 :: u124 :: u125 :: u126 :: u127 :: u128 :: u129 :: u130 :: u131 :: u132 :: u133 :: u134 :: u135 :: u136 :: u137 :: u138 :: u139 :: u140 :: u141 :: u142 :: u143 :: u144 :: u145 :: u146 :: u147 :: u148 :: []), []⟩) (by kernel_rfl) ?_
      apply wpList_nil
      have A1 : Arr (W3.alloc (.cells z25 93)) W3.heap.size 93 .u64 (sMoved (sTheta (sSums (sPerm a k) 5) (sPerm a k) 25) 0) := blk_new _ _
      have AG : Arr (W3.alloc (.cells z25 93)) g 93 .u64 (sTheta (sSums (sPerm a k) 5) (sPerm a k) 25) := S2.alloc _
      have n4 : W3.heap.size ≠ g := by have := S2.lt; omega
      have n5 : W3.heap.size ≠ gh := by have := AH.lt; omega
      have n6 : W3.heap.size ≠ gr := by have := AR.lt; omega
      have o2 : wr'.heap.size ≤ W3.heap.size := MV.1
      have AH := AH.alloc (.cells z25 93)
      have AR := AR.alloc (.cells z25 93)
      have MV := MV.alloc (.cells z25 93)
      clear S2
      generalize (W3.alloc (.cells z25 93)) = W4 at A1 AG AH AR MV ⊢
      generalize W3.heap.size = gb at A1 n4 n5 n6 o2 g5 ⊢
      have A1 := Aside0.mk A1
      have AG := Aside0.mk AG
      have AH := Aside0.mk AH
      have AR := Aside0.mk AR
      have MV := Aside0.mk MV
      clear g5
      go_wp2
      refine permS.move g gh gb _ W4 hl2 n4 n5 AG.out AH.out A1.out ?_
      intro a5 W5 S3 m3 hz
      obtain ⟨v10, hz⟩ := hz
      obtain ⟨v11, hz⟩ := hz
      obtain ⟨v72, hz⟩ := hz
      obtain ⟨v73, hz⟩ := hz
      obtain ⟨v74, hz⟩ := hz
      obtain ⟨v75, hz⟩ := hz
      obtain ⟨v76, hz⟩ := hz
      obtain ⟨v77, hz⟩ := hz
      obtain ⟨v78, hz⟩ := hz
      obtain ⟨v79, hz⟩ := hz
      obtain ⟨v80, hz⟩ := hz
      obtain ⟨v81, hz⟩ := hz
      obtain ⟨v82, hz⟩ := hz
      obtain ⟨v83, hz⟩ := hz
      obtain ⟨v84, hz⟩ := hz
      obtain ⟨v85, hz⟩ := hz
      obtain ⟨v86, hz⟩ := hz
      obtain ⟨v87, hz⟩ := hz
      obtain ⟨v88, hz⟩ := hz
      obtain ⟨v89, hz⟩ := hz
      obtain ⟨v90, hz⟩ := hz
      obtain ⟨v91, hz⟩ := hz
      obtain ⟨v92, hz⟩ := hz
      obtain ⟨v93, hz⟩ := hz
      obtain ⟨v94, hz⟩ := hz
      obtain ⟨v95, hz⟩ := hz
      obtain ⟨v96, hz⟩ := hz
      obtain ⟨v97, hz⟩ := hz
      obtain ⟨v98, hz⟩ := hz
      obtain ⟨v99, hz⟩ := hz
      obtain ⟨v100, hz⟩ := hz
      obtain ⟨v101, hz⟩ := hz
      obtain ⟨v102, hz⟩ := hz
      subst hz
      have AG := Aside0.mk (AG.out.moved m3 (fun e => n4 e.symm))
      have AR := Aside0.mk (AR.out.moved m3 (fun e => n6 e.symm))
      have MV := Aside0.mk (MV.out.trans_new m3 (fun i e => .inr (e ▸ o2)))
      have S3 := Aside0.mk S3
      clear m3 AH A1
      go_wp2
      refine permS.chi g gb _ _ W5 hl2 (sMoved_length _ _) n4 AG.out S3.out ?_
      intro a6 W6 S4 m4 hz
      obtain ⟨t12, hz⟩ := hz
      obtain ⟨t13, hz⟩ := hz
      obtain ⟨t103, hz⟩ := hz
      obtain ⟨t104, hz⟩ := hz
      obtain ⟨t105, hz⟩ := hz
      obtain ⟨t106, hz⟩ := hz
      obtain ⟨t107, hz⟩ := hz
      obtain ⟨t108, hz⟩ := hz
      obtain ⟨t109, hz⟩ := hz
      obtain ⟨t110, hz⟩ := hz
      obtain ⟨t111, hz⟩ := hz
      obtain ⟨t112, hz⟩ := hz
      obtain ⟨t113, hz⟩ := hz
      obtain ⟨t114, hz⟩ := hz
      obtain ⟨t115, hz⟩ := hz
      obtain ⟨t116, hz⟩ := hz
      obtain ⟨t117, hz⟩ := hz
      obtain ⟨t118, hz⟩ := hz
      obtain ⟨t119, hz⟩ := hz
      obtain ⟨t120, hz⟩ := hz
      obtain ⟨t121, hz⟩ := hz
      obtain ⟨t122, hz⟩ := hz
      obtain ⟨t123, hz⟩ := hz
      obtain ⟨t124, hz⟩ := hz
      obtain ⟨t125, hz⟩ := hz
      obtain ⟨t126, hz⟩ := hz
      obtain ⟨t127, hz⟩ := hz
      obtain ⟨t128, hz⟩ := hz
      obtain ⟨t129, hz⟩ := hz
      obtain ⟨t130, hz⟩ := hz
      obtain ⟨t131, hz⟩ := hz
      obtain ⟨t132, hz⟩ := hz
      obtain ⟨t133, hz⟩ := hz
      obtain ⟨t134, hz⟩ := hz
      obtain ⟨t135, hz⟩ := hz
      obtain ⟨t136, hz⟩ := hz
      obtain ⟨t137, hz⟩ := hz
      obtain ⟨t138, hz⟩ := hz
      obtain ⟨t139, hz⟩ := hz
      obtain ⟨t140, hz⟩ := hz
      subst hz
      have AR := AR.out.moved m4 (fun e => h2 e)
      have MV := Aside0.mk (MV.out.trans_new m4 (fun i e => .inl e))
      have S4' : Arr W6 g 93 .u64 (sMix (sPerm a k)) := S4
      have q0 := S4'.cell 0 (by rw [sMix_length]; omega)
      have f0 := S4'.frozen 0
      have q1 := AR.cell k (by show k < 24; exact hlt)
      obtain ⟨v0, hv0⟩ : ∃ v, v = (sMix (sPerm a k)).getD 0 0 := ⟨_, rfl⟩
      obtain ⟨c0, hc0⟩ : ∃ v, v = kConsts.getD k 0 := ⟨_, rfl⟩
      rw [← hv0] at q0
      rw [← hc0] at q1
      have HV0 := Aside0.mk hv0
      have HC0 := Aside0.mk hc0
      have S4 := Aside0.mk S4'
      clear m4 AG S4' S3 hv0 hc0 AR hl2 hlt
      go_wp2
      refine wp_region_still_tail 7 (by kernel_rfl) (by kernel_rfl) ?_
      show wpStill _ _ (World.drew _) (fun a' => wpList _ _ _ _ a' (World.drew _)) _ _
      simp only [List.take_succ_cons, List.take_zero, List.drop_succ_cons, List.drop_zero]
      repeat still_step
      refine wpStill_nil ?_
      go_wp2
      go_roundg (24 - (k + 1))
      case measure => omega
      case rel => exact ⟨k + 1, by omega, by omega, by go_num, ⟨by rw [HV0.out, HC0.out]; exact (S4.out.set 0 _).drew⟩, ⟨(MV.out.set g _ _ (.inl rfl)).drew⟩⟩
    · have hk25 : k = 24 := by omega
      subst hk25
      go_wp2
      exact HX.out _ _ HK.out HO.out ⟨_, _, _, _, _, _, _, _, _, _, _, _, _, _, _, _, _, _, _, _, _, _, _, _, _, _, _, _, _, _, _, _, _, _, _, _, _, _, _, _, _, _, _, _, _, _, _, _, _, _, _, _, _, _, _, _, _, _, _, _, _, _, _, _, _, _, _, _, _, _, _, _, _, _, _, _, _, _, _, _, _, _, _, _, _, _, _, _, _, _, _, _, _, _, _, _, _, _, _, _, _, _, _, _, _, _, _, _, _, _, _, _, _, _, _, _, _, _, _, _, _, _, _, _, _, _, _, _, _, _, _, _, _, _, _, _, _, _, _, _, _, rfl⟩
end Go.Proofs.Ytlogocmojnhpbaa.Print
/- The contract of the reference's permutation: what it answers. -/
namespace Go.Proofs.Ytlogocmojnhpbaa.Print
open Go.RowKit Go.Proofs.YtlogocmojnhpbaaW.PrintWords
set_option linter.unusedVariables false
set_option linter.unusedSimpArgs false
def zShiftsU : Array Value := (nums .u64 kShifts).toArray
def n25u : Array Value := (nums .u64 (List.replicate 25 0)).toArray
set_option maxHeartbeats 8000000 in
set_option maxRecDepth 100000 in
theorem roundsS.calls (w : World) : Calls Try.prog 138 #[] w fun e w' => e = .returned (.agg zConsts) ∧ w' = w.alloc (.cells zConsts 145) := by
  go_enter Try.func138, Try.ntmps138
  go_upto_region 0 with fail
  apply wp_region_lit
  refine Go.Great.wpList_allocTo rfl (some 0) rfl (.pointer (some ⟨w.heap.size, 0, none⟩)) (.cells n24 145) (by kernel_rfl) ?_
  refine wpList_frame (a' := ⟨List.toArray (Value.pointer (some ⟨w.heap.size, 0, none⟩) :: undef :: []), []⟩) (by kernel_rfl) ?_
  apply wpList_nil
  go_upto_region 1 with fail
  apply wp_region_lit
  refine wpList_buildTo rfl 145 _ rfl (some 1) rfl zConsts (by kernel_rfl) ?_
  refine wpList_store_rowTo rfl 145 _ _ rfl rfl w.heap.size zConsts (by kernel_rfl) (by kernel_rfl) 145 n24 (blk_new _ _) (by kernel_rfl) rfl (by kernel_rfl) ?_
  rw [setRow_new]
  refine wpList_frame (a' := ⟨List.toArray (Value.pointer (some ⟨w.heap.size, 0, none⟩) :: Value.agg zConsts :: []), []⟩) (by kernel_rfl) ?_
  apply wpList_nil
  have A := blk_new w (.cells zConsts 145)
  generalize hW : w.alloc (.cells zConsts 145) = W1 at A ⊢
  go_wp2
  refine bodyPost_ret (results_cell_row rfl _ _ w.heap.size 145 zConsts (0, 0) _ rfl A Try.underlying145 rfl (by kernel_rfl)) rfl ?_
  exact ⟨rfl, hW.symm⟩
set_option maxHeartbeats 8000000 in
set_option maxRecDepth 100000 in
theorem shiftsS.calls (w : World) : Calls Try.prog 139 #[] w fun e w' => e = .returned (.agg zShiftsU) ∧ w' = w.alloc (.cells zShiftsU 147) := by
  go_enter Try.func139, Try.ntmps139
  go_upto_region 0 with fail
  apply wp_region_lit
  refine Go.Great.wpList_allocTo rfl (some 0) rfl (.pointer (some ⟨w.heap.size, 0, none⟩)) (.cells n25u 147) (by kernel_rfl) ?_
  refine wpList_frame (a' := ⟨List.toArray (Value.pointer (some ⟨w.heap.size, 0, none⟩) :: undef :: []), []⟩) (by kernel_rfl) ?_
  apply wpList_nil
  go_upto_region 1 with fail
  apply wp_region_lit
  refine wpList_buildTo rfl 147 _ rfl (some 1) rfl zShiftsU (by kernel_rfl) ?_
  refine wpList_store_rowTo rfl 147 _ _ rfl rfl w.heap.size zShiftsU (by kernel_rfl) (by kernel_rfl) 147 n25u (blk_new _ _) (by kernel_rfl) rfl (by kernel_rfl) ?_
  rw [setRow_new]
  refine wpList_frame (a' := ⟨List.toArray (Value.pointer (some ⟨w.heap.size, 0, none⟩) :: Value.agg zShiftsU :: []), []⟩) (by kernel_rfl) ?_
  apply wpList_nil
  have A := blk_new w (.cells zShiftsU 147)
  generalize hW : w.alloc (.cells zShiftsU 147) = W1 at A ⊢
  go_wp2
  refine bodyPost_ret (results_cell_row rfl _ _ w.heap.size 147 zShiftsU (0, 0) _ rfl A Try.underlying147 rfl (by kernel_rfl)) rfl ?_
  exact ⟨rfl, hW.symm⟩
set_option maxHeartbeats 8000000 in
set_option maxRecDepth 100000 in
theorem permS.calls (a : List Int) (w : World) (ha : a.length = 25) :
    Calls Try.prog 81 #[.agg (nums .u64 a).toArray] w fun e w' => e = .returned (.agg (nums .u64 (sPerm a 24)).toArray) ∧ Below w.heap.size w w' := by
  obtain ⟨V, hV⟩ : ∃ V, V = (nums .u64 a).toArray := ⟨_, rfl⟩
  have hVl : V.size = 25 := by rw [hV]; simp [nums, ha]
  rw [← hV]
  go_enter Try.func81, Try.ntmps81
  go_upto_region 0 with fail
  apply wp_region_lit
  refine Go.Great.wpList_allocTo rfl (some 1) rfl (.pointer (some ⟨w.heap.size, 0, none⟩)) (.cells V 93) (by kernel_rfl) ?_
  refine Go.Great.wpList_allocTo rfl (some 2) rfl (.pointer (some ⟨(w.alloc (.cells V 93)).heap.size, 0, none⟩)) (.cells n25u 93) (by kernel_rfl) ?_
  refine wpList_frame (a' := ⟨List.toArray (Value.agg V :: Value.pointer (some ⟨w.heap.size, 0, none⟩) :: Value.pointer (some ⟨(w.alloc (Obj.cells V 93)).heap.size, 0, none⟩) :: undef :: undef :: undef :: undef :: undef :: undef :: undef :: undef :: undef :: undef :: undef :: undef :: undef :: undef :: undef :: undef :: undef :: undef :: undef :: undef :: undef :: undef :: undef :: undef :: undef :: undef :: undef :: undef :: undef :: undef :: undef :: undef :: undef :: undef :: undef :: undef :: undef :: undef :: undef :: undef :: undef :: undef :: undef :: undef :: undef :: undef :: undef :: undef :: undef :: undef :: undef :: undef :: undef :: undef :: undef :: undef :: undef :: undef :: undef :: undef :: undef :: undef :: undef :: undef :: undef :: undef :: undef :: undef :: undef :: undef :: undef :: undef :: undef :: undef :: undef :: undef :: undef :: undef :: undef :: undef :: undef :: undef :: undef :: undef :: undef :: undef :: undef :: undef :: undef :: undef :: undef :: undef :: undef :: undef :: undef :: undef :: undef :: undef :: undef :: undef :: undef :: undef :: undef :: undef :: undef :: undef :: undef :: undef :: undef :: undef :: undef :: undef :: undef :: undef :: undef :: undef :: undef :: undef :: undef :: undef :: undef :: undef :: undef :: undef :: undef :: undef :: undef :: undef :: undef :: undef :: undef :: undef :: undef :: undef :: undef :: undef :: undef :: undef :: undef :: undef :: undef :: undef :: undef :: undef :: undef :: undef :: []), []⟩) (by kernel_rfl) ?_
  apply wpList_nil
  have AG : Arr ((w.alloc (.cells V 93)).alloc (.cells n25u 93)) w.heap.size 93 .u64 a := by
    unfold Arr
    rw [← hV]
    exact blk_alloc (blk_new _ _) _
  have AO : Arr ((w.alloc (.cells V 93)).alloc (.cells n25u 93)) (w.alloc (.cells V 93)).heap.size 93 .u64 (List.replicate 25 0) := blk_new _ _
  have MV := ((Moved.refl w (fun i => w.heap.size ≤ i)).alloc (.cells V 93)).alloc (.cells n25u 93)
  have g1 : w.heap.size < (w.alloc (.cells V 93)).heap.size := (blk_lt (blk_new w (.cells V 93)))
  generalize ((w.alloc (.cells V 93)).alloc (.cells n25u 93)) = W1 at AG AO MV ⊢
  generalize (w.alloc (.cells V 93)).heap.size = go at AO g1 ⊢
  generalize hga : w.heap.size = ga at AG MV g1 ⊢
  have g2 := AO.lt
  go_upto_region 1 with fail
  apply wp_region_lit
  refine wpList_callTo rfl (some 14) rfl 138 #[] (by kernel_rfl) (.agg zConsts) (W1.alloc (.cells zConsts 145)) (roundsS.calls W1) ?_
  generalize hW2 : W1.alloc (.cells zConsts 145) = W2
  have AG2 : Arr W2 ga 93 .u64 a := hW2 ▸ AG.alloc _
  have AO2 : Arr W2 go 93 .u64 (List.replicate 25 0) := hW2 ▸ AO.alloc _
  have MV2 : Moved w W2 (fun i => ga ≤ i) := hW2 ▸ MV.alloc _
  clear hW2 AG AO MV g2
  refine Go.Great.wpList_allocTo rfl (some 3) rfl (.pointer (some ⟨W2.heap.size, 0, none⟩)) (.cells n24 145) (by kernel_rfl) ?_
  refine wpList_store_rowTo rfl 145 _ _ rfl rfl W2.heap.size zConsts (by kernel_rfl) (by kernel_rfl) 145 n24 (blk_new _ _) (by kernel_rfl) rfl (by kernel_rfl) ?_
  rw [setRow_new]
  have AR3 : Arr (W2.alloc (.cells zConsts 145)) W2.heap.size 145 .u64 kConsts := blk_new _ _
  have AG3 := AG2.alloc (.cells zConsts 145)
  have AO3 := AO2.alloc (.cells zConsts 145)
  have MV3 := MV2.alloc (.cells zConsts 145)
  have l1 := AG2.lt
  have l2 := AO2.lt
  clear AG2 AO2 MV2
  generalize W2.alloc (.cells zConsts 145) = W3 at AR3 AG3 AO3 MV3 ⊢
  generalize W2.heap.size = gr at AR3 l1 l2 ⊢
  refine wpList_frame (a' := ⟨List.toArray (Value.agg V :: Value.pointer (some ⟨ga, 0, none⟩) :: Value.pointer (some ⟨go, 0, none⟩) :: Value.pointer (some ⟨gr, 0, none⟩) :: undef :: undef :: undef :: undef :: undef :: undef :: undef :: undef :: undef :: undef :: Value.agg zConsts :: undef :: undef :: undef :: undef :: undef :: undef :: undef :: undef :: undef :: undef :: undef :: undef :: undef :: undef :: undef :: undef :: undef :: undef :: undef :: undef :: undef :: undef :: undef :: undef :: undef :: undef :: undef :: undef :: undef :: undef :: undef :: undef :: undef :: undef :: undef :: undef :: undef :: undef :: undef :: undef :: undef :: undef :: undef :: undef :: undef :: undef :: undef :: undef :: undef :: undef :: undef :: undef :: undef :: undef :: undef :: undef :: undef :: undef :: undef :: undef :: undef :: undef :: undef :: undef :: undef :: undef :: undef :: undef :: undef :: undef :: undef :: undef :: undef :: undef :: undef :: undef :: undef :: undef :: undef :: undef :: undef :: undef :: undef :: undef :: undef :: undef :: undef :: undef :: undef :: undef :: undef :: undef :: undef :: undef :: undef :: undef :: undef :: undef :: undef :: undef :: undef :: undef :: undef :: undef :: undef :: undef :: undef :: undef :: undef :: undef :: undef :: undef :: undef :: undef :: undef :: undef :: undef :: undef :: undef :: undef :: undef :: undef :: undef :: undef :: undef :: undef :: undef :: undef :: undef :: undef :: undef :: undef :: undef :: undef :: []), []⟩) (by kernel_rfl) ?_
  apply wpList_nil
  go_upto_region 2 with fail
  apply wp_region_lit
  refine wpList_callTo rfl (some 15) rfl 139 #[] (by kernel_rfl) (.agg zShiftsU) (W3.alloc (.cells zShiftsU 147)) (shiftsS.calls W3) ?_
  have AR4 := AR3.alloc (.cells zShiftsU 147)
  have AG4 := AG3.alloc (.cells zShiftsU 147)
  have AO4 := AO3.alloc (.cells zShiftsU 147)
  have MV4 := MV3.alloc (.cells zShiftsU 147)
  clear AR3 AG3 AO3 MV3
  generalize W3.alloc (.cells zShiftsU 147) = W4 at AR4 AG4 AO4 MV4 ⊢
  refine Go.Great.wpList_allocTo rfl (some 4) rfl (.pointer (some ⟨W4.heap.size, 0, none⟩)) (.cells n25u 147) (by kernel_rfl) ?_
  refine wpList_store_rowTo rfl 147 _ _ rfl rfl W4.heap.size zShiftsU (by kernel_rfl) (by kernel_rfl) 147 n25u (blk_new _ _) (by kernel_rfl) rfl (by kernel_rfl) ?_
  rw [setRow_new]
  have AH5 : Arr (W4.alloc (.cells zShiftsU 147)) W4.heap.size 147 .u64 kShifts := blk_new _ _
  have AR5 := AR4.alloc (.cells zShiftsU 147)
  have AG5 := AG4.alloc (.cells zShiftsU 147)
  have AO5 := AO4.alloc (.cells zShiftsU 147)
  have MV5 := MV4.alloc (.cells zShiftsU 147)
  have l3 := AG4.lt
  clear AR4 AG4 AO4 MV4
  generalize W4.alloc (.cells zShiftsU 147) = W5 at AH5 AR5 AG5 AO5 MV5 ⊢
  generalize W4.heap.size = gh at AH5 l3 ⊢
  refine wpList_frame (a' := ⟨List.toArray (Value.agg V :: Value.pointer (some ⟨ga, 0, none⟩) :: Value.pointer (some ⟨go, 0, none⟩) :: Value.pointer (some ⟨gr, 0, none⟩) :: Value.pointer (some ⟨gh, 0, none⟩) :: undef :: undef :: undef :: undef :: undef :: undef :: undef :: undef :: undef :: Value.agg zConsts :: Value.agg zShiftsU :: undef :: undef :: undef :: undef :: undef :: undef :: undef :: undef :: undef :: undef :: undef :: undef :: undef :: undef :: undef :: undef :: undef :: undef :: undef :: undef :: undef :: undef :: undef :: undef :: undef :: undef :: undef :: undef :: undef :: undef :: undef :: undef :: undef :: undef :: undef :: undef :: undef :: undef :: undef :: undef :: undef :: undef :: undef :: undef :: undef :: undef :: undef :: undef :: undef :: undef :: undef :: undef :: undef :: undef :: undef :: undef :: undef :: undef :: undef :: undef :: undef :: undef :: undef :: undef :: undef :: undef :: undef :: undef :: undef :: undef :: undef :: undef :: undef :: undef :: undef :: undef :: undef :: undef :: undef :: undef :: undef :: undef :: undef :: undef :: undef :: undef :: undef :: undef :: undef :: undef :: undef :: undef :: undef :: undef :: undef :: undef :: undef :: undef :: undef :: undef :: undef :: undef :: undef :: undef :: undef :: undef :: undef :: undef :: undef :: undef :: undef :: undef :: undef :: undef :: undef :: undef :: undef :: undef :: undef :: undef :: undef :: undef :: undef :: undef :: undef :: undef :: undef :: undef :: undef :: undef :: undef :: undef :: undef :: []), []⟩) (by kernel_rfl) ?_
  apply wpList_nil
  have n1 : gh ≠ ga := by omega
  have n2 : gr ≠ ga := by omega
  have n3 : go ≠ ga := by omega
  have g1' := g1
  have AH5 := Aside0.mk AH5
  have AR5 := Aside0.mk AR5
  have AG5 := Aside0.mk AG5
  have AO5 := Aside0.mk AO5
  have MV5 := Aside0.mk MV5
  have HG := Aside0.mk hga
  clear l1 l2 l3 g1 hga hV
  go_wp2
  refine permS.rounds ga gr gh a W5 ha n1 n2 AG5.out AR5.out AH5.out ?_
  intro a2 W6 S1 m1 hz
  obtain ⟨v5, hz⟩ := hz
  obtain ⟨v6, hz⟩ := hz
  obtain ⟨v7, hz⟩ := hz
  obtain ⟨v8, hz⟩ := hz
  obtain ⟨v9, hz⟩ := hz
  obtain ⟨v10, hz⟩ := hz
  obtain ⟨v11, hz⟩ := hz
  obtain ⟨v12, hz⟩ := hz
  obtain ⟨v13, hz⟩ := hz
  obtain ⟨v16, hz⟩ := hz
  obtain ⟨v17, hz⟩ := hz
  obtain ⟨v18, hz⟩ := hz
  obtain ⟨v19, hz⟩ := hz
  obtain ⟨v20, hz⟩ := hz
  obtain ⟨v21, hz⟩ := hz
  obtain ⟨v22, hz⟩ := hz
  obtain ⟨v23, hz⟩ := hz
  obtain ⟨v24, hz⟩ := hz
  obtain ⟨v25, hz⟩ := hz
  obtain ⟨v26, hz⟩ := hz
  obtain ⟨v27, hz⟩ := hz
  obtain ⟨v28, hz⟩ := hz
  obtain ⟨v29, hz⟩ := hz
  obtain ⟨v30, hz⟩ := hz
  obtain ⟨v31, hz⟩ := hz
  obtain ⟨v32, hz⟩ := hz
  obtain ⟨v33, hz⟩ := hz
  obtain ⟨v34, hz⟩ := hz
  obtain ⟨v35, hz⟩ := hz
  obtain ⟨v36, hz⟩ := hz
  obtain ⟨v37, hz⟩ := hz
  obtain ⟨v38, hz⟩ := hz
  obtain ⟨v39, hz⟩ := hz
  obtain ⟨v40, hz⟩ := hz
  obtain ⟨v41, hz⟩ := hz
  obtain ⟨v42, hz⟩ := hz
  obtain ⟨v43, hz⟩ := hz
  obtain ⟨v44, hz⟩ := hz
  obtain ⟨v45, hz⟩ := hz
  obtain ⟨v46, hz⟩ := hz
  obtain ⟨v47, hz⟩ := hz
  obtain ⟨v48, hz⟩ := hz
  obtain ⟨v49, hz⟩ := hz
  obtain ⟨v50, hz⟩ := hz
  obtain ⟨v51, hz⟩ := hz
  obtain ⟨v52, hz⟩ := hz
  obtain ⟨v53, hz⟩ := hz
  obtain ⟨v54, hz⟩ := hz
  obtain ⟨v55, hz⟩ := hz
  obtain ⟨v56, hz⟩ := hz
  obtain ⟨v57, hz⟩ := hz
  obtain ⟨v58, hz⟩ := hz
  obtain ⟨v59, hz⟩ := hz
  obtain ⟨v60, hz⟩ := hz
  obtain ⟨v61, hz⟩ := hz
  obtain ⟨v62, hz⟩ := hz
  obtain ⟨v63, hz⟩ := hz
  obtain ⟨v64, hz⟩ := hz
  obtain ⟨v65, hz⟩ := hz
  obtain ⟨v66, hz⟩ := hz
  obtain ⟨v67, hz⟩ := hz
  obtain ⟨v68, hz⟩ := hz
  obtain ⟨v69, hz⟩ := hz
  obtain ⟨v70, hz⟩ := hz
  obtain ⟨v71, hz⟩ := hz
  obtain ⟨v72, hz⟩ := hz
  obtain ⟨v73, hz⟩ := hz
  obtain ⟨v74, hz⟩ := hz
  obtain ⟨v75, hz⟩ := hz
  obtain ⟨v76, hz⟩ := hz
  obtain ⟨v77, hz⟩ := hz
  obtain ⟨v78, hz⟩ := hz
  obtain ⟨v79, hz⟩ := hz
  obtain ⟨v80, hz⟩ := hz
  obtain ⟨v81, hz⟩ := hz
  obtain ⟨v82, hz⟩ := hz
  obtain ⟨v83, hz⟩ := hz
  obtain ⟨v84, hz⟩ := hz
  obtain ⟨v85, hz⟩ := hz
  obtain ⟨v86, hz⟩ := hz
  obtain ⟨v87, hz⟩ := hz
  obtain ⟨v88, hz⟩ := hz
  obtain ⟨v89, hz⟩ := hz
  obtain ⟨v90, hz⟩ := hz
  obtain ⟨v91, hz⟩ := hz
  obtain ⟨v92, hz⟩ := hz
  obtain ⟨v93, hz⟩ := hz
  obtain ⟨v94, hz⟩ := hz
  obtain ⟨v95, hz⟩ := hz
  obtain ⟨v96, hz⟩ := hz
  obtain ⟨v97, hz⟩ := hz
  obtain ⟨v98, hz⟩ := hz
  obtain ⟨v99, hz⟩ := hz
  obtain ⟨v100, hz⟩ := hz
  obtain ⟨v101, hz⟩ := hz
  obtain ⟨v102, hz⟩ := hz
  obtain ⟨v103, hz⟩ := hz
  obtain ⟨v104, hz⟩ := hz
  obtain ⟨v105, hz⟩ := hz
  obtain ⟨v106, hz⟩ := hz
  obtain ⟨v107, hz⟩ := hz
  obtain ⟨v108, hz⟩ := hz
  obtain ⟨v109, hz⟩ := hz
  obtain ⟨v110, hz⟩ := hz
  obtain ⟨v111, hz⟩ := hz
  obtain ⟨v112, hz⟩ := hz
  obtain ⟨v113, hz⟩ := hz
  obtain ⟨v114, hz⟩ := hz
  obtain ⟨v115, hz⟩ := hz
  obtain ⟨v116, hz⟩ := hz
  obtain ⟨v117, hz⟩ := hz
  obtain ⟨v118, hz⟩ := hz
  obtain ⟨v119, hz⟩ := hz
  obtain ⟨v120, hz⟩ := hz
  obtain ⟨v121, hz⟩ := hz
  obtain ⟨v122, hz⟩ := hz
  obtain ⟨v123, hz⟩ := hz
  obtain ⟨v124, hz⟩ := hz
  obtain ⟨v125, hz⟩ := hz
  obtain ⟨v126, hz⟩ := hz
  obtain ⟨v127, hz⟩ := hz
  obtain ⟨v128, hz⟩ := hz
  obtain ⟨v129, hz⟩ := hz
  obtain ⟨v130, hz⟩ := hz
  obtain ⟨v131, hz⟩ := hz
  obtain ⟨v132, hz⟩ := hz
  obtain ⟨v133, hz⟩ := hz
  obtain ⟨v134, hz⟩ := hz
  obtain ⟨v135, hz⟩ := hz
  obtain ⟨v136, hz⟩ := hz
  obtain ⟨v137, hz⟩ := hz
  obtain ⟨v138, hz⟩ := hz
  obtain ⟨v139, hz⟩ := hz
  obtain ⟨v140, hz⟩ := hz
  obtain ⟨v141, hz⟩ := hz
  obtain ⟨v142, hz⟩ := hz
  obtain ⟨v143, hz⟩ := hz
  obtain ⟨v144, hz⟩ := hz
  obtain ⟨v145, hz⟩ := hz
  obtain ⟨v146, hz⟩ := hz
  obtain ⟨v147, hz⟩ := hz
  subst hz
  have AO6 := AO5.out.moved m1 (fun e => n3 e)
  have MV6 := MV5.out.trans_new m1 (fun i e => .inl (Nat.le_of_eq e.symm))
  go_upto_region 31 with fail
  apply wp_region_lit
  have hsz : (nums .u64 (sPerm a 24)).toArray.size = 25 := by simp [nums, sPerm_length, ha]
  refine wpList_load_row rfl 93 _ rfl ga rfl 93 _ (0, 0) _ S1 Try.underlying93 rfl (by rw [hsz]; kernel_rfl) ?_
  have hone : (nums .u64 (sPerm a 24)).toArray.all (·.oneCell') = true := by simp [nums, Value.oneCell']
  refine wpList_store_rowTo rfl 93 _ _ rfl rfl go (nums .u64 (sPerm a 24)).toArray (by kernel_rfl) (by kernel_rfl) 93 _ AO6 (by rw [hsz]; kernel_rfl) (by rw [hsz]; rfl) hone ?_
  have AF := setRow_heap W6 go _ (nums .u64 (sPerm a 24)).toArray 93 (0, 0) AO6
  have hgo : w.heap.size ≤ go := by have := HG.out; omega
  have BF : Below w.heap.size w (W6.setRow go (nums .u64 (sPerm a 24)).toArray) := below_setRow (MV6.below (fun i hi h => absurd h (by have := HG.out; omega))) hgo _
  generalize W6.setRow go (nums .u64 (sPerm a 24)).toArray = W7 at AF BF ⊢
  refine wpList_frame (a' := ⟨List.toArray (Value.agg V :: Value.pointer (some ⟨ga, 0, none⟩) :: Value.pointer (some ⟨go, 0, none⟩) :: Value.pointer (some ⟨gr, 0, none⟩) :: Value.pointer (some ⟨gh, 0, none⟩) :: v5 :: v6 :: v7 :: v8 :: v9 :: v10 :: v11 :: v12 :: v13 :: Value.agg zConsts :: Value.agg zShiftsU :: v16 :: v17 :: v18 :: v19 :: v20 :: v21 :: v22 :: v23 :: v24 :: v25 :: v26 :: v27 :: v28 :: v29 :: v30 :: v31 :: v32 :: v33 :: v34 :: v35 :: v36 :: v37 :: v38 :: v39 :: v40 :: v41 :: v42 :: v43 :: v44 :: v45 :: v46 :: v47 :: v48 :: v49 :: v50 :: v51 :: v52 :: v53 :: v54 :: v55 :: v56 :: v57 :: v58 :: v59 :: v60 :: v61 :: v62 :: v63 :: v64 :: v65 :: v66 :: v67 :: v68 :: v69 :: v70 :: v71 :: v72 :: v73 :: v74 :: v75 :: v76 :: v77 :: v78 :: v79 :: v80 :: v81 :: v82 :: v83 :: v84 :: v85 :: v86 :: v87 :: v88 :: v89 :: v90 :: v91 :: v92 :: v93 :: v94 :: v95 :: v96 :: v97 :: v98 :: v99 :: v100 :: v101 :: v102 :: v103 :: v104 :: v105 :: v106 :: v107 :: v108 :: v109 :: v110 :: v111 :: v112 :: v113 :: v114 :: v115 :: v116 :: v117 :: v118 :: v119 :: v120 :: v121 :: v122 :: v123 :: v124 :: v125 :: v126 :: v127 :: v128 :: v129 :: v130 :: v131 :: v132 :: v133 :: v134 :: v135 :: v136 :: v137 :: v138 :: v139 :: v140 :: v141 :: v142 :: v143 :: v144 :: v145 :: v146 :: v147 :: Value.agg (nums .u64 (sPerm a 24)).toArray :: []), []⟩) (by kernel_rfl) ?_
  apply wpList_nil
  go_wp2
  refine bodyPost_ret (results_cell_row rfl _ _ go 93 _ (0, 0) _ rfl AF Try.underlying93 rfl (by rw [hsz]; kernel_rfl)) rfl ?_
  exact ⟨rfl, BF⟩
end Go.Proofs.Ytlogocmojnhpbaa.Print
/- The contract of the reference's text of a state: its first bytes, the lower ones of a lane first. -/
namespace Go.Proofs.Ytlogocmojnhpbaa.Print
open Go.RowKit Go.Proofs.YtlogocmojnhpbaaW.PrintWords Go.Proofs.YtlogocmojnhpbaaW.PrintLast
set_option linter.unusedVariables false
set_option linter.unusedSimpArgs false
set_option maxHeartbeats 8000000 in
set_option maxRecDepth 100000 in
theorem textS.calls (s : List Int) (m : Nat) (w : World) (hs : s.length = 25) (hm : m ≤ 200) :
    Calls Try.prog 80 #[.agg (nums .u64 s).toArray, .int .i64 (m : Int)] w fun e w' => e = .returned (.string (strOfNums (kText s m))) ∧ Below w.heap.size w w' := by
  obtain ⟨V, hV⟩ : ∃ V, V = (nums .u64 s).toArray := ⟨_, rfl⟩
  rw [← hV]
  obtain ⟨y0, hy0⟩ : ∃ y_ : List Int, y_ = (([] : List Int)) := ⟨_, rfl⟩
  have Ny0 := Aside0.mk hy0
  clear hy0
  go_enter Try.func80, Try.ntmps80
  go_upto_region 0 with fail
  apply wp_region_lit
  refine Go.Great.wpList_allocTo rfl (some 2) rfl (.pointer (some ⟨w.heap.size, 0, none⟩)) (.cells V 93) (by kernel_rfl) ?_
  refine wpList_frame (a' := ⟨List.toArray (Value.agg V :: Value.int .i64 (m : Int) :: Value.pointer (some ⟨w.heap.size, 0, none⟩) :: undef :: undef :: undef :: undef :: undef :: undef :: undef :: undef :: undef :: undef :: undef :: undef :: undef :: undef :: undef :: undef :: undef :: undef :: undef :: undef :: undef :: undef :: undef :: undef :: undef :: []), []⟩) (by kernel_rfl) ?_
  have AG : Arr (w.alloc (.cells V 93)) w.heap.size 93 .u64 s := by
    unfold Arr
    rw [← hV]
    exact blk_new _ _
  have BW : Below w.heap.size w (w.alloc (.cells V 93)) := below_alloc (Below.refl _ w) _
  generalize w.alloc (.cells V 93) = w1 at AG BW ⊢
  generalize hgb : w.heap.size = gb at AG ⊢
  have HG := Aside0.mk hgb
  have hlt := AG.lt
  have HA := Aside0.mk AG
  have BW := Aside0.mk BW
  have HB := Aside0.mk (Below.refl w1.heap.size w1)
  clear hV hgb AG
  go_wp2_with (first | ((with_reducible refine gate_dst (N := 7) rfl ?_); refine Kd.R_lit (Kd.int .u8) _ 5 ?hg (N := 7) ?hd (xs := ([] : List Int)) (inner := []) (ok := fun _ => True) (okp := fun _ => True) ?hr ?hp (fun _ hk => hk) trivial (Below.refl _ _) (Nat.le_refl _) (by simp) ?_; (case hd => rfl); (case hg => rfl); (case hr => first | (go_simp; done) | (go_simp; rfl)); (case hp => exact (Reps.none _ _)); intro v0 w3 ho4 hb hg_ hnew_; clear hg_ hnew_; (first | rw [← Ny0.out] at ho4 | (simp only [Int.reduceToNat] at ho4; rw [← Ny0.out] at ho4)); have n0_ := Aside0.mk (Kd.R_lower ho4 (below_size (by repeat (first | (with_reducible first | exact HB.out | apply below_alloc | apply pw_below_drewN | apply below_drew1) | exact HB.out)))); have n1_ := Aside0.mk (below_step (by repeat (first | (with_reducible first | exact HB.out | apply below_alloc | apply pw_below_drewN | apply below_drew1) | exact HB.out)) hb); clear HB; have HO0 := n0_; have HB := n1_; clear n0_ n1_; clear hb ho4))
  go_loopg [5, 6] m (fun gg s5 s6 w' => ∃ (x3 : List Int) (k : Nat), k ≤ m ∧ m - k ≤ gg ∧ s6 = .int .i64 k ∧ Aside0 (x3 = kText s k) ∧ Aside0 (Kd.R (Kd.int .u8) 5 w' w1.heap.size (fun _ => True) s5 x3) ∧ Aside0 (Below w1.heap.size w1 w'))
  case atStart => exact ⟨y0, 0, by omega, by omega, rfl, ⟨Ny0.out⟩, HO0, HB⟩
  case round =>
    obtain ⟨x3, k, hk, hg, rfl, HX, HO3, HB⟩ := hrel
    by_cases hlt2 : k < m
    · have hltm : (k : Int) < (m : Int) := by omega
      have hltz : (k : Int) < 200 := by omega
      have h0z : (0 : Int) ≤ (k : Int) := by omega
      have HG : Arr wr gb 93 .u64 s := (HB.out.block gb hlt).trans HA.out
      have q0 := HG.cell (k / 8) (by omega)
      obtain ⟨v0, hv0⟩ : ∃ v, v = s.getD (k / 8) 0 := ⟨_, rfl⟩
      rw [← hv0] at q0
      obtain ⟨b0, hb0⟩ : ∃ b, b = v0 / 2 ^ (8 * (k % 8)) % 256 := ⟨_, rfl⟩
      obtain ⟨y1, hy1⟩ : ∃ y_ : List Int, y_ = x3 ++ [b0] := ⟨_, rfl⟩
      have Ny1 := Aside0.mk hy1
      have HV := Aside0.mk hv0
      have HB0 := Aside0.mk hb0
      have LM : Aside0 (x3.length < 140737488355328) := ⟨by rw [HX.out, kText_length]; omega⟩
      have e1 : v0 / 2 ^ (8 * (k % 8)) % 256 = b0 := hb0.symm
      have b7 : IntKind.u64.wrap (8 * ((k : Int) % 8)) = 8 * ((k : Int) % 8) := by rw [IntKind.wrap_u64]; omega
      clear hy1 hv0 hb0 hlt2
      go_wp2_with (first | ((with_reducible refine gate_builtin (b := .append) (xs := #[.tmp 13, .tmp 24]) rfl ?_); at_builtin; refine Kd.R_append (Kd.int .u8) (w0 := w1) w1.heap.size rfl (.tmp 13) (.tmp 24) 25 5 (.int .u8 0) 1 rfl Try.underlying25 info5 rfl (by decide) (by omega) u5 x3 (b0) [.int .u8 (b0)] (fun _ => True) (fun _ => False) rfl rfl ?aP (fun _ hk => hk.elim) ?aF ?aO ?aB ?aS ?aL ?_; (case aP => exact rfl); (case aB => exact (by repeat (first | (with_reducible first | exact HB.out | apply below_alloc | apply pw_below_drewN | apply below_drew1) | exact HB.out))); (case aF => exact (fun _ _ => trivial)); (case aO => exact (by (with_reducible repeat (first | apply Kd.R_alloc | apply Kd.R_drewN | apply Kd.R_drew)); exact HO3.out)); (case aS => exact (below_size (by repeat (first | (with_reducible first | exact HB.out | apply below_alloc | apply pw_below_drewN | apply below_drew1) | exact HB.out)))); (case aL => have := LM.out; omega); intro v1 w10 ho hb hg hat; rw [← Ny1.out] at ho; have n0_ := Aside0.mk (hb); have n1_ := Aside0.mk (ho); clear HB; clear HO3; have HB := n0_; have HO4 := n1_; clear n0_ n1_; clear ho hb hg hat))
      go_roundg (m - (k + 1))
      case measure => omega
      case rel => exact ⟨y1, k + 1, by omega, by omega, by go_num, ⟨by rw [Ny1.out, HX.out, HB0.out, HV.out]; rfl⟩, HO4, HB⟩
    · have hk25 : k = m := by omega
      subst hk25
      have hd : decide ((k : Int) < (k : Int)) = false := decide_eq_false (by omega)
      have hcv := own_string (P := Try.prog) Try.underlying25 Try.underlying5 Try.underlying9 (Kd.own_of_R HO3.out)
      go_wp2
      go_ret
      exact ⟨by rw [← HX.out]; rfl, (below_then BW.out BW.out.size HB.out)⟩
end Go.Proofs.Ytlogocmojnhpbaa.Print
/- The contract of the reference's Permute: what it answers to every text. -/
namespace Go.Proofs.Ytlogocmojnhpbaa.Print
open Go.RowKit Go.Proofs.YtlogocmojnhpbaaW.PrintWords Go.Proofs.YtlogocmojnhpbaaW.PrintLast
set_option linter.unusedVariables false
set_option linter.unusedSimpArgs false
def sPermute (s : ByteArray) : ByteArray × Int := if (s.size : Int) > 65536 then (⟨#[]⟩, 2) else if (s.size : Int) = 200 then (strOfNums (kText (sPerm (kLanes (bytesOf s) s.size) 24) 200), 0) else (⟨#[]⟩, 8)
set_option maxHeartbeats 8000000 in
set_option maxRecDepth 100000 in
theorem permuteS.calls (s : ByteArray) (w : World) :
    Calls Try.prog 21 #[.string s] w fun e w' => e = .returned (.tuple #[.string (sPermute s).1, .int .i64 (sPermute s).2]) ∧ Below w.heap.size w w' := by
  unfold sPermute
  by_cases h1 : (s.size : Int) > 65536
  · rw [if_pos h1]
    have d1 : decide ((65536 : Int) < (s.size : Int)) = true := decide_eq_true h1
    clear h1
    go_enter Try.func21, Try.ntmps21
    go_wp2
    refine bodyPost_ret (results_tmp2 rfl _ _ _) rfl ?_
    exact ⟨rfl, Below.refl _ _⟩
  · rw [if_neg h1]
    have d1 : decide ((65536 : Int) < (s.size : Int)) = false := decide_eq_false h1
    clear h1
    by_cases h2 : (s.size : Int) = 200
    · rw [if_pos h2]
      have d2 : ((s.size : Int) == 200) = true := beq_iff_eq.2 h2
      have d3 : ((s.size : Int) != 200) = false := by rw [bne, d2]; rfl
      have d4 : decide ((s.size : Int) = 200) = true := decide_eq_true h2
      have L1 := Aside0.mk (lanesS.calls s w (by omega))
      have L2 := fun W => permS.calls (kLanes (bytesOf s) s.size) W (kLanes_length _ _)
      have L3 := fun W => textS.calls (sPerm (kLanes (bytesOf s) s.size) 24) 200 W (by rw [sPerm_length]; exact kLanes_length _ _) (Nat.le_refl _)
      generalize kText (sPerm (kLanes (bytesOf s) s.size) 24) 200 = T at L3 ⊢
      generalize (nums .u64 (sPerm (kLanes (bytesOf s) s.size) 24)).toArray = P2 at L2 L3
      generalize (nums .u64 (kLanes (bytesOf s) s.size)).toArray = P1 at L1 L2
      have L2 := Aside0.mk L2
      have L3 := Aside0.mk L3
      clear h2
      go_enter Try.func21, Try.ntmps21
      go_wp2_with (first | (go_at_call 82; refine L1.out.mono ?_; rintro e w1 ⟨rfl, hb1⟩) | (go_at_call 81; refine (L2.out _).mono ?_; rintro e w2 ⟨rfl, hb2⟩) | (go_at_call 80; refine (L3.out _).mono ?_; rintro e w3 ⟨rfl, hb3⟩))
      refine bodyPost_ret (results_tmp2 rfl _ _ _) rfl ?_
      exact ⟨rfl, below_step (below_step hb1 hb2) hb3⟩
    · rw [if_neg h2]
      have d2 : ((s.size : Int) == 200) = false := beq_eq_false_iff_ne.2 h2
      have d3 : ((s.size : Int) != 200) = true := by rw [bne, d2]; rfl
      have d4 : decide ((s.size : Int) = 200) = false := decide_eq_false h2
      clear h2
      go_enter Try.func21, Try.ntmps21
      go_wp2
      refine bodyPost_ret (results_tmp2 rfl _ _ _) rfl ?_
      exact ⟨rfl, Below.refl _ _⟩
end Go.Proofs.Ytlogocmojnhpbaa.Print
/- The program's Permute and the reference's answer alike, at every text. -/
namespace Go.Proofs.Ytlogocmojnhpbaa.Print
open Go.RowKit Go.Proofs.YtlogocmojnhpbaaW.PrintWords Go.Proofs.YtlogocmojnhpbaaW.PrintLast
theorem kLanes_in (xs : List Int) (i : Nat) : AllU (kLanes xs i) := by
  induction i with
  | zero =>
    intro x hx
    obtain rfl := List.eq_of_mem_replicate hx
    exact ⟨by decide, by decide⟩
  | succ i ih => exact ih.set (i / 8) (bitsU_in _ _ _)
theorem permute_eq (s : ByteArray) : iPermute s = sPermute s := by
  unfold iPermute sPermute
  rw [perm_eq (kLanes_length _ _) (kLanes_in _ _)]
end Go.Proofs.Ytlogocmojnhpbaa.Print
/- Plain words: a message's padding, its blocks, the hash. -/
namespace Go.Proofs.Ytlogocmojnhpbaa.Print
open Go.RowKit Go.Proofs.YtlogocmojnhpbaaW.PrintWords Go.Proofs.YtlogocmojnhpbaaW.PrintLast
/-- How many noughts stand behind a message of n bytes (the byte 1 counted). -/
def kGap (n : Nat) : Nat := (136 - n % 136) % 136
theorem kGap_whole (n : Nat) : (n + kGap n) % 136 = 0 := by unfold kGap; omega
theorem kGap_lt (n : Nat) : kGap n < 136 := by unfold kGap; omega
theorem kGap_part {n k : Nat} (h : k < kGap n) : (n + k) % 136 ≠ 0 := by unfold kGap at h; omega
/-- A message and k noughts. -/
def kFill (m : List Int) (k : Nat) : List Int := m ++ List.replicate k 0
theorem kFill_length (m : List Int) (k : Nat) : (kFill m k).length = m.length + k := by simp [kFill]
theorem kFill_succ (m : List Int) (k : Nat) : kFill m k ++ [0] = kFill m (k + 1) := by simp [kFill, List.replicate_succ']
theorem kFill_zero (m : List Int) : kFill m 0 = m := by simp [kFill]
/-- The highest bit of the last byte. -/
def kMark (m : List Int) : List Int := m.set (m.length - 1) (Go.bits .or .u8 (m.getD (m.length - 1) 0) 128)
theorem kMark_length (m : List Int) : (kMark m).length = m.length := by simp [kMark]
def kPad (xs : List Int) : List Int := kMark (kFill (xs ++ [1]) (kGap (xs.length + 1)))
theorem kPad_length (xs : List Int) : (kPad xs).length = xs.length + 1 + kGap (xs.length + 1) := by simp [kPad, kMark_length, kFill_length]
theorem kPad_whole (xs : List Int) : (kPad xs).length % 136 = 0 := by rw [kPad_length]; exact kGap_whole _
/-- Lanes of another state taken in, the first i. -/
def kXor (a x : List Int) : Nat → List Int
  | 0 => a
  | i + 1 => (kXor a x i).set i (xorU ((kXor a x i).getD i 0) (x.getD i 0))
theorem kXor_length (a x : List Int) (i : Nat) : (kXor a x i).length = a.length := by
  induction i with
  | zero => rfl
  | succ i ih => simp [kXor, ih]
theorem kXor_in {a x : List Int} (h : AllU a) (i : Nat) : AllU (kXor a x i) := by
  induction i with
  | zero => exact h
  | succ i ih => exact ih.set i (bitsU_in _ _ _)
def kBlock (m : List Int) (i : Nat) : List Int := (m.drop (136 * i)).take 136
theorem kBlock_length {m : List Int} {i n : Nat} (h : m.length = 136 * n) (hi : i < n) : (kBlock m i).length = 136 := by
  simp [kBlock, h]
  omega
/-- The state behind i blocks. -/
def kSp (m : List Int) : Nat → List Int
  | 0 => List.replicate 25 0
  | i + 1 => kPerm (kXor (kSp m i) (kLanes (kBlock m i) 136) 25) 24
theorem kSp_length (m : List Int) (i : Nat) : (kSp m i).length = 25 := by
  induction i with
  | zero => simp [kSp]
  | succ i ih => rw [kSp, kPerm_length, kXor_length, ih]
theorem all_zero25 : AllU (List.replicate 25 0) := by
  intro x hx
  obtain rfl := List.eq_of_mem_replicate hx
  exact ⟨by decide, by decide⟩
theorem kSp_in (m : List Int) (i : Nat) : AllU (kSp m i) := by
  induction i with
  | zero => exact all_zero25
  | succ i ih => exact kPerm_in (kXor_in ih 25) 24
theorem kSp_spec (m : List Int) (i : Nat) : kSp m (i + 1) = sPerm (kXor (kSp m i) (kLanes (kBlock m i) 136) 25) 24 := by
  rw [kSp, perm_eq (by rw [kXor_length, kSp_length]) (kXor_in (kSp_in m i) 25)]
/-- The hash of a message's bytes. -/
def kHash (xs : List Int) : List Int := kText (kSp (kPad xs) ((kPad xs).length / 136)) 32
theorem kHash_length (xs : List Int) : (kHash xs).length = 32 := kText_length _ _
theorem kText_take (s : List Int) {i n : Nat} (h : i ≤ n) : (kText s n).take i = kText s i := by
  induction n with
  | zero =>
    obtain rfl : i = 0 := by omega
    rfl
  | succ n ih =>
    by_cases e : i = n + 1
    · subst e
      rw [List.take_of_length_le (by rw [kText_length]; omega)]
    · rw [kText, List.take_append_of_le_length (by rw [kText_length]; omega), ih (by omega)]
end Go.Proofs.Ytlogocmojnhpbaa.Print
