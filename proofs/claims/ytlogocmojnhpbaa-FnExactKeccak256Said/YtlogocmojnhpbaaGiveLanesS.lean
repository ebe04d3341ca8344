/- The contract of the reference's l03Lanes: the state that a text is. -/
import Derived.Test.YtlogocmojnhpbaaGiveLanesI
import Derived.Laws.PanicsMore
import Derived.Laws.CopyOwn
namespace Go.Proofs.Ytlogocmojnhpbaa.Print
open Go.RowKit Go.Proofs.YtlogocmojnhpbaaW.PrintWords
set_option linter.unusedVariables false
set_option linter.unusedSimpArgs false
theorem idx_str (s : ByteArray) (k : Nat) (hk : k < s.size) (w : World) : (Instr.index 9 (.string s) (.int .i64 (k : Int))).run Try.prog w = .ok (.int .u8 (bt s (k : Int))) w := by
  have h1 : (0 : Int) ≤ (k : Int) := by omega
  have e : s[k]? = some (s[k]'hk) := by simp [hk]
  have h2 : bt s (k : Int) = ((s[k]'hk).toNat : Int) := by unfold bt; rw [dif_pos (by simpa using hk)]; simp
  rw [h2]
  simp [Instr.index, run_underlying Try.underlying9, asIntOf, h1, go_sem, hk]
set_option maxHeartbeats 8000000 in
set_option maxRecDepth 100000 in
theorem lanesS.loop (g : Nat) (s : ByteArray) (wr : World) {u1 u2 u5 u6 u7 u8 u9 u10 u11 u12 u13 u14 u15 u16 u17 u18 u19 u20 u21 u22 u23 u24 u25 u26 u27 : Value} {Q : Exit → Act → World → Prop} (hn : s.size ≤ 200) (hb : Arr wr g 93 .u64 (kLanes (bytesOf s) 0))
    (hexit : ∀ (a' : Act) (w' : World), Arr w' g 93 .u64 (kLanes (bytesOf s) s.size) → Moved wr w' (fun i => i = g) → (∃ z4 z6 z7 z8 z9 z10 z11 z12 z13 z14 z15 z16 z17 z18 z19 z20 z21 z22 z23 z24 z25 z26 : Value, a' = ⟨List.toArray (Value.string s :: u1 :: u2 :: Value.pointer (some ⟨g, 0, none⟩) :: z4 :: u5 :: z6 :: z7 :: z8 :: z9 :: z10 :: z11 :: z12 :: z13 :: z14 :: z15 :: z16 :: z17 :: z18 :: z19 :: z20 :: z21 :: z22 :: z23 :: z24 :: z25 :: z26 :: u27 :: []), []⟩) → Q (.exit 0) a' w') :
    Code.wp Try.prog (nthLoop Try.f82.body 0) Q ⟨List.toArray (Value.string s :: u1 :: u2 :: Value.pointer (some ⟨g, 0, none⟩) :: Value.int .i64 0 :: u5 :: u6 :: u7 :: u8 :: u9 :: u10 :: u11 :: u12 :: u13 :: u14 :: u15 :: u16 :: u17 :: u18 :: u19 :: u20 :: u21 :: u22 :: u23 :: u24 :: u25 :: u26 :: u27 :: []), []⟩ wr := by
  conv => arg 2; whnf
  have HB := Aside0.mk hb
  have HX := Aside0.mk hexit
  clear hb hexit
  go_loopg [4] s.size (fun gg s4 w' => ∃ k : Nat, k ≤ s.size ∧ s.size - k ≤ gg ∧ s4 = .int .i64 k ∧ Aside0 (Arr w' g 93 .u64 (kLanes (bytesOf s) k)) ∧ Aside0 (Moved wr w' (fun i => i = g)))
  case atStart => exact ⟨0, by omega, by omega, rfl, HB, ⟨Moved.refl _ _⟩⟩
  case round =>
    obtain ⟨k, hk, hg, rfl, HK, HO⟩ := hrel
    by_cases hlt : k < s.size
    · have hltz : (k : Int) < (s.size : Int) := by omega
      have h0z : (0 : Int) ≤ (k : Int) := by omega
      have q0 := HK.out.cell (k / 8) (by rw [kLanes_length]; omega)
      have f0 := HK.out.frozen (k / 8)
      have hx := fun w => idx_str s k hlt w
      obtain ⟨c, hc⟩ : ∃ c, c = bt s (k : Int) := ⟨_, rfl⟩
      simp only [← hc] at hx
      have HC : Aside0 (c = (bytesOf s).getD k 0) := ⟨by rw [hc, ← rd_bytesOf]; simp [rd]⟩
      clear hc hlt
      go_wp2
      have a1 : ((k : Int)).tdiv 8 = (k : Int) / 8 := Int.tdiv_eq_ediv_of_nonneg (by omega)
      have a2 : IntKind.i64.wrap ((k : Int) / 8) = (k : Int) / 8 := by rw [IntKind.wrap_i64]; omega
      have a3 : (0 : Int) ≤ (k : Int) / 8 := by omega
      have a4 : (k : Int) / 8 < 25 := by omega
      have a5 : ((k : Int) / 8).toNat = k / 8 := by omega
      have b1 : ((k : Int)).tmod 8 = (k : Int) % 8 := Int.tmod_eq_emod_of_nonneg (by omega)
      have b2 : IntKind.i64.wrap ((k : Int) % 8) = (k : Int) % 8 := by rw [IntKind.wrap_i64]; omega
      have b3 : IntKind.i64.wrap (8 * ((k : Int) % 8)) = 8 * ((k : Int) % 8) := by rw [IntKind.wrap_i64]; omega
      have b4 : (0 : Int) ≤ 8 * ((k : Int) % 8) := by omega
      have b5 : (8 * ((k : Int) % 8)).toNat = 8 * (k % 8) := by omega
      have b6 : min (8 * (k % 8)) 64 = 8 * (k % 8) := by omega
      have b7 : IntKind.u64.wrap (8 * ((k : Int) % 8)) = 8 * ((k : Int) % 8) := by first | (rw [IntKind.wrap_u64]; omega) | (simp only [IntKind.wrap, IntKind.bits, IntKind.signed]; first | omega | (simp; omega))
      refine wp_region_still_tail 15 (by kernel_rfl) (by kernel_rfl) ?_
      show wpStill _ _ (World.drew _) (fun a' => wpList _ _ _ _ a' (World.drew _)) _ _
      simp only [List.take_succ_cons, List.take_zero, List.drop_succ_cons, List.drop_zero]
      repeat still_step
      refine wpStill_nil ?_
      clear a1 a2 a3 a4 a5 b1 b2 b3 b4 b5 b6 b7
      go_wp2
      go_roundg (s.size - (k + 1))
      case measure => omega
      case rel => exact ⟨k + 1, by omega, by omega, by go_num, ⟨by rw [HC.out]; exact (HK.out.drew).set (k / 8) _⟩, ⟨(HO.out.drew).set g _ _ (.inl rfl)⟩⟩
    · have hk25 : k = s.size := by omega
      subst hk25
      have hd : decide ((s.size : Int) < (s.size : Int)) = false := decide_eq_false (by omega)
      go_wp2
      exact HX.out _ _ HK.out HO.out ⟨_, _, _, _, _, _, _, _, _, _, _, _, _, _, _, _, _, _, _, _, _, _, rfl⟩
set_option maxHeartbeats 8000000 in
set_option maxRecDepth 100000 in
theorem lanesS.calls (s : ByteArray) (w : World) (hn : s.size ≤ 200) :
    Calls Try.prog 82 #[.string s] w fun e w' => e = .returned (.agg (nums .u64 (kLanes (bytesOf s) s.size)).toArray) ∧ Below w.heap.size w w' := by
  go_enter Try.func82, Try.ntmps82
  go_upto_region 0 with fail
  apply wp_region_lit
  refine Go.Great.wpList_allocTo rfl (some 2) rfl (.pointer (some ⟨w.heap.size, 0, none⟩)) (.cells z25 93) (by kernel_rfl) ?_
  refine wpList_frame (a' := ⟨List.toArray (Value.string s :: undef :: Value.pointer (some ⟨w.heap.size, 0, none⟩) :: undef :: undef :: undef :: undef :: undef :: undef :: undef :: undef :: undef :: undef :: undef :: undef :: undef :: undef :: undef :: undef :: undef :: undef :: undef :: undef :: undef :: undef :: undef :: undef :: undef :: []), []⟩) (by kernel_rfl) ?_
  apply wpList_nil
  go_upto_region 1 with fail
  apply wp_region_lit
  refine wpList_buildTo rfl 93 _ rfl (some 5) rfl z25 (by kernel_rfl) ?_
  refine Go.Great.wpList_allocTo rfl (some 3) rfl (.pointer (some ⟨(w.alloc (.cells z25 93)).heap.size, 0, none⟩)) (.cells z25 93) (by kernel_rfl) ?_
  refine wpList_store_rowTo rfl 93 _ _ rfl rfl (w.alloc (.cells z25 93)).heap.size z25 (by kernel_rfl) (by kernel_rfl) 93 z25 (blk_new _ _) (by kernel_rfl) rfl (by kernel_rfl) ?_
  rw [setRow_self _ _ _ _ _ (blk_new _ _)]
  refine wpList_frame (a' := ⟨List.toArray (Value.string s :: undef :: Value.pointer (some ⟨w.heap.size, 0, none⟩) :: Value.pointer (some ⟨(w.alloc (Obj.cells z25 93)).heap.size, 0, none⟩) :: undef :: Value.agg z25 :: undef :: undef :: undef :: undef :: undef :: undef :: undef :: undef :: undef :: undef :: undef :: undef :: undef :: undef :: undef :: undef :: undef :: undef :: undef :: undef :: undef :: undef :: []), []⟩) (by kernel_rfl) ?_
  apply wpList_nil
  have AO : Arr ((w.alloc (.cells z25 93)).alloc (.cells z25 93)) w.heap.size 93 .u64 (List.replicate 25 0) := blk_alloc (blk_new _ _) _
  have AG : Arr ((w.alloc (.cells z25 93)).alloc (.cells z25 93)) (w.alloc (.cells z25 93)).heap.size 93 .u64 (kLanes (bytesOf s) 0) := blk_new _ _
  have BW : Below w.heap.size w ((w.alloc (.cells z25 93)).alloc (.cells z25 93)) := below_alloc (below_alloc (Below.refl _ w) _) _
  have g1 : w.heap.size < (w.alloc (.cells z25 93)).heap.size := blk_lt (blk_new w (.cells z25 93))
  have MV := ((Moved.refl w (fun i => w.heap.size ≤ i)).alloc (.cells z25 93)).alloc (.cells z25 93)
  clear BW
  generalize ((w.alloc (.cells z25 93)).alloc (.cells z25 93)) = W1 at AG AO MV ⊢
  generalize (w.alloc (.cells z25 93)).heap.size = g at AG g1 ⊢
  generalize hga : w.heap.size = go at AO MV g1 ⊢
  have HG := Aside0.mk hga
  have n1 : go ≠ g := by omega
  have g1' : go ≤ g := by omega
  have AO := Aside0.mk AO
  have AG := Aside0.mk AG
  have MV := Aside0.mk MV
  clear hga g1
  go_wp2
  refine lanesS.loop g s W1 hn AG.out ?_
  intro a2 W2 S1 m1 hz
  obtain ⟨v4, hz⟩ := hz
  obtain ⟨v6, hz⟩ := hz
  obtain ⟨v7, hz⟩ := hz
  obtain ⟨v8, hz⟩ := hz
  obtain ⟨v9, hz⟩ := hz
  obtain ⟨v10, hz⟩ := hz
  obtain ⟨v11, hz⟩ := hz
  obtain ⟨v12, hz⟩ := hz
  obtain ⟨v13, hz⟩ := hz
  obtain ⟨v14, hz⟩ := hz
  obtain ⟨v15, hz⟩ := hz
  obtain ⟨v16, hz⟩ := hz
  obtain ⟨v17, hz⟩ := hz
  obtain ⟨v18, hz⟩ := hz
  obtain ⟨v19, hz⟩ := hz
  obtain ⟨v20, hz⟩ := hz
  obtain ⟨v21, hz⟩ := hz
  obtain ⟨v22, hz⟩ := hz
  obtain ⟨v23, hz⟩ := hz
  obtain ⟨v24, hz⟩ := hz
  obtain ⟨v25, hz⟩ := hz
  obtain ⟨v26, hz⟩ := hz
  subst hz
  have AO := AO.out.moved m1 (fun e => n1 e)
  have MV := MV.out.trans_new m1 (fun i e => .inl (e ▸ g1'))
  have hsz : (nums .u64 (kLanes (bytesOf s) s.size)).toArray.size = 25 := by simp [nums, kLanes_length]
  have hone : (nums .u64 (kLanes (bytesOf s) s.size)).toArray.all (·.oneCell') = true := by simp [nums, Value.oneCell']
  go_upto_region 6 with fail
  apply wp_region_lit
  refine wpList_load_row rfl 93 _ rfl g rfl 93 _ (0, 0) _ S1 Try.underlying93 rfl (by rw [hsz]; kernel_rfl) ?_
  refine wpList_store_rowTo rfl 93 _ _ rfl rfl go (nums .u64 (kLanes (bytesOf s) s.size)).toArray (by kernel_rfl) (by kernel_rfl) 93 _ AO (by rw [hsz]; kernel_rfl) (by rw [hsz]; rfl) hone ?_
  have AF := setRow_heap W2 go _ (nums .u64 (kLanes (bytesOf s) s.size)).toArray 93 (0, 0) AO
  have BF : Below w.heap.size w (W2.setRow go (nums .u64 (kLanes (bytesOf s) s.size)).toArray) := below_setRow (MV.below (fun i hi h => absurd h (by have := HG.out; omega))) (Nat.le_of_eq HG.out) _
  generalize W2.setRow go (nums .u64 (kLanes (bytesOf s) s.size)).toArray = W3 at AF BF ⊢
  refine wpList_frame (a' := ⟨List.toArray (Value.string s :: undef :: Value.pointer (some ⟨go, 0, none⟩) :: Value.pointer (some ⟨g, 0, none⟩) :: v4 :: Value.agg z25 :: v6 :: v7 :: v8 :: v9 :: v10 :: v11 :: v12 :: v13 :: v14 :: v15 :: v16 :: v17 :: v18 :: v19 :: v20 :: v21 :: v22 :: v23 :: v24 :: v25 :: v26 :: Value.agg (nums .u64 (kLanes (bytesOf s) s.size)).toArray :: []), []⟩) (by kernel_rfl) ?_
  apply wpList_nil
  go_wp2
  refine bodyPost_ret (results_cell_row rfl _ _ go 93 _ (0, 0) _ rfl AF Try.underlying93 rfl (by rw [hsz]; kernel_rfl)) rfl ?_
  exact ⟨rfl, BF⟩
end Go.Proofs.Ytlogocmojnhpbaa.Print
