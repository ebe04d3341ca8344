/- The contract of lanesOf: the state that a text's bytes are. -/
import Derived.Test.YtlogocmojnhpbaaGivePermF
import Derived.Laws.CopyOwn
namespace Go.Proofs.Ytlogocmojnhpbaa.Print
open Go.RowKit Go.Proofs.YtlogocmojnhpbaaW.PrintWords
set_option linter.unusedVariables false
set_option linter.unusedSimpArgs false
/-- The lanes of a text's first i bytes. -/
def kLanes (xs : List Int) : Nat → List Int
  | 0 => List.replicate 25 0
  | i + 1 => (kLanes xs i).set (i / 8) (Go.bits .or .u64 ((kLanes xs i).getD (i / 8) 0) (IntKind.u64.wrap (IntKind.u64.wrap (xs.getD i 0) * 2 ^ (8 * (i % 8)))))
theorem kLanes_length (xs : List Int) (i : Nat) : (kLanes xs i).length = 25 := by
  induction i with
  | zero => rfl
  | succ i ih => simp [kLanes, ih]
theorem addBlk (a : Addr) (n : Nat) : (a.add n).block = a.block := by unfold Addr.add; split <;> rfl
theorem Moved.keep {w w' : World} {g : Nat} (h : Moved w w' (fun i => i = g)) : KeepBut w w' g none := ⟨h.1, fun i hi hg _ => h.2.1 i hi hg⟩
set_option maxHeartbeats 8000000 in
set_option maxRecDepth 100000 in
theorem lanesI.loop (g c0 : Nat) (A0 : Option Addr) (l0 : List Int) (wr : World) {u0 u1 u2 u4 u5 u6 u10 u11 u12 u13 u14 u15 u16 u17 u18 u19 u20 u21 u22 u23 u24 u25 u26 u27 : Value} {Q : Exit → Act → World → Prop} (hr0 : Kd.C (Kd.int .u8) wr A0 l0.length l0) (hn : l0.length ≤ 200) (hne : 0 < l0.length → ∀ ad, A0 = some ad → ad.block ≠ g) (hb : Arr wr g 96 .u64 (kLanes l0 0))
    (hexit : ∀ (a' : Act) (w' : World), Arr w' g 96 .u64 (kLanes l0 l0.length) → Moved wr w' (fun i => i = g) → (∃ z4 z5 z9 z10 z11 z12 z13 z14 z15 z16 z17 z18 z19 z20 z21 z22 z23 z24 z25 z26 : Value, a' = ⟨List.toArray (u0 :: u1 :: u2 :: Value.pointer (some ⟨g, 0, none⟩) :: z4 :: z5 :: u6 :: Value.slice A0 l0.length c0 :: Value.int .i64 (l0.length : Int) :: z9 :: z10 :: z11 :: z12 :: z13 :: z14 :: z15 :: z16 :: z17 :: z18 :: z19 :: z20 :: z21 :: z22 :: z23 :: z24 :: z25 :: z26 :: u27 :: []), []⟩) → Q (.exit 0) a' w') :
    Code.wp Try.prog (nthLoop Try.f84.body 0) Q ⟨List.toArray (u0 :: u1 :: u2 :: Value.pointer (some ⟨g, 0, none⟩) :: u4 :: u5 :: u6 :: Value.slice A0 l0.length c0 :: Value.int .i64 (l0.length : Int) :: Value.int .i64 0 :: u10 :: u11 :: u12 :: u13 :: u14 :: u15 :: u16 :: u17 :: u18 :: u19 :: u20 :: u21 :: u22 :: u23 :: u24 :: u25 :: u26 :: u27 :: []), []⟩ wr := by
  conv => arg 2; whnf
  have HR := Aside0.mk hr0
  have HB := Aside0.mk hb
  have HX := Aside0.mk hexit
  clear hb hexit hr0
  go_loopg [9] l0.length (fun gg s9 w' => ∃ k : Nat, k ≤ l0.length ∧ l0.length - k ≤ gg ∧ s9 = .int .i64 k ∧ Aside0 (Arr w' g 96 .u64 (kLanes l0 k)) ∧ Aside0 (Moved wr w' (fun i => i = g)))
  case atStart => exact ⟨0, by omega, by omega, rfl, HB, ⟨Moved.refl _ _⟩⟩
  case round =>
    obtain ⟨k, hk, hg, rfl, HK, HO⟩ := hrel
    by_cases hlt : k < l0.length
    · have hltz : (k : Int) < (l0.length : Int) := by omega
      have h0z : (0 : Int) ≤ (k : Int) := by omega
      obtain ⟨ad, e0, hx0⟩ := Kd.at_int HR.out (k : Int) h0z hltz
      have hx1 := keep_cell HO.out.keep hx0 (by rw [addBlk]; exact hne (by omega) ad e0)
      subst e0
      simp only [Int.toNat_natCast] at hx1
      have q0 := HK.out.cell (k / 8) (by rw [kLanes_length]; omega)
      have f0 := HK.out.frozen (k / 8)
      obtain ⟨c, hc⟩ : ∃ c, c = rd l0 (k : Int) := ⟨_, rfl⟩
      rw [← hc] at hx1
      have HC : Aside0 (c = l0.getD k 0) := ⟨by rw [hc]; simp [rd]⟩
      clear hx0 hc
      go_wp2
      have a1 : ((k : Int)).tdiv 8 = (k : Int) / 8 := Int.tdiv_eq_ediv_of_nonneg (by omega)
      have a2 : IntKind.i64.wrap ((k : Int) / 8) = (k : Int) / 8 := by rw [IntKind.wrap_i64]; omega
      have a3 : (0 : Int) ≤ (k : Int) / 8 := by omega
      have a4 : (k : Int) / 8 < 25 := by omega
      have a5 : ((k : Int) / 8).toNat = k / 8 := by omega
      have b1 : ((k : Int)).tmod 8 = (k : Int) % 8 := Int.tmod_eq_emod_of_nonneg (by omega)
      have b2 : IntKind.i64.wrap ((k : Int) % 8) = (k : Int) % 8 := by rw [IntKind.wrap_i64]; omega
      have b3 : IntKind.i64.wrap (8 * ((k : Int) % 8)) = 8 * ((k : Int) % 8) := by rw [IntKind.wrap_i64]; omega
      have b4 : (0 : Int) ≤ 8 * ((k : Int) % 8) := by omega
      have b5 : (8 * ((k : Int) % 8)).toNat = 8 * (k % 8) := by omega
      have b6 : min (8 * (k % 8)) 64 = 8 * (k % 8) := by omega
      refine wp_region_still_tail 12 (by kernel_rfl) (by kernel_rfl) ?_
      show wpStill _ _ (World.drew _) (fun a' => wpList _ _ _ _ a' (World.drew _)) _ _
      simp only [List.take_succ_cons, List.take_zero, List.drop_succ_cons, List.drop_zero]
      repeat still_step
      refine wpStill_nil ?_
      clear a1 a2 a3 a4 a5 b1 b2 b3 b4 b5 b6
      go_wp2
      go_roundg (l0.length - (k + 1))
      case measure => omega
      case rel => exact ⟨k + 1, by omega, by omega, by go_num, ⟨by rw [HC.out]; exact (HK.out.drew).set (k / 8) _⟩, ⟨(HO.out.drew).set g _ _ (.inl rfl)⟩⟩
    · have hk25 : k = l0.length := by omega
      subst hk25
      have hd : decide ((l0.length : Int) < (l0.length : Int)) = false := decide_eq_false (by omega)
      go_wp2
      exact HX.out _ _ HK.out HO.out ⟨_, _, _, _, _, _, _, _, _, _, _, _, _, _, _, _, _, _, _, _, rfl⟩
set_option maxHeartbeats 8000000 in
set_option maxRecDepth 100000 in
theorem lanesI.calls (A0 : Option Addr) (c0 : Nat) (l0 : List Int) (w : World) (hr0 : Kd.C (Kd.int .u8) w A0 l0.length l0) (hn : l0.length ≤ 200) :
    Calls Try.prog 84 #[.slice A0 l0.length c0] w fun e w' => e = .returned (.agg (nums .u64 (kLanes l0 l0.length)).toArray) ∧ Below w.heap.size w w' := by
  go_enter Try.func84, Try.ntmps84
  go_upto_region 0 with fail
  apply wp_region_lit
  refine Go.Great.wpList_allocTo rfl (some 2) rfl (.pointer (some ⟨w.heap.size, 0, none⟩)) (.cells z25 96) (by kernel_rfl) ?_
  refine wpList_frame (a' := ⟨List.toArray (Value.slice A0 l0.length c0 :: undef :: Value.pointer (some ⟨w.heap.size, 0, none⟩) :: undef :: undef :: undef :: undef :: undef :: undef :: undef :: undef :: undef :: undef :: undef :: undef :: undef :: undef :: undef :: undef :: undef :: undef :: undef :: undef :: undef :: undef :: undef :: undef :: undef :: []), []⟩) (by kernel_rfl) ?_
  apply wpList_nil
  go_upto_region 1 with fail
  apply wp_region_lit
  refine wpList_buildTo rfl 96 _ rfl (some 6) rfl z25 (by kernel_rfl) ?_
  refine Go.Great.wpList_allocTo rfl (some 3) rfl (.pointer (some ⟨(w.alloc (.cells z25 96)).heap.size, 0, none⟩)) (.cells z25 96) (by kernel_rfl) ?_
  refine wpList_store_rowTo rfl 96 _ _ rfl rfl (w.alloc (.cells z25 96)).heap.size z25 (by kernel_rfl) (by kernel_rfl) 96 z25 (blk_new _ _) (by kernel_rfl) rfl (by kernel_rfl) ?_
  rw [setRow_self _ _ _ _ _ (blk_new _ _)]
  refine wpList_frame (a' := ⟨List.toArray (Value.slice A0 l0.length c0 :: undef :: Value.pointer (some ⟨w.heap.size, 0, none⟩) :: Value.pointer (some ⟨(w.alloc (Obj.cells z25 96)).heap.size, 0, none⟩) :: undef :: undef :: Value.agg z25 :: undef :: undef :: undef :: undef :: undef :: undef :: undef :: undef :: undef :: undef :: undef :: undef :: undef :: undef :: undef :: undef :: undef :: undef :: undef :: undef :: undef :: []), []⟩) (by kernel_rfl) ?_
  apply wpList_nil
  have AO : Arr ((w.alloc (.cells z25 96)).alloc (.cells z25 96)) w.heap.size 96 .u64 (List.replicate 25 0) := blk_alloc (blk_new _ _) _
  have AG : Arr ((w.alloc (.cells z25 96)).alloc (.cells z25 96)) (w.alloc (.cells z25 96)).heap.size 96 .u64 (kLanes l0 0) := blk_new _ _
  have BW : Below w.heap.size w ((w.alloc (.cells z25 96)).alloc (.cells z25 96)) := below_alloc (below_alloc (Below.refl _ w) _) _
  have g1 : w.heap.size < (w.alloc (.cells z25 96)).heap.size := blk_lt (blk_new w (.cells z25 96))
  have HR := Kd.C_below hr0 BW
  have hne : ∀ ad, A0 = some ad → 0 < l0.length → ad.block < w.heap.size := by
    intro ad e h0
    obtain ⟨ad', e', hx⟩ := Kd.at_int hr0 0 (by omega) (by omega)
    have := World.block_lt_of_cell? w _ hx
    rw [e] at e'
    cases e'
    rw [addBlk] at this
    exact this
  have hne' : ∀ g : Nat, w.heap.size ≤ g → (0 < l0.length → ∀ ad, A0 = some ad → ad.block ≠ g) := fun g hg h0 ad e => by have := hne ad e h0; omega
  have MV := ((Moved.refl w (fun i => w.heap.size ≤ i)).alloc (.cells z25 96)).alloc (.cells z25 96)
  have hne2 := hne' (w.alloc (.cells z25 96)).heap.size (by omega)
  clear hne hne' BW hr0
  generalize ((w.alloc (.cells z25 96)).alloc (.cells z25 96)) = W1 at AG AO MV HR ⊢
  generalize (w.alloc (.cells z25 96)).heap.size = g at AG g1 hne2 ⊢
  generalize hga : w.heap.size = go at AO MV g1 ⊢
  have HG := Aside0.mk hga
  have n1 : go ≠ g := by omega
  have g1' : go ≤ g := by omega
  have AO := Aside0.mk AO
  have AG := Aside0.mk AG
  have MV := Aside0.mk MV
  have HR := Aside0.mk HR
  have HN := Aside0.mk hne2
  clear hga g1 hne2
  go_wp2
  refine lanesI.loop g c0 A0 l0 W1 HR.out hn HN.out AG.out ?_
  intro a2 W2 S1 m1 hz
  obtain ⟨v4, hz⟩ := hz
  obtain ⟨v5, hz⟩ := hz
  obtain ⟨v9, hz⟩ := hz
  obtain ⟨v10, hz⟩ := hz
  obtain ⟨v11, hz⟩ := hz
  obtain ⟨v12, hz⟩ := hz
  obtain ⟨v13, hz⟩ := hz
  obtain ⟨v14, hz⟩ := hz
  obtain ⟨v15, hz⟩ := hz
  obtain ⟨v16, hz⟩ := hz
  obtain ⟨v17, hz⟩ := hz
  obtain ⟨v18, hz⟩ := hz
  obtain ⟨v19, hz⟩ := hz
  obtain ⟨v20, hz⟩ := hz
  obtain ⟨v21, hz⟩ := hz
  obtain ⟨v22, hz⟩ := hz
  obtain ⟨v23, hz⟩ := hz
  obtain ⟨v24, hz⟩ := hz
  obtain ⟨v25, hz⟩ := hz
  obtain ⟨v26, hz⟩ := hz
  subst hz
  have AO := AO.out.moved m1 (fun e => n1 e)
  have MV := MV.out.trans_new m1 (fun i e => .inl (e ▸ g1'))
  have hsz : (nums .u64 (kLanes l0 l0.length)).toArray.size = 25 := by simp [nums, kLanes_length]
  have hone : (nums .u64 (kLanes l0 l0.length)).toArray.all (·.oneCell') = true := by simp [nums, Value.oneCell']
  go_upto_region 7 with fail
  apply wp_region_lit
  refine wpList_load_row rfl 96 _ rfl g rfl 96 _ (0, 0) _ S1 Try.underlying96 rfl (by rw [hsz]; kernel_rfl) ?_
  refine wpList_store_rowTo rfl 96 _ _ rfl rfl go (nums .u64 (kLanes l0 l0.length)).toArray (by kernel_rfl) (by kernel_rfl) 96 _ AO (by rw [hsz]; kernel_rfl) (by rw [hsz]; rfl) hone ?_
  have AF := setRow_heap W2 go _ (nums .u64 (kLanes l0 l0.length)).toArray 96 (0, 0) AO
  have BF : Below w.heap.size w (W2.setRow go (nums .u64 (kLanes l0 l0.length)).toArray) := below_setRow (MV.below (fun i hi h => absurd h (by have := HG.out; omega))) (Nat.le_of_eq HG.out) _
  generalize W2.setRow go (nums .u64 (kLanes l0 l0.length)).toArray = W3 at AF BF ⊢
  refine wpList_frame (a' := ⟨List.toArray (Value.slice A0 l0.length c0 :: undef :: Value.pointer (some ⟨go, 0, none⟩) :: Value.pointer (some ⟨g, 0, none⟩) :: v4 :: v5 :: Value.agg z25 :: Value.slice A0 l0.length c0 :: Value.int .i64 (l0.length : Int) :: v9 :: v10 :: v11 :: v12 :: v13 :: v14 :: v15 :: v16 :: v17 :: v18 :: v19 :: v20 :: v21 :: v22 :: v23 :: v24 :: v25 :: v26 :: Value.agg (nums .u64 (kLanes l0 l0.length)).toArray :: []), []⟩) (by kernel_rfl) ?_
  apply wpList_nil
  go_wp2
  refine bodyPost_ret (results_cell_row rfl _ _ go 96 _ (0, 0) _ rfl AF Try.underlying96 rfl (by rw [hsz]; kernel_rfl)) rfl ?_
  exact ⟨rfl, BF⟩
end Go.Proofs.Ytlogocmojnhpbaa.Print
