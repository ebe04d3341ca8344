-- Packed by a program of this session (slim.py) out of printed texts; not trusted, Lean checks it.
import Derived.Test.YtlogocmojnhpbaaPrint0
import Derived.Test.YtlogocmojnhpbaaK4
import Derived.Deep.RegionHeld3
import Derived.Shelf.Abstract
import Derived.WalkKit
import Derived.Test.YtlogocmojnhpbaaLogA
import Derived.Lib.Strings
import Derived.Lib.Slices
import Derived.Lib.Small
import Derived.Lib.Walk
import Derived.Lib.BitFns
/- Plain words for the regions in which a source hashes pieces in an open order: what stays, pieces' rows. -/
namespace Go.Proofs.Ytlogocmojnhpbaa.Print
open Go.RowKit Go.Proofs.YtlogocmojnhpbaaW.PrintWords Go.Proofs.YtlogocmojnhpbaaW.PrintLast
set_option linter.unusedVariables false
set_option linter.unusedSimpArgs false
section
variable {W W1 : World} {p : Addr} {v : Value} {g cap base : Nat} {xs : List Int}
theorem keep_alloc (h : W.cell? p = some v) (o : Obj) : (W.alloc o).cell? p = some v := (World.cell?_of_block ((below_alloc (Below.refl W.heap.size W) o).block _ (World.block_lt_of_cell? W _ h))).trans h
theorem keep_bytes (h : W.cell? p = some v) (e : TypeId) (s : ByteArray) : (Lib.bytesWorld W e s).cell? p = some v := (Lib.bytesWorld_old W e s p (World.block_lt_of_cell? W _ h)).trans h
theorem keep_below (h : W.cell? p = some v) (hb : Below W.heap.size W W1) : W1.cell? p = some v := (World.cell?_of_block (hb.block _ (World.block_lt_of_cell? W _ h))).trans h
theorem MRow.bytes (h : MRow W g cap xs) (e : TypeId) (s : ByteArray) : MRow (Lib.bytesWorld W e s) g cap xs := h.step (Lib.bytesWorld_at_old W e s g h.lt)
theorem MRow.of_lit (W : World) (xs : List Int) (hm : xs.length ≤ 1000) : MRow (W.alloc (.cells (nums .u8 xs).toArray 5)) W.heap.size xs.length xs :=
  ⟨(nums .u8 xs).toArray, (0, 0), blk_new _ _, .inr rfl, Nat.le_refl _, by unfold maxLen; omega, by simp [nums], List.take_of_length_le (by simp [nums])⟩
theorem below_bytes {B : Nat} {w : World} (h : Below B w W) (hB : B ≤ W.heap.size) (e : TypeId) (s : ByteArray) : Below B w (Lib.bytesWorld W e s) := bytes_below h hB e s
/-- A slice of bytes that is read. -/
def PRow (W : World) (v : Value) (xs : List Int) : Prop := ∃ A c, v = .slice A xs.length c ∧ xs.length ≤ c ∧ (Kd.int .u8).C W A xs.length xs
theorem PRow.step {v : Value} (h : PRow W v xs) (hb : Below W.heap.size W W1) : PRow W1 v xs := by
  obtain ⟨A, c, e, hc, hC⟩ := h
  exact ⟨A, c, e, hc, Kd.C_below hC hb⟩
theorem PRow.alloc {v : Value} (h : PRow W v xs) (o : Obj) : PRow (W.alloc o) v xs := h.step (below_alloc (Below.refl _ _) o)
theorem PRow.bytes {v : Value} (h : PRow W v xs) (e : TypeId) (s : ByteArray) : PRow (Lib.bytesWorld W e s) v xs := h.step (bytes_below (Below.refl _ _) (Nat.le_refl _) e s)
theorem PRow.of_M (h : MRow W g cap xs) {n : Nat} (hn : n = xs.length) : PRow W (.slice (some ⟨g, 0, none⟩) n cap) xs := by
  subst hn
  obtain ⟨cur, fz, h1, h2, h3, _⟩ := h
  exact ⟨_, _, rfl, h3, MRow.reads ⟨cur, fz, h1, h2, h3, by assumption⟩⟩
theorem PRow.of_bytes (W : World) (s : ByteArray) (hs : s.size ≤ 9223372036854775807) : PRow (Lib.bytesWorld W 5 s) (.slice (some ⟨W.heap.size, 0, none⟩) s.size (grownCap W s.size 0 5)) (bytesOf s) := PRow.of_M (MRow.of_bytes W s hs) (bytesOf_length s).symm
theorem PRow.of_lit (W : World) (xs : List Int) (cells : Array Value) (n : Nat) (hc : cells = (nums .u8 xs).toArray) (hn : n = xs.length) (hm : xs.length ≤ 1000) : PRow (W.alloc (.cells cells 5)) (.slice (some ⟨W.heap.size, 0, none⟩) n n) xs := by
  subst hc hn
  exact PRow.of_M (MRow.of_lit W xs hm) rfl
theorem PRow.of_R {v : Value} {e : Nat} {ok : Nat → Prop} (h : (Kd.int .u8).R e W base ok v xs) : PRow W v xs := by
  obtain ⟨A, c, he, hc, hC⟩ := Kd.R_reads h
  exact ⟨A, c, he, hc, hC⟩
/-- Three pieces, four pieces. -/
theorem pieces3 {v0 v1 v2 : Value} {x0 x1 x2 : List Int} (h0 : PRow W v0 x0) (h1 : PRow W v1 x1) (h2 : PRow W v2 x2) : (Kd.slice 5 (Kd.int .u8)).C (W.alloc (.cells #[v0, v1, v2] 25)) (some ⟨W.heap.size, 0, none⟩) 3 [x0, x1, x2] := by
  refine pieces_C _ _ [v0, v1, v2] [x0, x1, x2] (blk_new _ _) rfl (by simp) ?_
  intro j v xs hv hx
  match j with
  | 0 =>
    obtain rfl : v0 = v := by simpa using hv
    obtain rfl : x0 = xs := by simpa using hx
    exact h0.alloc _
  | 1 =>
    obtain rfl : v1 = v := by simpa using hv
    obtain rfl : x1 = xs := by simpa using hx
    exact h1.alloc _
  | 2 =>
    obtain rfl : v2 = v := by simpa using hv
    obtain rfl : x2 = xs := by simpa using hx
    exact h2.alloc _
  | j + 3 => simp at hv
theorem pieces4 {v0 v1 v2 v3 : Value} {x0 x1 x2 x3 : List Int} (h0 : PRow W v0 x0) (h1 : PRow W v1 x1) (h2 : PRow W v2 x2) (h3 : PRow W v3 x3) : (Kd.slice 5 (Kd.int .u8)).C (W.alloc (.cells #[v0, v1, v2, v3] 25)) (some ⟨W.heap.size, 0, none⟩) 4 [x0, x1, x2, x3] := by
  refine pieces_C _ _ [v0, v1, v2, v3] [x0, x1, x2, x3] (blk_new _ _) rfl (by simp) ?_
  intro j v xs hv hx
  match j with
  | 0 =>
    obtain rfl : v0 = v := by simpa using hv
    obtain rfl : x0 = xs := by simpa using hx
    exact h0.alloc _
  | 1 =>
    obtain rfl : v1 = v := by simpa using hv
    obtain rfl : x1 = xs := by simpa using hx
    exact h1.alloc _
  | 2 =>
    obtain rfl : v2 = v := by simpa using hv
    obtain rfl : x2 = xs := by simpa using hx
    exact h2.alloc _
  | 3 =>
    obtain rfl : v3 = v := by simpa using hv
    obtain rfl : x3 = xs := by simpa using hx
    exact h3.alloc _
  | j + 4 => simp at hv
theorem kCat3 (x0 x1 x2 : List Int) : kCat [x0, x1, x2] 3 = x0 ++ x1 ++ x2 := by simp [kCat]
theorem kCat4 (x0 x1 x2 x3 : List Int) : kCat [x0, x1, x2, x3] 4 = x0 ++ x1 ++ x2 ++ x3 := by simp [kCat]
end
end Go.Proofs.Ytlogocmojnhpbaa.Print
namespace Go.Proofs.Ytlogocmojnhpbaa.Print
open Go.RowKit Go.Proofs.YtlogocmojnhpbaaW.PrintWords Go.Proofs.YtlogocmojnhpbaaW.PrintLast Go.Proofs.YtlogocmojnhpbaaW.PrintMore
attribute [local go_sem] max2_int min2_int max_two min_two max_three min_three max_four min_four   -- for this text's walks alone
set_option linter.unusedVariables false
set_option linter.unusedSimpArgs false

/-! ### impl_isHash: function 93 -/
def impl_isHash.f (a0 : ByteArray) : Option (Bool) := some ((a0.size : Int) == 32)
set_option maxHeartbeats 8000000 in
set_option maxRecDepth 100000 in
theorem impl_isHash.calls (a0 : ByteArray) (r : Bool) (w : World) (h : impl_isHash.f a0 = some r) :
    Calls Try.prog 93 #[.string a0] w fun e w' => e = .returned (.bool r) ∧ Drawn0 w w' := by
  have H : (some ((a0.size : Int) == 32)) = some r := h
  clear h
  obtain rfl := Option.some.inj H
  go_enter Try.func93, Try.ntmps93
  go_wp2
  go_ret
  exact ⟨by first | rfl | (simp; done) | (simp [*]; done), by repeat (first | exact Drawn0.refl _ | apply Drawn0.step)⟩

end Go.Proofs.Ytlogocmojnhpbaa.Print
/- Contracts: what slices.IndexFunc and slices.ContainsFunc answer for every slice of texts; the two closures that the program hands them. -/
namespace Go.Proofs.Ytlogocmojnhpbaa.Print
open Go Go.RowKit Go.Proofs.YtlogocmojnhpbaaW.PrintWords Go.Proofs.YtlogocmojnhpbaaW.PrintLast
set_option linter.unusedVariables false
set_option linter.unusedSimpArgs false

/-- What slices.IndexFunc hands back: a place from 0 on just where the predicate holds somewhere. -/
def SomeIdxT (b : Bool) (e : Ending) : Prop := ∃ i : Int, e = .returned (.int .i64 i) ∧ decide (i ≥ 0) = b
theorem any_take_T (p : ByteArray → Bool) (l0 : List ByteArray) (kk : Nat) (hk : kk ≤ l0.length) (h : ∀ j, j < kk → p (l0.getD j ByteArray.empty) = false) (hn : l0.length ≤ kk) : l0.any p = false := by
  rw [List.any_eq_false]
  intro x hx
  obtain ⟨j, hj, rfl⟩ := List.mem_iff_getElem.1 hx
  have := h j (by omega)
  rw [List.getD_eq_getElem?_getD, List.getElem?_eq_getElem hj] at this
  simpa using this
theorem any_hit_T (p : ByteArray → Bool) (l0 : List ByteArray) (kk : Nat) (hk : kk < l0.length) (h : p (l0.getD kk ByteArray.empty) = true) : l0.any p = true := by
  rw [List.any_eq_true]
  refine ⟨l0.getD kk ByteArray.empty, ?_, h⟩
  rw [List.getD_eq_getElem?_getD, List.getElem?_eq_getElem hk]
  exact List.getElem_mem hk
set_option maxHeartbeats 4000000 in
theorem idx_T.calls (g : Nat) (eg : ∀ args w, (callFunc g args).run Try.prog w = .ok (.enter g args) w) (p : ByteArray → Bool) (A0 : Option Addr) (c0 : Nat) (l0 : List ByteArray) (w : World) (hr0 : Kd.C Kd.string w A0 l0.length l0)
    (hp : ∀ (W : World) (x : ByteArray), Below w.heap.size w W → Calls Try.prog g #[.string x] W fun e w' => e = .returned (.bool (p x)) ∧ Below w.heap.size w w') :
    Calls Try.prog 159 #[.slice A0 l0.length c0, .func (.func g) #[] #[]] w fun e w' => SomeIdxT (l0.any p) e ∧ Below w.heap.size w w' := by
  have HR0 := Aside0.mk hr0
  have hbig : l0.length ≤ 9223372036854775807 := hr0.2.1
  have HP := Aside0.mk hp
  clear hr0 hp
  go_enter Try.func159, Try.ntmps159
  go_wp2
  go_loopg [5, 8] l0.length (fun gg _ s8 wr => ∃ kk : Nat, kk ≤ l0.length ∧ l0.length - kk ≤ gg ∧ s8 = .int .i64 kk ∧ Aside0 (Below w.heap.size w wr) ∧ Aside0 (∀ j, j < kk → p (l0.getD j ByteArray.empty) = false))
  case atStart => exact ⟨0, Nat.zero_le _, by omega, rfl, ⟨Below.refl _ w⟩, ⟨fun j hj => absurd hj (Nat.not_lt_zero _)⟩⟩
  case round =>
    obtain ⟨kk, hkk, hg, rfl, BW, AA⟩ := hrel
    by_cases hlt : kk < l0.length
    · have hltz : (kk : Int) < (l0.length : Int) := by omega
      have h0z : (0 : Int) ≤ (kk : Int) := by omega
      obtain ⟨ad, e0, hx0⟩ := Kd.at_string HR0.out (kk : Int) h0z hltz
      subst e0
      replace hx0 := (BW.out.cell (World.block_lt_of_cell? w _ hx0)).trans hx0
      have hcall := HP.out wr (rdOf ByteArray.empty l0 (kk : Int)) BW.out
      have hsame : Aside0 (rdOf ByteArray.empty l0 (kk : Int) = l0.getD kk ByteArray.empty) := ⟨rfl⟩
      generalize hy : rdOf ByteArray.empty l0 (kk : Int) = y at hx0 hcall hsame
      clear hy
      simp only [Int.toNat_natCast] at hx0
      cases hq : p y with
      | true =>
        have hq' := Aside0.mk hq
        rw [hq] at hcall
        clear hq
        have HC := Aside0.mk hcall
        clear hcall
        go_wp2_with (go_at_fn g; refine HC.out.mono ?_; rintro e w' ⟨rfl, hb'⟩)
        go_ret
        exact ⟨⟨_, rfl, by rw [any_hit_T p l0 kk hlt (by rw [← hsame.out]; exact hq'.out)]; simp⟩, hb'⟩
      | false =>
        have hq' := Aside0.mk hq
        rw [hq] at hcall
        clear hq
        have HC := Aside0.mk hcall
        clear hcall
        go_wp2_with (go_at_fn g; refine HC.out.mono ?_; rintro e w' ⟨rfl, hb'⟩)
        go_roundg (l0.length - (kk + 1))
        case measure => omega
        case rel =>
          refine ⟨kk + 1, by omega, by omega, by go_num, ⟨hb'⟩, ⟨fun j hj => ?_⟩⟩
          by_cases e : j = kk
          · subst e
            rw [← hsame.out]; exact hq'.out
          · exact AA.out j (by omega)
    · have hltz : ¬ (kk : Int) < (l0.length : Int) := by omega
      have hk : kk = l0.length := by omega
      have HK := Aside0.mk hk
      clear hk
      go_wp2
      go_ret
      exact ⟨⟨-1, rfl, by rw [any_take_T p l0 kk hkk AA.out (by have := HK.out; omega)]; rfl⟩, BW.out⟩
set_option maxHeartbeats 4000000 in
theorem con_T.calls (g : Nat) (eg : ∀ args w, (callFunc g args).run Try.prog w = .ok (.enter g args) w) (p : ByteArray → Bool) (A0 : Option Addr) (c0 : Nat) (l0 : List ByteArray) (w : World) (hr0 : Kd.C Kd.string w A0 l0.length l0)
    (hp : ∀ (W : World) (x : ByteArray), Below w.heap.size w W → Calls Try.prog g #[.string x] W fun e w' => e = .returned (.bool (p x)) ∧ Below w.heap.size w w') :
    Calls Try.prog 144 #[.slice A0 l0.length c0, .func (.func g) #[] #[]] w fun e w' => e = .returned (.bool (l0.any p)) ∧ Below w.heap.size w w' := by
  have HC := Aside0.mk (idx_T.calls g eg p A0 c0 l0 w hr0 hp)
  clear hr0 hp
  generalize l0.any p = b at HC ⊢
  go_enter Try.func144, Try.ntmps144
  go_wp2_with (go_at_call 159; refine HC.out.mono ?_; rintro e w' ⟨⟨i, rfl, hi⟩, hb'⟩)
  go_ret
  exact ⟨by subst hi; rfl, hb'⟩

/-- Whether a leaf is too long. -/
def con_leaf.f (l0 : List ByteArray) : Option Bool := some (l0.any fun s => decide ((s.size : Int) > 64))
/-- Whether a text is no hash. -/
def con_path.f (l0 : List ByteArray) : Option Bool := some (l0.any fun h => !((h.size : Int) == 32))
set_option maxHeartbeats 4000000 in
theorem con_leaf.closure (w W : World) (x : ByteArray) (hW : Below w.heap.size w W) :
    Calls Try.prog 145 #[.string x] W fun e w' => e = .returned (.bool (decide ((x.size : Int) > 64))) ∧ Below w.heap.size w w' := by
  have HW := Aside0.mk hW
  clear hW
  go_enter Try.func145, Try.ntmps145
  go_wp2
  go_ret
  exact ⟨rfl, HW.out⟩
set_option maxHeartbeats 4000000 in
theorem con_path.closure (w W : World) (x : ByteArray) (hW : Below w.heap.size w W) :
    Calls Try.prog 147 #[.string x] W fun e w' => e = .returned (.bool (!((x.size : Int) == 32))) ∧ Below w.heap.size w w' := by
  have HW := Aside0.mk hW
  clear hW
  have HC := Aside0.mk (impl_isHash.calls x ((x.size : Int) == 32) W rfl)
  generalize ((x.size : Int) == 32) = b at HC ⊢
  go_enter Try.func147, Try.ntmps147
  go_wp2_with (go_at_call 93; refine HC.out.mono ?_; rintro e w' ⟨rfl, hd⟩)
  go_ret
  exact ⟨rfl, below_step HW.out hd.below⟩
theorem con_leaf.calls (A0 : Option Addr) (c0 : Nat) (l0 : List ByteArray) (r : Bool) (w : World) (hr0 : Kd.C Kd.string w A0 l0.length l0) (hc0 : l0.length ≤ c0) (h : con_leaf.f l0 = some r) :
    Calls Try.prog 144 #[.slice A0 l0.length c0, .func (.func 145) #[] #[]] w fun e w' => e = .returned (.bool r) ∧ Below w.heap.size w w' := by
  obtain rfl := Option.some.inj h
  exact con_T.calls _ (Go.Proofs.enters_of Try.func145 (by kernel_rfl) rfl) _ A0 c0 l0 w hr0 fun W x hW => con_leaf.closure w W x hW
theorem con_path.calls (A0 : Option Addr) (c0 : Nat) (l0 : List ByteArray) (r : Bool) (w : World) (hr0 : Kd.C Kd.string w A0 l0.length l0) (hc0 : l0.length ≤ c0) (h : con_path.f l0 = some r) :
    Calls Try.prog 144 #[.slice A0 l0.length c0, .func (.func 147) #[] #[]] w fun e w' => e = .returned (.bool r) ∧ Below w.heap.size w w' := by
  obtain rfl := Option.some.inj h
  exact con_T.calls _ (Go.Proofs.enters_of Try.func147 (by kernel_rfl) rfl) _ A0 c0 l0 w hr0 fun W x hW => con_path.closure w W x hW
end Go.Proofs.Ytlogocmojnhpbaa.Print
/- The contract of logOf: how many halvings till 1 is left, for numbers up to 65535. -/
namespace Go.Proofs.Ytlogocmojnhpbaa.Print
open Go.RowKit Go.Proofs.YtlogocmojnhpbaaW.PrintWords Go.Proofs.YtlogocmojnhpbaaW.PrintLast
set_option linter.unusedVariables false
set_option linter.unusedSimpArgs false
set_option maxHeartbeats 4000000 in
theorem log.calls (x : Int) (w : World) (h0 : 0 ≤ x) (h1 : x ≤ 65535) :
    Calls Try.prog 160 #[.int .u64 x] w fun e w' => e = .returned (.int .i64 (Lib.bitLen x.toNat)) ∧ w' = w := by
  go_enter Try.func160, Try.ntmps160
  go_wp2_with (go_at_call 165; refine (log64.calls x _ h0 (by omega)).mono ?_; rintro e w' ⟨rfl, rfl⟩)
  go_ret
  exact ⟨rfl, rfl⟩
def impl_logOf.f (a0 : Int) : Option Int := if 0 ≤ a0 ∧ a0 ≤ 65535 then some ((Lib.bitLen a0.toNat : Int) - 1) else none
set_option maxHeartbeats 4000000 in
theorem impl_logOf.calls (a0 : Int) (r : Int) (w : World) (h : impl_logOf.f a0 = some r) :
    Calls Try.prog 146 #[.int .i64 a0] w fun e w' => e = .returned (.int .i64 r) ∧ Below w.heap.size w w' := by
  unfold impl_logOf.f at h
  split at h
  · next hs =>
    obtain ⟨h0, h1⟩ := hs
    obtain rfl := Option.some.inj h
    have L := fun w => log.calls a0 w h0 h1
    have hb : Lib.bitLen a0.toNat ≤ 64 := Lib.bitLen_le _ 64 (by omega) (by omega)
    generalize Lib.bitLen a0.toNat = b at L hb ⊢
    have L := Aside0.mk L
    clear h
    go_enter Try.func146, Try.ntmps146
    go_wp2_with (go_at_call 160; refine (L.out _).mono ?_; rintro e w' ⟨rfl, rfl⟩)
    go_ret
    exact ⟨rfl, Below.refl _ _⟩
  · cases h
end Go.Proofs.Ytlogocmojnhpbaa.Print
namespace Go.Proofs.Ytlogocmojnhpbaa.Print
open Go.RowKit Go.Proofs.YtlogocmojnhpbaaW.PrintWords Go.Proofs.YtlogocmojnhpbaaW.PrintLast Go.Proofs.YtlogocmojnhpbaaW.PrintMore
attribute [local go_sem] max2_int min2_int max_two min_two max_three min_three max_four min_four   -- for this text's walks alone
set_option linter.unusedVariables false
set_option linter.unusedSimpArgs false

/-! ### impl_isLong: function 83 -/
def impl_isLong.f (a0 : ByteArray) : Option (Bool) := some (decide ((a0.size : Int) > 65536))
set_option maxHeartbeats 8000000 in
set_option maxRecDepth 100000 in
theorem impl_isLong.calls (a0 : ByteArray) (r : Bool) (w : World) (h : impl_isLong.f a0 = some r) :
    Calls Try.prog 83 #[.string a0] w fun e w' => e = .returned (.bool r) ∧ Drawn0 w w' := by
  have H : (some (decide ((a0.size : Int) > 65536))) = some r := h
  clear h
  obtain rfl := Option.some.inj H
  go_enter Try.func83, Try.ntmps83
  go_wp2
  go_ret
  exact ⟨by first | rfl | (simp; done) | (simp [*]; done), by repeat (first | exact Drawn0.refl _ | apply Drawn0.step)⟩

/-! ### impl_leafText: function 91 -/
def impl_leafText.f (a0 : ByteArray) : Option (ByteArray) := if 1 + a0.size ≤ 9223372036854775807 then (some ((⟨#[0]⟩ : ByteArray) ++ a0)) else (none)
set_option maxHeartbeats 8000000 in
set_option maxRecDepth 100000 in
theorem impl_leafText.calls (a0 : ByteArray) (r : ByteArray) (w : World) (h : impl_leafText.f a0 = some r) :
    Calls Try.prog 91 #[.string a0] w fun e w' => e = .returned (.string r) ∧ Drawn0 w w' := by
  have H : (if 1 + a0.size ≤ 9223372036854775807 then (some ((⟨#[0]⟩ : ByteArray) ++ a0)) else (none)) = some r := h
  clear h
  by_cases c2 : 1 + a0.size ≤ 9223372036854775807
  · rw [if_pos c2] at H
    have c2b0 := eq_true c2
    have c2b1 : decide (1 + a0.size ≤ 9223372036854775807) = true := decide_eq_true c2
    try have c2b2 : (9223372036854775807 < 1 + a0.size) = False := eq_false (Nat.not_lt.2 c2)
    obtain rfl := Option.some.inj H
    go_enter Try.func91, Try.ntmps91
    go_wp2
    go_ret
    exact ⟨by first | rfl | (simp; done) | (simp [*]; done), by repeat (first | exact Drawn0.refl _ | apply Drawn0.step)⟩
  · rw [if_neg c2] at H
    exact absurd H (by simp)

/-! ### impl_nodeText: function 94 -/
def impl_nodeText.f (a0 : ByteArray) (a1 : ByteArray) : Option (ByteArray) := if 1 + a0.size ≤ 9223372036854775807 then (if ((⟨#[1]⟩ : ByteArray) ++ a0).size + a1.size ≤ 9223372036854775807 then (some (((⟨#[1]⟩ : ByteArray) ++ a0) ++ a1)) else (none)) else (none)
set_option maxHeartbeats 8000000 in
set_option maxRecDepth 100000 in
theorem impl_nodeText.calls (a0 : ByteArray) (a1 : ByteArray) (r : ByteArray) (w : World) (h : impl_nodeText.f a0 a1 = some r) :
    Calls Try.prog 94 #[.string a0, .string a1] w fun e w' => e = .returned (.string r) ∧ Drawn0 w w' := by
  have H : (if 1 + a0.size ≤ 9223372036854775807 then (if ((⟨#[1]⟩ : ByteArray) ++ a0).size + a1.size ≤ 9223372036854775807 then (some (((⟨#[1]⟩ : ByteArray) ++ a0) ++ a1)) else (none)) else (none)) = some r := h
  clear h
  by_cases c3 : 1 + a0.size ≤ 9223372036854775807
  · rw [if_pos c3] at H
    have c3b0 := eq_true c3
    have c3b1 : decide (1 + a0.size ≤ 9223372036854775807) = true := decide_eq_true c3
    try have c3b2 : (9223372036854775807 < 1 + a0.size) = False := eq_false (Nat.not_lt.2 c3)
    by_cases c4 : ((⟨#[1]⟩ : ByteArray) ++ a0).size + a1.size ≤ 9223372036854775807
    · rw [if_pos c4] at H
      have c4b0 := eq_true c4
      have c4b1 : decide (((⟨#[1]⟩ : ByteArray) ++ a0).size + a1.size ≤ 9223372036854775807) = true := decide_eq_true c4
      try have c4b2 : (9223372036854775807 < ((⟨#[1]⟩ : ByteArray) ++ a0).size + a1.size) = False := eq_false (Nat.not_lt.2 c4)
      try have c4b3 : (9223372036854775807 < 1 + a0.size + a1.size) = False := by have h_ := c4b2; simp only [ByteArray.size_append] at h_; exact h_
      obtain rfl := Option.some.inj H
      go_enter Try.func94, Try.ntmps94
      go_wp2
      go_ret
      exact ⟨by first | rfl | (simp; done) | (simp [*]; done), by repeat (first | exact Drawn0.refl _ | apply Drawn0.step)⟩
    · rw [if_neg c4] at H
      exact absurd H (by simp)
  · rw [if_neg c3] at H
    exact absurd H (by simp)

/-! ### impl_texts: function 113 -/
def impl_texts.l0 : Nat → Int → List ByteArray → List ByteArray → Int → Int → Option (List ByteArray)
  | 0, _, _, _, _, _ => none
  | k + 1, x0, x7, x14, x15, x16 => if x16 < x15 then (if 0 ≤ x16 then (if x16 < (x14.length : Int) then (if x16 < (x7.length : Int) then ((impl_hashOf.f (rdOf ByteArray.empty x7 x16)).bind fun t1095 => (if (Go.bits .and .i64 (shr .i64 x0 x16) 1) = 1 then ((impl_nodeText.f (rdOf ByteArray.empty x14 x16) t1095).bind fun t1096 => (if x7.length < 8796093022208 then (impl_texts.l0 k x0 (x7 ++ [t1096]) x14 x15 (wrap64 (x16 + 1))) else (none))) else ((impl_nodeText.f t1095 (rdOf ByteArray.empty x14 x16)).bind fun t1100 => (if x7.length < 8796093022208 then (impl_texts.l0 k x0 (x7 ++ [t1100]) x14 x15 (wrap64 (x16 + 1))) else (none))))) else (none)) else (none)) else (none)) else (some x7)
def impl_texts.f (k : Nat) (a0 : Int) (a1 : ByteArray) (l2 : List ByteArray) : Option (List ByteArray) := (impl_leafText.f a1).bind fun t1089 => (impl_texts.l0 k a0 (([t1089] : List ByteArray)) l2 (l2.length : Int) 0)
theorem impl_texts.mono_l : ∀ k, (∀ y0 y1 y2 y3 y4, LeO (impl_texts.l0 k y0 y1 y2 y3 y4) (impl_texts.l0 (k + 1) y0 y1 y2 y3 y4))
  | 0 => fun _ _ _ _ _ r h => by simp [impl_texts.l0] at h
  | k + 1 => by
    have ih0 := impl_texts.mono_l k
    · intro y0 y1 y2 y3 y4
      unfold impl_texts.l0
      repeat' first
      | (with_reducible exact ih0 _ _ _ _ _)
      | (with_reducible exact LeO.refl _)
      | (with_reducible exact LeO.none _)
      | (with_reducible refine LeO.ite ?_ ?_)
      | (with_reducible refine LeO.bind ?_ (fun _ => ?_))
      | exact ih0 _ _ _ _ _
      | exact LeO.none _
      | refine LeO.ite ?_ ?_
      | refine LeO.bind ?_ (fun _ => ?_)
theorem impl_texts.mono : ∀ a0 a1 a2 k, LeO (impl_texts.f k a0 a1 a2) (impl_texts.f (k + 1) a0 a1 a2) := by
  intro a0 a1 a2 k
  have ih0 := impl_texts.mono_l k
  unfold impl_texts.f
  repeat' first
      | (with_reducible exact ih0 _ _ _ _ _)
      | (with_reducible exact LeO.refl _)
      | (with_reducible exact LeO.none _)
      | (with_reducible refine LeO.ite ?_ ?_)
      | (with_reducible refine LeO.bind ?_ (fun _ => ?_))
      | exact ih0 _ _ _ _ _
      | exact LeO.none _
      | refine LeO.ite ?_ ?_
      | refine LeO.bind ?_ (fun _ => ?_)
set_option maxHeartbeats 8000000 in
set_option maxRecDepth 100000 in
theorem impl_texts.calls (k : Nat) (a0 : Int) (a1 : ByteArray) (A2 : Option Addr) (c2 : Nat) (l2 : List ByteArray) (r : List ByteArray) (w : World) (hr2 : Kd.C Kd.string w A2 l2.length l2) (hc2 : l2.length ≤ c2) (h : impl_texts.f k a0 a1 l2 = some r) :
    Calls Try.prog 113 #[.int .i64 a0, .string a1, .slice A2 l2.length c2] w fun e w' => ∃ v0_ : Value, e = .returned (v0_) ∧ Kd.R Kd.string 9 w' w.heap.size (fun _ => True) v0_ r ∧ Below w.heap.size w w' := by
  have HR2 := Aside0.mk hr2
  have HC2 := Aside0.mk hc2
  clear hr2 hc2
  have HB := Aside0.mk (Below.refl w.heap.size w)
  have H : ((impl_leafText.f a1).bind fun t1089 => (impl_texts.l0 k a0 (([t1089] : List ByteArray)) l2 (l2.length : Int) 0)) = some r := h
  clear h
  replace H := Option.bind_eq_some_iff.mp H
  obtain ⟨t1089, A40, H⟩ := H
  replace H : (impl_texts.l0 k a0 (([t1089] : List ByteArray)) l2 (l2.length : Int) 0) = some r := H
  have A4 := Aside0.mk A40
  clear A40
  obtain ⟨y1090, hy1090⟩ : ∃ y_ : List ByteArray, y_ = (([t1089] : List ByteArray)) := ⟨_, rfl⟩
  replace H : (impl_texts.l0 k a0 y1090 l2 (l2.length : Int) 0) = some r := by first | (rw [hy1090]; with_reducible exact H) | (have H2_ := (Option.bind_some _ _).symm.trans H; rw [hy1090]; with_reducible exact H2_) | (have H2_ := (Option.bind_some _ _).symm.trans H; with_reducible exact H2_) | with_reducible exact H | (rw [hy1090]; exact H) | exact H
  have Ny1090 := Aside0.mk hy1090
  clear hy1090
  have H' := Aside0.mk H
  clear H
  go_enter Try.func113, Try.ntmps113
  go_wp2_with (first | ((with_reducible refine gate_callee (f := 91) rfl ?_); refine goesL_ (some 12) rfl rfl Try.func91 (by kernel_rfl) rfl #[.string a1] rfl (by (try simp only [List.map_toArray, List.map_cons, List.map_nil]); first | done | rfl | (simp only [List.length_drop, List.length_take]; rfl)) ?_; (with_reducible refine (impl_leafText.calls a1 t1089 _ A4.out).mono ?_); rintro e w' ⟨rfl, ⟨nd, rfl⟩⟩; refine ⟨_, rfl, ?_⟩) | ((with_reducible refine gate_dst (N := 13) rfl ?_); refine Kd.R_lit Kd.string _ 9 ?hg (N := 13) ?hd (xs := ([t1089] : List ByteArray)) (inner := [.string t1089]) (ok := fun _ => True) (okp := fun _ => True) ?hr ?hp (fun _ hk => hk) trivial (Below.refl _ _) (Nat.le_refl _) (by simp) ?_; (case hd => rfl); (case hg => rfl); (case hr => first | (go_simp; done) | (go_simp; rfl)); (case hp => exact (Reps.one (show Kd.M Kd.string _ _ _ t1089 [.string t1089] from rfl) (Reps.none _ _))); intro v1091 w5 ho6 hb hg_ hnew_; clear hg_ hnew_; (first | rw [← Ny1090.out] at ho6 | (simp only [Int.reduceToNat] at ho6; rw [← Ny1090.out] at ho6)); have n0_ := Aside0.mk (Kd.R_lower ho6 (below_size (by repeat (first | (with_reducible first | exact HB.out | apply below_alloc | apply pw_below_drewN | apply below_drew1) | exact HB.out)))); have n1_ := Aside0.mk (below_step (by repeat (first | (with_reducible first | exact HB.out | apply below_alloc | apply pw_below_drewN | apply below_drew1) | exact HB.out)) hb); clear HB; have HO1092 := n0_; have HB := n1_; clear n0_ n1_; clear hb ho6))
  go_loopg [7, 16] k (fun kq v7 v16 w' => ∃ (x7_1 : List ByteArray) (x16_1 : Int), v16 = .int .i64 x16_1 ∧ Aside0 (impl_texts.l0 kq a0 x7_1 l2 (l2.length : Int) x16_1 = some r) ∧ Aside0 (kq ≤ k) ∧ Aside0 (Kd.R Kd.string 9 w' w.heap.size (fun _ => True) v7 x7_1) ∧ Aside0 (Below w.heap.size w w'))
  case atStart => exact ⟨(y1090), (0), (by first | rfl | (simp; done) | (simp [*]; done)), H', ⟨Nat.le_refl _⟩, ⟨by (with_reducible repeat (first | apply Kd.R_alloc | apply Kd.R_drewN | apply Kd.R_drew)); exact HO1092.out⟩, ⟨by repeat (first | (with_reducible first | exact HB.out | apply below_alloc | apply pw_below_drewN | apply below_drew1) | exact HB.out)⟩⟩
  case round =>
    clear H'
    try clear c1
    try clear c2
    try clear p2
    obtain ⟨x7_1, x16_1, rfl, HA, HK1, HO_7, HB⟩ := hrel
    cases gk with
    | zero => exact absurd HA.out (by simp [impl_texts.l0])
    | succ k1 =>
      have H := HA.out
      clear HA
      simp only [impl_texts.l0] at H
      by_cases c7 : x16_1 < (l2.length : Int)
      · rw [if_pos c7] at H
        have c7b0 : decide (x16_1 < (l2.length : Int)) = true := decide_eq_true c7
        clear c7
        by_cases c8 : 0 ≤ x16_1
        · rw [if_pos c8] at H
          have c8b0 : decide (0 ≤ x16_1) = true := decide_eq_true c8
          clear c8
          by_cases c9 : x16_1 < (l2.length : Int)
          · rw [if_pos c9] at H
            have c9b0 : decide (x16_1 < (l2.length : Int)) = true := decide_eq_true c9
            clear c9
            by_cases c10 : x16_1 < (x7_1.length : Int)
            · rw [if_pos c10] at H
              have c10b0 : decide (x16_1 < (x7_1.length : Int)) = true := decide_eq_true c10
              clear c10
              replace H := Option.bind_eq_some_iff.mp H
              obtain ⟨t1095, A110, H⟩ := H
              replace H : (if (Go.bits .and .i64 (shr .i64 a0 x16_1) 1) = 1 then ((impl_nodeText.f (rdOf ByteArray.empty l2 x16_1) t1095).bind fun t1096 => (if x7_1.length < 8796093022208 then (impl_texts.l0 k1 a0 (x7_1 ++ [t1096]) l2 (l2.length : Int) (wrap64 (x16_1 + 1))) else (none))) else ((impl_nodeText.f t1095 (rdOf ByteArray.empty l2 x16_1)).bind fun t1100 => (if x7_1.length < 8796093022208 then (impl_texts.l0 k1 a0 (x7_1 ++ [t1100]) l2 (l2.length : Int) (wrap64 (x16_1 + 1))) else (none)))) = some r := H
              have A11 := Aside0.mk A110
              clear A110
              have c12b0 := eq_true (of_decide_eq_true (by first | (with_reducible assumption) | assumption) : 0 ≤ x16_1)
              obtain ⟨ji13, hji13⟩ : ∃ j_ : Int, (shr .i64 a0 x16_1) = j_ := ⟨_, rfl⟩
              replace H : (if (Go.bits .and .i64 (ji13) 1) = 1 then ((impl_nodeText.f (rdOf ByteArray.empty l2 x16_1) t1095).bind fun t1096 => (if x7_1.length < 8796093022208 then (impl_texts.l0 k1 a0 (x7_1 ++ [t1096]) l2 (l2.length : Int) (wrap64 (x16_1 + 1))) else (none))) else ((impl_nodeText.f t1095 (rdOf ByteArray.empty l2 x16_1)).bind fun t1100 => (if x7_1.length < 8796093022208 then (impl_texts.l0 k1 a0 (x7_1 ++ [t1100]) l2 (l2.length : Int) (wrap64 (x16_1 + 1))) else (none)))) = some r := by first | (rw [hji13] at H; exact H) | (simp only [hji13] at H ⊢; exact H)
              (try rw [hji13] at A11)
              have hji13_ : (a0 / 2 ^ min x16_1.toNat 64) = ji13 := hji13
              have hji13z : x16_1 ≤ 64 → (a0 / 2 ^ x16_1.toNat) = ji13 := shr_small hji13
              by_cases c14 : (Go.bits .and .i64 (ji13) 1) = 1
              · rw [if_pos c14] at H
                have c14b0 : ((Go.bits .and .i64 (ji13) 1) == 1) = true := beq_iff_eq.mpr c14
                have c14b1 : ((Go.bits .and .i64 (ji13) 1) != 1) = false := bne_eq_false_iff_eq.mpr c14
                clear c14
                replace H := Option.bind_eq_some_iff.mp H
                obtain ⟨t1096, A150, H⟩ := H
                replace H : (if x7_1.length < 8796093022208 then (impl_texts.l0 k1 a0 (x7_1 ++ [t1096]) l2 (l2.length : Int) (wrap64 (x16_1 + 1))) else (none)) = some r := H
                have A15 := Aside0.mk A150
                clear A150
                by_cases c16 : x7_1.length < 8796093022208
                · rw [if_pos c16] at H
                  have LMc16 := Aside0.mk c16
                  clear c16
                  obtain ⟨y1097, hy1097⟩ : ∃ y_ : List ByteArray, y_ = (x7_1 ++ [t1096]) := ⟨_, rfl⟩
                  replace H : (impl_texts.l0 k1 a0 y1097 l2 (l2.length : Int) (wrap64 (x16_1 + 1))) = some r := by first | (rw [hy1097]; with_reducible exact H) | (have H2_ := (Option.bind_some _ _).symm.trans H; rw [hy1097]; with_reducible exact H2_) | (have H2_ := (Option.bind_some _ _).symm.trans H; with_reducible exact H2_) | with_reducible exact H | (rw [hy1097]; exact H) | exact H
                  have Ny1097 := Aside0.mk hy1097
                  clear hy1097
                  have H' := Aside0.mk H
                  clear H
                  have p1093 : 0 ≤ (x16_1 : Int) := of_decide_eq_true (by first | (with_reducible assumption) | assumption)
                  have q1093 : x16_1 < (l2.length : Int) := of_decide_eq_true (by first | (with_reducible assumption) | assumption)
                  obtain ⟨ad1093, e1093, hx1093_0⟩ := Kd.at_string HR2.out x16_1 p1093 q1093
                  cases e1093
                  replace hx1093_0 := (HB.out.cell (World.block_lt_of_cell? w _ hx1093_0)).trans hx1093_0
                  replace p1093 := eq_true p1093
                  replace q1093 := eq_true q1093
                  obtain ⟨Ao17, co17, eo17⟩ := Kd.R_slice HO_7.out
                  subst eo17
                  have p1094 : 0 ≤ (x16_1 : Int) := of_decide_eq_true (by first | (with_reducible assumption) | assumption)
                  have q1094 : x16_1 < (x7_1.length : Int) := of_decide_eq_true (by first | (with_reducible assumption) | assumption)
                  obtain ⟨ad1094, e1094, hx1094_0⟩ := Kd.at_string (Kd.R_reads' HO_7.out).2.2 x16_1 p1094 q1094
                  cases e1094
                  replace p1094 := eq_true p1094
                  replace q1094 := eq_true q1094
                  go_wp2_with (first | ((with_reducible refine gate_callee (f := 90) rfl ?_); refine goesL_ (some 25) rfl rfl Try.func90 (by kernel_rfl) rfl #[.string (rdOf ByteArray.empty x7_1 x16_1)] rfl (by (try simp only [List.map_toArray, List.map_cons, List.map_nil]); first | done | rfl | (simp only [List.length_drop, List.length_take]; rfl)) ?_; (with_reducible refine (impl_hashOf.calls (rdOf ByteArray.empty x7_1 x16_1) t1095 _ A11.out).mono ?_); rintro e w18 ⟨rfl, hb⟩; refine ⟨_, rfl, ?_⟩; have n0_ := Aside0.mk (Kd.R_below (by (with_reducible repeat (first | apply Kd.R_alloc | apply Kd.R_drewN | apply Kd.R_drew)); exact HO_7.out) hb); have n1_ := Aside0.mk (below_step (by repeat (first | (with_reducible first | exact HB.out | apply below_alloc | apply pw_below_drewN | apply below_drew1) | exact HB.out)) hb); clear HO_7; clear HB; have HO_7 := n0_; have HB := n1_; clear n0_ n1_; (try clear hb); (try clear hb2); (try clear hk); (try clear hi)) | ((with_reducible refine gate_callee (f := 94) rfl ?_); refine goesL_ (some 36) rfl rfl Try.func94 (by kernel_rfl) rfl #[.string (rdOf ByteArray.empty l2 x16_1), .string t1095] rfl (by (try simp only [List.map_toArray, List.map_cons, List.map_nil]); first | done | rfl | (simp only [List.length_drop, List.length_take]; rfl)) ?_; (with_reducible refine (impl_nodeText.calls (rdOf ByteArray.empty l2 x16_1) t1095 t1096 _ A15.out).mono ?_); rintro e w' ⟨rfl, ⟨nd, rfl⟩⟩; refine ⟨_, rfl, ?_⟩) | ((with_reducible refine gate_builtin (b := .append) (xs := #[.tmp 33, .tmp 37]) rfl ?_); at_builtin; refine Kd.R_append Kd.string (w0 := w) w.heap.size rfl (.tmp 33) (.tmp 37) 41 9 (.string ⟨#[]⟩) 16 rfl Try.underlying41 info9 rfl (by decide) (by omega) (.slice (some ad1094) x7_1.length co17) x7_1 t1096 [.string t1096] (fun _ => True) (fun _ => False) rfl rfl ?aP (fun _ hk => hk.elim) ?aF ?aO ?aB ?aS ?aL ?_; (case aP => exact rfl); (case aB => exact (by repeat (first | (with_reducible first | exact HB.out | apply below_alloc | apply pw_below_drewN | apply below_drew1) | exact HB.out))); (case aF => exact (fun _ _ => trivial)); (case aO => exact (by (with_reducible repeat (first | apply Kd.R_alloc | apply Kd.R_drewN | apply Kd.R_drew)); exact HO_7.out)); (case aS => exact (below_size (by repeat (first | (with_reducible first | exact HB.out | apply below_alloc | apply pw_below_drewN | apply below_drew1) | exact HB.out)))); (case aL => have := LMc16.out; omega); intro v1098 w19 ho hb hg hat; rw [← Ny1097.out] at ho; have n0_ := Aside0.mk (hb); have n1_ := Aside0.mk (ho); clear HB; clear HO_7; have HB := n0_; have HO1099 := n1_; clear n0_ n1_; clear ho hb hg hat))
                  go_roundg k1
                  case measure => have := HK1.out; omega
                  case rel => exact ⟨(y1097), (wrap64 (x16_1 + 1)), (by first | rfl | (simp; done) | (simp [*]; done)), H', ⟨by have := HK1.out; omega⟩, ⟨by (with_reducible repeat (first | apply Kd.R_alloc | apply Kd.R_drewN | apply Kd.R_drew)); exact HO1099.out⟩, ⟨by repeat (first | (with_reducible first | exact HB.out | apply below_alloc | apply pw_below_drewN | apply below_drew1) | exact HB.out)⟩⟩
                · rw [if_neg c16] at H
                  exact absurd H (by simp)
              · rw [if_neg c14] at H
                have c14b0 : ((Go.bits .and .i64 (ji13) 1) == 1) = false := beq_eq_false_iff_ne.mpr c14
                have c14b1 : ((Go.bits .and .i64 (ji13) 1) != 1) = true := bne_iff_ne.mpr c14
                replace H := Option.bind_eq_some_iff.mp H
                obtain ⟨t1100, A200, H⟩ := H
                replace H : (if x7_1.length < 8796093022208 then (impl_texts.l0 k1 a0 (x7_1 ++ [t1100]) l2 (l2.length : Int) (wrap64 (x16_1 + 1))) else (none)) = some r := H
                have A20 := Aside0.mk A200
                clear A200
                by_cases c21 : x7_1.length < 8796093022208
                · rw [if_pos c21] at H
                  have LMc21 := Aside0.mk c21
                  clear c21
                  obtain ⟨y1101, hy1101⟩ : ∃ y_ : List ByteArray, y_ = (x7_1 ++ [t1100]) := ⟨_, rfl⟩
                  replace H : (impl_texts.l0 k1 a0 y1101 l2 (l2.length : Int) (wrap64 (x16_1 + 1))) = some r := by first | (rw [hy1101]; with_reducible exact H) | (have H2_ := (Option.bind_some _ _).symm.trans H; rw [hy1101]; with_reducible exact H2_) | (have H2_ := (Option.bind_some _ _).symm.trans H; with_reducible exact H2_) | with_reducible exact H | (rw [hy1101]; exact H) | exact H
                  have Ny1101 := Aside0.mk hy1101
                  clear hy1101
                  have H' := Aside0.mk H
                  clear H
                  have p1093 : 0 ≤ (x16_1 : Int) := of_decide_eq_true (by first | (with_reducible assumption) | assumption)
                  have q1093 : x16_1 < (l2.length : Int) := of_decide_eq_true (by first | (with_reducible assumption) | assumption)
                  obtain ⟨ad1093, e1093, hx1093_0⟩ := Kd.at_string HR2.out x16_1 p1093 q1093
                  cases e1093
                  replace hx1093_0 := (HB.out.cell (World.block_lt_of_cell? w _ hx1093_0)).trans hx1093_0
                  replace p1093 := eq_true p1093
                  replace q1093 := eq_true q1093
                  obtain ⟨Ao22, co22, eo22⟩ := Kd.R_slice HO_7.out
                  subst eo22
                  have p1094 : 0 ≤ (x16_1 : Int) := of_decide_eq_true (by first | (with_reducible assumption) | assumption)
                  have q1094 : x16_1 < (x7_1.length : Int) := of_decide_eq_true (by first | (with_reducible assumption) | assumption)
                  obtain ⟨ad1094, e1094, hx1094_0⟩ := Kd.at_string (Kd.R_reads' HO_7.out).2.2 x16_1 p1094 q1094
                  cases e1094
                  replace p1094 := eq_true p1094
                  replace q1094 := eq_true q1094
                  go_wp2_with (first | ((with_reducible refine gate_callee (f := 90) rfl ?_); refine goesL_ (some 25) rfl rfl Try.func90 (by kernel_rfl) rfl #[.string (rdOf ByteArray.empty x7_1 x16_1)] rfl (by (try simp only [List.map_toArray, List.map_cons, List.map_nil]); first | done | rfl | (simp only [List.length_drop, List.length_take]; rfl)) ?_; (with_reducible refine (impl_hashOf.calls (rdOf ByteArray.empty x7_1 x16_1) t1095 _ A11.out).mono ?_); rintro e w23 ⟨rfl, hb⟩; refine ⟨_, rfl, ?_⟩; have n0_ := Aside0.mk (Kd.R_below (by (with_reducible repeat (first | apply Kd.R_alloc | apply Kd.R_drewN | apply Kd.R_drew)); exact HO_7.out) hb); have n1_ := Aside0.mk (below_step (by repeat (first | (with_reducible first | exact HB.out | apply below_alloc | apply pw_below_drewN | apply below_drew1) | exact HB.out)) hb); clear HO_7; clear HB; have HO_7 := n0_; have HB := n1_; clear n0_ n1_; (try clear hb); (try clear hb2); (try clear hk); (try clear hi)) | ((with_reducible refine gate_callee (f := 94) rfl ?_); refine goesL_ (some 36) rfl rfl Try.func94 (by kernel_rfl) rfl #[.string t1095, .string (rdOf ByteArray.empty l2 x16_1)] rfl (by (try simp only [List.map_toArray, List.map_cons, List.map_nil]); first | done | rfl | (simp only [List.length_drop, List.length_take]; rfl)) ?_; (with_reducible refine (impl_nodeText.calls t1095 (rdOf ByteArray.empty l2 x16_1) t1100 _ A20.out).mono ?_); rintro e w' ⟨rfl, ⟨nd, rfl⟩⟩; refine ⟨_, rfl, ?_⟩) | ((with_reducible refine gate_builtin (b := .append) (xs := #[.tmp 33, .tmp 37]) rfl ?_); at_builtin; refine Kd.R_append Kd.string (w0 := w) w.heap.size rfl (.tmp 33) (.tmp 37) 41 9 (.string ⟨#[]⟩) 16 rfl Try.underlying41 info9 rfl (by decide) (by omega) (.slice (some ad1094) x7_1.length co22) x7_1 t1100 [.string t1100] (fun _ => True) (fun _ => False) rfl rfl ?aP (fun _ hk => hk.elim) ?aF ?aO ?aB ?aS ?aL ?_; (case aP => exact rfl); (case aB => exact (by repeat (first | (with_reducible first | exact HB.out | apply below_alloc | apply pw_below_drewN | apply below_drew1) | exact HB.out))); (case aF => exact (fun _ _ => trivial)); (case aO => exact (by (with_reducible repeat (first | apply Kd.R_alloc | apply Kd.R_drewN | apply Kd.R_drew)); exact HO_7.out)); (case aS => exact (below_size (by repeat (first | (with_reducible first | exact HB.out | apply below_alloc | apply pw_below_drewN | apply below_drew1) | exact HB.out)))); (case aL => have := LMc21.out; omega); intro v1102 w24 ho hb hg hat; rw [← Ny1101.out] at ho; have n0_ := Aside0.mk (hb); have n1_ := Aside0.mk (ho); clear HB; clear HO_7; have HB := n0_; have HO1103 := n1_; clear n0_ n1_; clear ho hb hg hat))
                  go_roundg k1
                  case measure => have := HK1.out; omega
                  case rel => exact ⟨(y1101), (wrap64 (x16_1 + 1)), (by first | rfl | (simp; done) | (simp [*]; done)), H', ⟨by have := HK1.out; omega⟩, ⟨by (with_reducible repeat (first | apply Kd.R_alloc | apply Kd.R_drewN | apply Kd.R_drew)); exact HO1103.out⟩, ⟨by repeat (first | (with_reducible first | exact HB.out | apply below_alloc | apply pw_below_drewN | apply below_drew1) | exact HB.out)⟩⟩
                · rw [if_neg c21] at H
                  exact absurd H (by simp)
            · rw [if_neg c10] at H
              exact absurd H (by simp)
          · rw [if_neg c9] at H
            exact absurd H (by simp)
        · rw [if_neg c8] at H
          exact absurd H (by simp)
      · rw [if_neg c7] at H
        have c7b0 : decide (x16_1 < (l2.length : Int)) = false := decide_eq_false c7
        clear c7
        obtain rfl := Option.some.inj H
        go_wp2
        go_ret
        exact ⟨_, by first | rfl | (simp [errW_none, errW_some] <;> rfl) | (simp [*, errW_none, errW_some] <;> rfl), by (with_reducible repeat (first | apply Kd.R_alloc | apply Kd.R_drewN | apply Kd.R_drew)); exact HO_7.out, by repeat (first | (with_reducible first | exact HB.out | apply below_alloc | apply pw_below_drewN | apply below_drew1) | exact HB.out)⟩

-- NOT PRINTED: function 145 (impl_leavesCode_1)

-- NOT PRINTED: function 147 (impl_leads_1)

/-! ### impl_leads: function 111 -/
def impl_leads.j0 : Nat → ByteArray → Int → ByteArray → List ByteArray → Bool → Option (Bool)
  | 0, _, _, _, _, _ => none
  | k + 1, x0, x2, x3, x4, x25 => if x25 = true then (some false) else ((impl_texts.f k x2 x3 x4).bind fun t1106 => (if 0 ≤ (wrap64 ((t1106.length : Int) - 1)) then (if (wrap64 ((t1106.length : Int) - 1)) < (t1106.length : Int) then ((impl_hashOf.f (rdOf ByteArray.empty t1106 (wrap64 ((t1106.length : Int) - 1)))).bind fun t1110 => (some (t1110.toList == x0.toList))) else (none)) else (none)))
def impl_leads.f (k : Nat) (a0 : ByteArray) (a1 : Int) (a2 : Int) (a3 : ByteArray) (l4 : List ByteArray) : Option (Bool) := if (a3.size : Int) > 64 then (impl_leads.j0 k a0 a2 a3 l4 true) else ((impl_logOf.f a1).bind fun t1104 => (if (l4.length : Int) = t1104 then ((con_path.f l4).bind fun t1105 => (impl_leads.j0 k a0 a2 a3 l4 t1105)) else (impl_leads.j0 k a0 a2 a3 l4 true)))
theorem impl_leads.mono_l : ∀ k, (∀ y0 y1 y2 y3 y4, LeO (impl_leads.j0 k y0 y1 y2 y3 y4) (impl_leads.j0 (k + 1) y0 y1 y2 y3 y4))
  | 0 => fun _ _ _ _ _ r h => by simp [impl_leads.j0] at h
  | k + 1 => by
    have ih0 := impl_leads.mono_l k
    · intro y0 y1 y2 y3 y4
      unfold impl_leads.j0
      repeat' first
      | (with_reducible exact ih0 _ _ _ _ _)
      | (with_reducible exact impl_texts.mono _ _ _ _)
      | (with_reducible exact LeO.refl _)
      | (with_reducible exact LeO.none _)
      | (with_reducible refine LeO.ite ?_ ?_)
      | (with_reducible refine LeO.bind ?_ (fun _ => ?_))
      | exact ih0 _ _ _ _ _
      | exact impl_texts.mono _ _ _ _
      | exact LeO.none _
      | refine LeO.ite ?_ ?_
      | refine LeO.bind ?_ (fun _ => ?_)
theorem impl_leads.mono : ∀ a0 a1 a2 a3 a4 k, LeO (impl_leads.f k a0 a1 a2 a3 a4) (impl_leads.f (k + 1) a0 a1 a2 a3 a4) := by
  intro a0 a1 a2 a3 a4 k
  have ih0 := impl_leads.mono_l k
  unfold impl_leads.f
  repeat' first
      | (with_reducible exact ih0 _ _ _ _ _)
      | (with_reducible exact impl_texts.mono _ _ _ _)
      | (with_reducible exact LeO.refl _)
      | (with_reducible exact LeO.none _)
      | (with_reducible refine LeO.ite ?_ ?_)
      | (with_reducible refine LeO.bind ?_ (fun _ => ?_))
      | exact ih0 _ _ _ _ _
      | exact impl_texts.mono _ _ _ _
      | exact LeO.none _
      | refine LeO.ite ?_ ?_
      | refine LeO.bind ?_ (fun _ => ?_)
set_option maxHeartbeats 8000000 in
set_option maxRecDepth 100000 in
theorem impl_leads.calls (k : Nat) (a0 : ByteArray) (a1 : Int) (a2 : Int) (a3 : ByteArray) (A4 : Option Addr) (c4 : Nat) (l4 : List ByteArray) (r : Bool) (w : World) (hr4 : Kd.C Kd.string w A4 l4.length l4) (hc4 : l4.length ≤ c4) (h : impl_leads.f k a0 a1 a2 a3 l4 = some r) :
    Calls Try.prog 111 #[.string a0, .int .i64 a1, .int .i64 a2, .string a3, .slice A4 l4.length c4] w fun e w' => e = .returned (.bool r) ∧ Below w.heap.size w w' := by
  have HR4 := Aside0.mk hr4
  have HC4 := Aside0.mk hc4
  clear hr4 hc4
  have HB := Aside0.mk (Below.refl w.heap.size w)
  have H : (if (a3.size : Int) > 64 then (impl_leads.j0 k a0 a2 a3 l4 true) else ((impl_logOf.f a1).bind fun t1104 => (if (l4.length : Int) = t1104 then ((con_path.f l4).bind fun t1105 => (impl_leads.j0 k a0 a2 a3 l4 t1105)) else (impl_leads.j0 k a0 a2 a3 l4 true)))) = some r := h
  clear h
  have HC6 := Aside0.mk H
  clear H
  go_enter Try.func111, Try.ntmps111
  go_upto_region 1 with (fail)
  go_cut [25] (fun v25 wc => ∃ (kq : Nat) (x25_5 : Bool), v25 = .bool x25_5 ∧ Aside0 (impl_leads.j0 kq a0 a2 a3 l4 x25_5 = some r) ∧ Aside0 (kq ≤ k) ∧ Aside0 (Below w.heap.size w wc))
  case first =>
    have H := HC6.out
    clear HC6
    by_cases c7 : (a3.size : Int) > 64
    · rw [if_pos c7] at H
      have c7b0 : decide (64 < (a3.size : Int)) = true := decide_eq_true c7
      have c7b1 : decide (64 < a3.size) = true := decide_eq_true (by omega)
      clear c7
      (first | rw [c7b0] | (simp only [i64_w, i32_w]; rw [c7b0]) | skip)
      have H' := Aside0.mk H
      clear H
      go_wp2
      go_meet
      case rel => exact ⟨_, (true), (by first | rfl | (simp; done) | (simp [*]; done)), H', ⟨by first | omega | exact Nat.le_refl _⟩, ⟨by repeat (first | (with_reducible first | exact HB.out | apply below_alloc | apply pw_below_drewN | apply below_drew1) | exact HB.out)⟩⟩
    · rw [if_neg c7] at H
      have c7b0 : decide (64 < (a3.size : Int)) = false := decide_eq_false c7
      have c7b1 : decide (64 < a3.size) = false := decide_eq_false (by omega)
      clear c7
      (first | rw [c7b0] | (simp only [i64_w, i32_w]; rw [c7b0]) | skip)
      replace H := Option.bind_eq_some_iff.mp H
      obtain ⟨t1104, A80, H⟩ := H
      replace H : (if (l4.length : Int) = t1104 then ((con_path.f l4).bind fun t1105 => (impl_leads.j0 k a0 a2 a3 l4 t1105)) else (impl_leads.j0 k a0 a2 a3 l4 true)) = some r := H
      have A8 := Aside0.mk A80
      clear A80
      by_cases c9 : (l4.length : Int) = t1104
      · rw [if_pos c9] at H
        have c9b0 : ((l4.length : Int) == t1104) = true := beq_iff_eq.mpr c9
        have c9b1 : ((l4.length : Int) != t1104) = false := bne_eq_false_iff_eq.mpr c9
        clear c9
        replace H := Option.bind_eq_some_iff.mp H
        obtain ⟨t1105, A100, H⟩ := H
        replace H : (impl_leads.j0 k a0 a2 a3 l4 t1105) = some r := H
        have A10 := Aside0.mk A100
        clear A100
        have H' := Aside0.mk H
        clear H
        go_wp2_with (first | (go_at_call 146; (with_reducible refine (impl_logOf.calls a1 t1104 _ A8.out).mono ?_); rintro e w11 ⟨rfl, hb⟩; have n0_ := Aside0.mk (below_step (by repeat (first | (with_reducible first | exact HB.out | apply below_alloc | apply pw_below_drewN | apply below_drew1) | exact HB.out)) hb); clear HB; have HB := n0_; clear n0_; (try clear hb); (try clear hb2); (try clear hk); (try clear hi)) | (go_at_call 144; (with_reducible refine (con_path.calls _ _ l4 t1105 _ ?side1 ?side2 A10.out).mono ?_); (case side1 => repeat (first | exact (Kd.C_below HR4.out HB.out) | (with_reducible refine Kd.C_alloc ?_ _) | (with_reducible refine Kd.C_drewN ?_ _) | (with_reducible refine Kd.C_drew ?_))); (case side2 => exact HC4.out); rintro e w12 ⟨rfl, hb⟩; have n0_ := Aside0.mk (below_step (by repeat (first | (with_reducible first | exact HB.out | apply below_alloc | apply pw_below_drewN | apply below_drew1) | exact HB.out)) hb); clear HB; have HB := n0_; clear n0_; (try clear hb); (try clear hb2); (try clear hk); (try clear hi)))
        go_meet
        case rel => exact ⟨_, (t1105), (by first | rfl | (simp; done) | (simp [*]; done)), H', ⟨by first | omega | exact Nat.le_refl _⟩, ⟨by repeat (first | (with_reducible first | exact HB.out | apply below_alloc | apply pw_below_drewN | apply below_drew1) | exact HB.out)⟩⟩
      · rw [if_neg c9] at H
        have c9b0 : ((l4.length : Int) == t1104) = false := beq_eq_false_iff_ne.mpr c9
        have c9b1 : ((l4.length : Int) != t1104) = true := bne_iff_ne.mpr c9
        have H' := Aside0.mk H
        clear H
        go_wp2_with (first | (go_at_call 146; (with_reducible refine (impl_logOf.calls a1 t1104 _ A8.out).mono ?_); rintro e w13 ⟨rfl, hb⟩; have n0_ := Aside0.mk (below_step (by repeat (first | (with_reducible first | exact HB.out | apply below_alloc | apply pw_below_drewN | apply below_drew1) | exact HB.out)) hb); clear HB; have HB := n0_; clear n0_; (try clear hb); (try clear hb2); (try clear hk); (try clear hi)))
        go_meet
        case rel => exact ⟨_, (true), (by first | rfl | (simp; done) | (simp [*]; done)), H', ⟨by first | omega | exact Nat.le_refl _⟩, ⟨by repeat (first | (with_reducible first | exact HB.out | apply below_alloc | apply pw_below_drewN | apply below_drew1) | exact HB.out)⟩⟩
  case rest =>
    clear HC6
    try clear c1
    try clear p2
    try clear c4
    try clear c7
    try clear c7b0
    try clear c7b1
    try clear c9
    try clear c9b0
    try clear c9b1
    try clear c11
    obtain ⟨kq, x25_5, rfl, HA, HJ5, HB⟩ := hcut
    cases kq with
    | zero => exact absurd HA.out (by simp [impl_leads.j0])
    | succ kj5 =>
      have H := HA.out
      clear HA
      simp only [impl_leads.j0] at H
      by_cases c14 : x25_5 = true
      · subst c14
        have H1 : (some false) = some r := by rw [if_pos rfl] at H; exact H
        clear H
        have H := H1
        clear H1
        obtain rfl := Option.some.inj H
        go_wp2
        go_ret
        exact ⟨by first | rfl | (simp [errW_none, errW_some] <;> rfl) | (simp [*, errW_none, errW_some] <;> rfl), by repeat (first | (with_reducible first | exact HB.out | apply below_alloc | apply pw_below_drewN | apply below_drew1) | exact HB.out)⟩
      · replace c14 := Bool.eq_false_iff.mpr c14
        subst c14
        have H1 : ((impl_texts.f kj5 a2 a3 l4).bind fun t1106 => (if 0 ≤ (wrap64 ((t1106.length : Int) - 1)) then (if (wrap64 ((t1106.length : Int) - 1)) < (t1106.length : Int) then ((impl_hashOf.f (rdOf ByteArray.empty t1106 (wrap64 ((t1106.length : Int) - 1)))).bind fun t1110 => (some (t1110.toList == a0.toList))) else (none)) else (none))) = some r := by rw [if_neg (show ¬ (false = true) by decide)] at H; exact H
        clear H
        have H := H1
        clear H1
        replace H := Option.bind_eq_some_iff.mp H
        obtain ⟨t1106, A150, H⟩ := H
        replace H : (if 0 ≤ (wrap64 ((t1106.length : Int) - 1)) then (if (wrap64 ((t1106.length : Int) - 1)) < (t1106.length : Int) then ((impl_hashOf.f (rdOf ByteArray.empty t1106 (wrap64 ((t1106.length : Int) - 1)))).bind fun t1110 => (some (t1110.toList == a0.toList))) else (none)) else (none)) = some r := H
        have A15 := Aside0.mk A150
        clear A150
        obtain ⟨ji16, hji16⟩ : ∃ j_ : Int, (wrap64 ((t1106.length : Int) - 1)) = j_ := ⟨_, rfl⟩
        replace H : (if 0 ≤ (ji16) then (if (ji16) < (t1106.length : Int) then ((impl_hashOf.f (rdOf ByteArray.empty t1106 (ji16))).bind fun t1110 => (some (t1110.toList == a0.toList))) else (none)) else (none)) = some r := by first | (rw [hji16] at H; exact H) | (simp only [hji16] at H ⊢; exact H)
        (try rw [hji16] at A15)
        have hji16w : (IntKind.i64.wrap ((t1106.length : Int) - 1)) = ji16 := (i64_w _).trans hji16
        by_cases c17 : 0 ≤ (ji16)
        · rw [if_pos c17] at H
          have c17b0 : decide (0 ≤ (ji16)) = true := decide_eq_true c17
          clear c17
          by_cases c18 : (ji16) < (t1106.length : Int)
          · rw [if_pos c18] at H
            have c18b0 : decide ((ji16) < (t1106.length : Int)) = true := decide_eq_true c18
            clear c18
            replace H := Option.bind_eq_some_iff.mp H
            obtain ⟨t1110, A190, H⟩ := H
            replace H : (some (t1110.toList == a0.toList)) = some r := H
            have A19 := Aside0.mk A190
            clear A190
            obtain rfl := Option.some.inj H
            go_wp2_with (first | ((with_reducible refine gate_callee (f := 113) rfl ?_); refine goesL_ (some 29) rfl rfl Try.func113 (by kernel_rfl) rfl #[.int .i64 a2, .string a3, .slice A4 l4.length c4] rfl (by (try simp only [List.map_toArray, List.map_cons, List.map_nil]); first | done | rfl | (simp only [List.length_drop, List.length_take]; rfl)) ?_; (with_reducible refine (impl_texts.calls kj5 a2 a3 _ _ l4 t1106 _ ?side1 ?side2 A15.out).mono ?_); (case side1 => repeat (first | exact (Kd.C_below HR4.out HB.out) | (with_reducible refine Kd.C_alloc ?_ _) | (with_reducible refine Kd.C_drewN ?_ _) | (with_reducible refine Kd.C_drew ?_))); (case side2 => exact HC4.out); rintro e w20 ⟨v1107, rfl, ho0, hb⟩; refine ⟨_, rfl, ?_⟩; have n0_ := Aside0.mk (Kd.R_lower ho0 (below_size (by repeat (first | (with_reducible first | exact HB.out | apply below_alloc | apply pw_below_drewN | apply below_drew1) | exact HB.out)))); have n1_ := Aside0.mk (below_step (by repeat (first | (with_reducible first | exact HB.out | apply below_alloc | apply pw_below_drewN | apply below_drew1) | exact HB.out)) hb); clear HB; have HO1108 := n0_; have HB := n1_; clear n0_ n1_; (try clear hb); (try clear hb2); (try clear hk); (try clear hi); (try clear ho0); obtain ⟨Ao21, co21, eo21⟩ := Kd.R_slice HO1108.out; subst eo21; have p1109 : 0 ≤ ((ji16) : Int) := of_decide_eq_true (by first | (with_reducible assumption) | assumption); have q1109 : (ji16) < (t1106.length : Int) := of_decide_eq_true (by first | (with_reducible assumption) | assumption); obtain ⟨ad1109, e1109, hx1109_0⟩ := Kd.at_string (Kd.R_reads' HO1108.out).2.2 (ji16) p1109 q1109; cases e1109; replace p1109 := eq_true p1109; replace q1109 := eq_true q1109) | ((with_reducible refine gate_callee (f := 90) rfl ?_); refine goesL_ (some 36) rfl rfl Try.func90 (by kernel_rfl) rfl #[.string (rdOf ByteArray.empty t1106 (ji16))] rfl (by (try simp only [List.map_toArray, List.map_cons, List.map_nil]); first | done | (simp only [hji16]; rfl) | rfl | (simp only [List.length_drop, List.length_take]; rfl)) ?_; (with_reducible refine (impl_hashOf.calls (rdOf ByteArray.empty t1106 (ji16)) t1110 _ A19.out).mono ?_); rintro e w22 ⟨rfl, hb⟩; refine ⟨_, rfl, ?_⟩; have n0_ := Aside0.mk (Kd.R_below (by (with_reducible repeat (first | apply Kd.R_alloc | apply Kd.R_drewN | apply Kd.R_drew)); exact HO1108.out) hb); have n1_ := Aside0.mk (below_step (by repeat (first | (with_reducible first | exact HB.out | apply below_alloc | apply pw_below_drewN | apply below_drew1) | exact HB.out)) hb); clear HO1108; clear HB; have HO1108 := n0_; have HB := n1_; clear n0_ n1_; (try clear hb); (try clear hb2); (try clear hk); (try clear hi)))
            go_ret
            exact ⟨by first | rfl | (simp [errW_none, errW_some] <;> rfl) | (simp only [← hji16]; first | rfl | (simp [errW_none, errW_some] <;> rfl)) | (simp [*, errW_none, errW_some] <;> rfl), by repeat (first | (with_reducible first | exact HB.out | apply below_alloc | apply pw_below_drewN | apply below_drew1) | exact HB.out)⟩
          · rw [if_neg c18] at H
            exact absurd H (by simp)
        · rw [if_neg c17] at H
          exact absurd H (by simp)

/-! ### impl_in: function 95 -/
def impl_in.f (a0 : Int) (a1 : Int) (a2 : Int) : Option (Bool) := if a1 ≤ a0 then (some (decide (a0 ≤ a2))) else (some false)
set_option maxHeartbeats 8000000 in
set_option maxRecDepth 100000 in
theorem impl_in.calls (a0 : Int) (a1 : Int) (a2 : Int) (r : Bool) (w : World) (h : impl_in.f a0 a1 a2 = some r) :
    Calls Try.prog 95 #[.int .i64 a0, .int .i64 a1, .int .i64 a2] w fun e w' => e = .returned (.bool r) ∧ Drawn0 w w' := by
  have H : (if a1 ≤ a0 then (some (decide (a0 ≤ a2))) else (some false)) = some r := h
  clear h
  by_cases c4 : a1 ≤ a0
  · rw [if_pos c4] at H
    have c4b0 : decide (a1 ≤ a0) = true := decide_eq_true c4
    clear c4
    obtain rfl := Option.some.inj H
    go_enter Try.func95, Try.ntmps95
    go_wp2
    go_ret
    exact ⟨by first | rfl | (simp; done) | (simp [*]; done), by repeat (first | exact Drawn0.refl _ | apply Drawn0.step)⟩
  · rw [if_neg c4] at H
    have c4b0 : decide (a1 ≤ a0) = false := decide_eq_false c4
    clear c4
    obtain rfl := Option.some.inj H
    go_enter Try.func95, Try.ntmps95
    go_wp2
    go_ret
    exact ⟨by first | rfl | (simp; done) | (simp [*]; done), by repeat (first | exact Drawn0.refl _ | apply Drawn0.step)⟩

/-! ### impl_isPower: function 143 -/
def impl_isPower.f (a0 : Int) (a1 : Int) : Option (Bool) := (impl_in.f a0 1 a1).bind fun t1086 => (if t1086 = true then (some ((Go.bits .and .i64 a0 (wrap64 (a0 - 1))) == 0)) else (some false))
set_option maxHeartbeats 8000000 in
set_option maxRecDepth 100000 in
theorem impl_isPower.calls (a0 : Int) (a1 : Int) (r : Bool) (w : World) (h : impl_isPower.f a0 a1 = some r) :
    Calls Try.prog 143 #[.int .i64 a0, .int .i64 a1] w fun e w' => e = .returned (.bool r) ∧ Drawn0 w w' := by
  have H : ((impl_in.f a0 1 a1).bind fun t1086 => (if t1086 = true then (some ((Go.bits .and .i64 a0 (wrap64 (a0 - 1))) == 0)) else (some false))) = some r := h
  clear h
  replace H := Option.bind_eq_some_iff.mp H
  obtain ⟨t1086, A30, H⟩ := H
  replace H : (if t1086 = true then (some ((Go.bits .and .i64 a0 (wrap64 (a0 - 1))) == 0)) else (some false)) = some r := H
  have A3 := Aside0.mk A30
  clear A30
  by_cases c4 : t1086 = true
  · subst c4
    have H1 : (some ((Go.bits .and .i64 a0 (wrap64 (a0 - 1))) == 0)) = some r := by rw [if_pos rfl] at H; exact H
    clear H
    have H := H1
    clear H1
    obtain rfl := Option.some.inj H
    go_enter Try.func143, Try.ntmps143
    go_wp2_with (first | ((with_reducible refine gate_callee (f := 95) rfl ?_); refine goesL_ (some 7) rfl rfl Try.func95 (by kernel_rfl) rfl #[.int .i64 a0, .int .i64 1, .int .i64 a1] rfl (by (try simp only [List.map_toArray, List.map_cons, List.map_nil]); first | done | rfl | (simp only [List.length_drop, List.length_take]; rfl)) ?_; (with_reducible refine (impl_in.calls a0 1 a1 true _ A3.out).mono ?_); rintro e w' ⟨rfl, ⟨nd, rfl⟩⟩; refine ⟨_, rfl, ?_⟩))
    go_ret
    exact ⟨by first | rfl | (simp; done) | (simp [*]; done), by repeat (first | exact Drawn0.refl _ | apply Drawn0.step)⟩
  · replace c4 := Bool.eq_false_iff.mpr c4
    subst c4
    have H1 : (some false) = some r := by rw [if_neg (show ¬ (false = true) by decide)] at H; exact H
    clear H
    have H := H1
    clear H1
    obtain rfl := Option.some.inj H
    go_enter Try.func143, Try.ntmps143
    go_wp2_with (first | ((with_reducible refine gate_callee (f := 95) rfl ?_); refine goesL_ (some 7) rfl rfl Try.func95 (by kernel_rfl) rfl #[.int .i64 a0, .int .i64 1, .int .i64 a1] rfl (by (try simp only [List.map_toArray, List.map_cons, List.map_nil]); first | done | rfl | (simp only [List.length_drop, List.length_take]; rfl)) ?_; (with_reducible refine (impl_in.calls a0 1 a1 false _ A3.out).mono ?_); rintro e w' ⟨rfl, ⟨nd, rfl⟩⟩; refine ⟨_, rfl, ?_⟩))
    go_ret
    exact ⟨by first | rfl | (simp; done) | (simp [*]; done), by repeat (first | exact Drawn0.refl _ | apply Drawn0.step)⟩

/-! ### impl_placeCode: function 110 -/
def impl_placeCode.f (a0 : Int) (a1 : Int) : Option (Int) := (impl_isPower.f a0 256).bind fun t1087 => (if t1087 = true then ((impl_in.f a1 0 (wrap64 (a0 - 1))).bind fun t1088 => (if t1088 = true then (some 0) else (some 4))) else (some 8))
set_option maxHeartbeats 8000000 in
set_option maxRecDepth 100000 in
theorem impl_placeCode.calls (a0 : Int) (a1 : Int) (r : Int) (w : World) (h : impl_placeCode.f a0 a1 = some r) :
    Calls Try.prog 110 #[.int .i64 a0, .int .i64 a1] w fun e w' => e = .returned (.int .i64 r) ∧ Drawn0 w w' := by
  have H : ((impl_isPower.f a0 256).bind fun t1087 => (if t1087 = true then ((impl_in.f a1 0 (wrap64 (a0 - 1))).bind fun t1088 => (if t1088 = true then (some 0) else (some 4))) else (some 8))) = some r := h
  clear h
  replace H := Option.bind_eq_some_iff.mp H
  obtain ⟨t1087, A30, H⟩ := H
  replace H : (if t1087 = true then ((impl_in.f a1 0 (wrap64 (a0 - 1))).bind fun t1088 => (if t1088 = true then (some 0) else (some 4))) else (some 8)) = some r := H
  have A3 := Aside0.mk A30
  clear A30
  by_cases c4 : t1087 = true
  · subst c4
    have H1 : ((impl_in.f a1 0 (wrap64 (a0 - 1))).bind fun t1088 => (if t1088 = true then (some 0) else (some 4))) = some r := by rw [if_pos rfl] at H; exact H
    clear H
    have H := H1
    clear H1
    replace H := Option.bind_eq_some_iff.mp H
    obtain ⟨t1088, A50, H⟩ := H
    replace H : (if t1088 = true then (some 0) else (some 4)) = some r := H
    have A5 := Aside0.mk A50
    clear A50
    by_cases c6 : t1088 = true
    · subst c6
      have H1 : (some 0) = some r := by rw [if_pos rfl] at H; exact H
      clear H
      have H := H1
      clear H1
      obtain rfl := Option.some.inj H
      go_enter Try.func110, Try.ntmps110
      go_wp2_with (first | ((with_reducible refine gate_callee (f := 143) rfl ?_); refine goesL_ (some 7) rfl rfl Try.func143 (by kernel_rfl) rfl #[.int .i64 a0, .int .i64 256] rfl (by (try simp only [List.map_toArray, List.map_cons, List.map_nil]); first | done | rfl | (simp only [List.length_drop, List.length_take]; rfl)) ?_; (with_reducible refine (impl_isPower.calls a0 256 true _ A3.out).mono ?_); rintro e w' ⟨rfl, ⟨nd, rfl⟩⟩; refine ⟨_, rfl, ?_⟩) | ((with_reducible refine gate_callee (f := 95) rfl ?_); refine goesL_ (some 13) rfl rfl Try.func95 (by kernel_rfl) rfl #[.int .i64 a1, .int .i64 0, .int .i64 (wrap64 (a0 - 1))] rfl (by (try simp only [List.map_toArray, List.map_cons, List.map_nil]); first | done | rfl | (simp only [List.length_drop, List.length_take]; rfl)) ?_; (with_reducible refine (impl_in.calls a1 0 (wrap64 (a0 - 1)) true _ A5.out).mono ?_); rintro e w' ⟨rfl, ⟨nd, rfl⟩⟩; refine ⟨_, rfl, ?_⟩))
      go_ret
      exact ⟨by first | rfl | (simp; done) | (simp [*]; done), by repeat (first | exact Drawn0.refl _ | apply Drawn0.step)⟩
    · replace c6 := Bool.eq_false_iff.mpr c6
      subst c6
      have H1 : (some 4) = some r := by rw [if_neg (show ¬ (false = true) by decide)] at H; exact H
      clear H
      have H := H1
      clear H1
      obtain rfl := Option.some.inj H
      go_enter Try.func110, Try.ntmps110
      go_wp2_with (first | ((with_reducible refine gate_callee (f := 143) rfl ?_); refine goesL_ (some 7) rfl rfl Try.func143 (by kernel_rfl) rfl #[.int .i64 a0, .int .i64 256] rfl (by (try simp only [List.map_toArray, List.map_cons, List.map_nil]); first | done | rfl | (simp only [List.length_drop, List.length_take]; rfl)) ?_; (with_reducible refine (impl_isPower.calls a0 256 true _ A3.out).mono ?_); rintro e w' ⟨rfl, ⟨nd, rfl⟩⟩; refine ⟨_, rfl, ?_⟩) | ((with_reducible refine gate_callee (f := 95) rfl ?_); refine goesL_ (some 13) rfl rfl Try.func95 (by kernel_rfl) rfl #[.int .i64 a1, .int .i64 0, .int .i64 (wrap64 (a0 - 1))] rfl (by (try simp only [List.map_toArray, List.map_cons, List.map_nil]); first | done | rfl | (simp only [List.length_drop, List.length_take]; rfl)) ?_; (with_reducible refine (impl_in.calls a1 0 (wrap64 (a0 - 1)) false _ A5.out).mono ?_); rintro e w' ⟨rfl, ⟨nd, rfl⟩⟩; refine ⟨_, rfl, ?_⟩))
      go_ret
      exact ⟨by first | rfl | (simp; done) | (simp [*]; done), by repeat (first | exact Drawn0.refl _ | apply Drawn0.step)⟩
  · replace c4 := Bool.eq_false_iff.mpr c4
    subst c4
    have H1 : (some 8) = some r := by rw [if_neg (show ¬ (false = true) by decide)] at H; exact H
    clear H
    have H := H1
    clear H1
    obtain rfl := Option.some.inj H
    go_enter Try.func110, Try.ntmps110
    go_wp2_with (first | ((with_reducible refine gate_callee (f := 143) rfl ?_); refine goesL_ (some 7) rfl rfl Try.func143 (by kernel_rfl) rfl #[.int .i64 a0, .int .i64 256] rfl (by (try simp only [List.map_toArray, List.map_cons, List.map_nil]); first | done | rfl | (simp only [List.length_drop, List.length_take]; rfl)) ?_; (with_reducible refine (impl_isPower.calls a0 256 false _ A3.out).mono ?_); rintro e w' ⟨rfl, ⟨nd, rfl⟩⟩; refine ⟨_, rfl, ?_⟩))
    go_ret
    exact ⟨by first | rfl | (simp; done) | (simp [*]; done), by repeat (first | exact Drawn0.refl _ | apply Drawn0.step)⟩

end Go.Proofs.Ytlogocmojnhpbaa.Print
