/- Labels and transfers, in the program and in the reference: the small functions. -/
import Derived.Test.YtihbaieiempjeaaBy
import Derived.Test.YtihbaieiempjeaaTape
import Derived.Test.YtihbaieiempjeaaIntS
namespace Go.Proofs.Ytihbaieiempjeaa
open Go.RowKit

/-! plain -/
def labelB (x : Int) : Bool := inB x 0 65535
theorem labelB_iff {x : Int} : labelB x = true ↔ 0 ≤ x ∧ x ≤ 65535 := inB_iff
theorem below_label (s a n : Int) : labelB (belowI s a n) = true := inB_iff.2 (belowI_range s a n)
theorem xor_label {a b : Int} (ha : labelB a = true) (hb : labelB b = true) : labelB (bits .xor .i64 a b) = true := by
  obtain ⟨a0, a1⟩ := labelB_iff.1 ha
  obtain ⟨b0, b1⟩ := labelB_iff.1 hb
  obtain ⟨x, rfl⟩ := Int.eq_ofNat_of_zero_le a0
  obtain ⟨y, rfl⟩ := Int.eq_ofNat_of_zero_le b0
  rw [xor_nat x y (by omega) (by omega)]
  have h : x ^^^ y < 2 ^ 16 := Nat.xor_lt_two_pow (by omega) (by omega)
  exact labelB_iff.2 (by omega)
theorem xor_undo {a b : Int} (ha : labelB a = true) (hb : labelB b = true) : bits .xor .i64 (bits .xor .i64 a b) b = a := by
  obtain ⟨a0, a1⟩ := labelB_iff.1 ha
  obtain ⟨b0, b1⟩ := labelB_iff.1 hb
  obtain ⟨x, rfl⟩ := Int.eq_ofNat_of_zero_le a0
  obtain ⟨y, rfl⟩ := Int.eq_ofNat_of_zero_le b0
  have h : x ^^^ y < 2 ^ 16 := Nat.xor_lt_two_pow (by omega) (by omega)
  rw [xor_nat x y (by omega) (by omega), xor_nat _ y (by omega) (by omega), Nat.xor_assoc, Nat.xor_self, Nat.xor_zero]
theorem xor_zero {a : Int} (ha : labelB a = true) : bits .xor .i64 a 0 = a := by
  obtain ⟨a0, a1⟩ := labelB_iff.1 ha
  obtain ⟨x, rfl⟩ := Int.eq_ofNat_of_zero_le a0
  have h := xor_nat x 0 (by omega) (by omega)
  rw [Nat.xor_zero] at h
  exact h
theorem xor_swap {a b : Int} (ha : labelB a = true) (hb : labelB b = true) : bits .xor .i64 a b = bits .xor .i64 b a := by
  obtain ⟨a0, a1⟩ := labelB_iff.1 ha
  obtain ⟨b0, b1⟩ := labelB_iff.1 hb
  obtain ⟨x, rfl⟩ := Int.eq_ofNat_of_zero_le a0
  obtain ⟨y, rfl⟩ := Int.eq_ofNat_of_zero_le b0
  rw [xor_nat x y (by omega) (by omega), xor_nat y x (by omega) (by omega), Nat.xor_comm]
def zeroI (s k : Int) : Int := belowI (keyedI s 9 k) 0 65536
def deltaI (s a : Int) : Int := bits .or .i64 (belowI s a 65536) 1
theorem zero_label (s k : Int) : labelB (zeroI s k) = true := below_label _ _ _
theorem delta_label (s a : Int) : labelB (deltaI s a) = true := by
  unfold deltaI
  obtain ⟨a0, a1⟩ := labelB_iff.1 (below_label s a 65536)
  obtain ⟨x, hx⟩ := Int.eq_ofNat_of_zero_le a0
  rw [hx] at a1 ⊢
  have e := or_nat x 1 (by omega) (by omega)
  have h : x ||| 1 < 2 ^ 16 := Nat.or_lt_two_pow (by omega) (by omega)
  rw [show (1 : Int) = ((1 : Nat) : Int) from rfl, e]
  exact labelB_iff.2 (by omega)
def lblI (z d v : Int) : Int := pick (v == 1) (bits .xor .i64 z d) z
theorem lbl_label {z d : Int} (v : Int) (hz : labelB z = true) (hd : labelB d = true) : labelB (lblI z d v) = true := by
  unfold lblI
  cases v == 1
  · exact hz
  · exact xor_label hz hd
theorem bit_cases {v : Int} (h : inB v 0 1 = true) : v = 0 ∨ v = 1 := by
  have := inB_iff.1 h
  omega
def bitsB (xs : List Int) : Bool := xs.all fun x => inB x 0 1
theorem bitsB_no {xs : List Int} {k : Nat} {x : Int} (h : xs[k]? = some x) (hx : inB x 0 1 = false) : bitsB xs = false := by
  unfold bitsB
  rw [List.all_eq_false]
  exact ⟨x, List.mem_of_getElem? h, by simp [hx]⟩
theorem bitsB_snoc {xs : List Int} {k : Nat} {x : Int} (h : xs[k]? = some x) (hw : bitsB (xs.take k) = true) (hx : inB x 0 1 = true) : bitsB (xs.take (k + 1)) = true := by
  rw [take_snoc h]
  unfold bitsB at *
  simp [hw, hx, List.all_append]
theorem bitsB_get {xs : List Int} {k : Nat} {x : Int} (h : bitsB xs = true) (hk : xs[k]? = some x) : inB x 0 1 = true := by
  unfold bitsB at h
  rw [List.all_eq_true] at h
  exact h x (List.mem_of_getElem? hk)
def labsTo (s a : Int) (bs : List Int) : Nat → List Int
  | 0 => []
  | j + 1 => labsTo s a bs j ++ [lblI (zeroI s j) (deltaI s a) (bs.getD j 0)]
theorem labsTo_length (s a : Int) (bs : List Int) (j : Nat) : (labsTo s a bs j).length = j := by
  induction j with
  | zero => rfl
  | succ j ih => simp [labsTo, ih]
theorem labsTo_succ {s a : Int} {bs : List Int} {j : Nat} {x : Int} (h : bs[j]? = some x) : labsTo s a bs (j + 1) = labsTo s a bs j ++ [lblI (zeroI s j) (deltaI s a) x] := by
  rw [labsTo, List.getD_eq_getElem?_getD, h]
  rfl
theorem labsTo_get (s a : Int) (bs : List Int) (k : Nat) : ∀ j, k < j → (labsTo s a bs j)[k]? = some (lblI (zeroI s k) (deltaI s a) (bs.getD k 0))
  | 0, h => absurd h (by omega)
  | j + 1, h => by
    rw [labsTo, List.getElem?_append]
    by_cases hk : k < j
    · rw [if_pos (by rw [labsTo_length]; exact hk)]
      exact labsTo_get s a bs k j hk
    · have e : k = j := by omega
      subst e
      rw [if_neg (by rw [labsTo_length]; omega), labsTo_length]
      simp
def replyI (m r s d : Int) : Int := bits .xor .i64 m (pick (d == 1) s r)
def recvI (e0 e1 b r : Int) : Int := bits .xor .i64 (pick (b == 1) e1 e0) r
theorem reply_label {m r s : Int} (d : Int) (hm : labelB m = true) (hr : labelB r = true) (hs : labelB s = true) : labelB (replyI m r s d) = true := by
  unfold replyI
  cases d == 1
  · exact xor_label hm hr
  · exact xor_label hm hs
theorem xor_bits : bits .xor .i64 0 0 = 0 ∧ bits .xor .i64 0 1 = 1 ∧ bits .xor .i64 1 0 = 1 ∧ bits .xor .i64 1 1 = 0 :=
  ⟨xor_nat 0 0 (by omega) (by omega), xor_nat 0 1 (by omega) (by omega), xor_nat 1 0 (by omega) (by omega), xor_nat 1 1 (by omega) (by omega)⟩
theorem ask_bit {b c : Int} (hb : inB b 0 1 = true) (hc : inB c 0 1 = true) : inB (bits .xor .i64 b c) 0 1 = true := by
  obtain ⟨x00, x01, x10, x11⟩ := xor_bits
  rcases bit_cases hb with rfl | rfl <;> rcases bit_cases hc with rfl | rfl <;> simp [x00, x01, x10, x11, inB]
/-- What is received is the label of the bit. -/
theorem recv_all {z d r0 r1 b c : Int} (hz : labelB z = true) (hd : labelB d = true) (h0 : labelB r0 = true) (h1 : labelB r1 = true) (hb : inB b 0 1 = true) (hc : inB c 0 1 = true) :
    recvI (replyI (lblI z d 0) r0 r1 (bits .xor .i64 b c)) (replyI (lblI z d 1) r1 r0 (bits .xor .i64 b c)) b (pick (c == 1) r1 r0) = lblI z d b := by
  obtain ⟨x00, x01, x10, x11⟩ := xor_bits
  have hzd := xor_label hz hd
  rcases bit_cases hb with rfl | rfl <;> rcases bit_cases hc with rfl | rfl
  · rw [x00]; exact xor_undo hz h0
  · rw [x01]; exact xor_undo hz h1
  · rw [x10]; exact xor_undo hzd h0
  · rw [x11]; exact xor_undo hzd h1

/-! walks -/
theorem sIsLabel (x : Int) (w : World) : Calls Try.prog 61 #[.int .i64 x] w fun e w' => e = .returned (.bool (labelB x)) ∧ w = w' := by
  go_enter Try.func61, Try.ntmps61
  go_wp2_with (go_at_call 57; refine (sWithin _ _ _ _).mono ?_; rintro e w' ⟨rfl, rfl⟩)
  go_ret
  exact ⟨rfl, rfl⟩
set_option maxHeartbeats 800000 in
theorem sTapeFork (s a k : Int) (w : World) (h1 : tapeOkB s a = true) (h2 : inB k 0 1000000 = true) :
    Calls Try.prog 60 #[.agg #[.int .i64 s, .int .i64 a], .int .i64 k] w fun e w' => e = .returned (.agg #[.int .i64 (keyedI s 9 k), .int .i64 0]) ∧ Below w.heap.size w w' := by
  go_enter Try.func60, Try.ntmps60
  have b_0 := (Below.refl w.heap.size w)
  have s_0 := b_0.size
  go_wp2_with fail
  refine calls_forget2 (W := w) (b0 := w.heap.size) (t0 := 29) (c0 := #[.int .i64 s, .int .i64 a]) (b1 := w.heap.size + 1) (t1 := 29) (c1 := #[.int .i64 0, .int .i64 0]) ?_ ?_ ?_ ?_
  (focus exact blkcBy)
  (focus exact blkcBy)
  (focus (exact belBy))
  intro X1 t_n r_n hX1
  have sX1 := hX1.size
  have t_lt := t_n.lt
  have r_lt := r_n.lt
  refine (sTapeOk _ _ _).mono ?_
  rintro e w1 ⟨rfl, hb1⟩
  have s1 := hb1.size
  have hT1 := hX1.trans (hb1.mono sX1)
  have b_1 := b_0.trans (hT1.mono (by omega))
  have t_1 := Blk.past hb1 t_n
  have r_1 := Blk.past hb1 r_n
  clear b_0 t_n r_n hX1 hT1 hb1
  have cell_t := t_1.cell
  have froz_t := t_1.frozen
  have lt_t := t_1.lt
  have cell_r := r_1.cell
  have froz_r := r_1.frozen
  have lt_r := r_1.lt
  go_wp2_with fail
  refine calls_forget0 (W := w1) ?_ ?_
  (focus (exact belBy))
  intro X2 hX2
  have sX2 := hX2.size
  refine (sWithin _ _ _ _).mono ?_
  rintro e w' ⟨rfl, rfl⟩
  have b_2 := b_1.trans (hX2.mono (by omega))
  have t_2 := Blk.past hX2 t_1
  have r_2 := Blk.past hX2 r_1
  clear t_1 r_1 b_1 cell_t froz_t lt_t cell_r froz_r lt_r hX2
  have cell_t := t_2.cell
  have froz_t := t_2.frozen
  have lt_t := t_2.lt
  have cell_r := r_2.cell
  have froz_r := r_2.frozen
  have lt_r := r_2.lt
  go_wp2_with fail
  refine calls_forget0 (W := X2) ?_ ?_
  (focus (exact belBy))
  intro X3 hX3
  have sX3 := hX3.size
  refine (sKeyed _ _ _ _).mono ?_
  rintro e w' ⟨rfl, rfl⟩
  have b_3 := b_2.trans (hX3.mono (by omega))
  have t_3 := Blk.past hX3 t_2
  have r_3 := Blk.past hX3 r_2
  clear t_2 r_2 b_2 cell_t froz_t lt_t cell_r froz_r lt_r hX3
  have cell_t := t_3.cell
  have froz_t := t_3.frozen
  have lt_t := t_3.lt
  have cell_r := r_3.cell
  have froz_r := r_3.frozen
  have lt_r := r_3.lt
  go_wp2_with fail
  ((try simp only [Exit.inBlock, Exit.then]); apply bodyPost_ret0; focus ((try simp only [results, Try.results60]); (try go_simp); (try rfl)))
  refine ⟨rfl, ?_⟩
  exact belBy
set_option maxHeartbeats 800000 in
theorem sInputZero (s a k : Int) (w : World) (h1 : tapeOkB s a = true) (h2 : inB k 0 1000000 = true) :
    Calls Try.prog 33 #[.agg #[.int .i64 s, .int .i64 a], .int .i64 k] w fun e w' => e = .returned (.int .i64 (zeroI s k)) ∧ Below w.heap.size w w' := by
  have hF := hid (fun w => sTapeFork s a k w h1 h2)
  go_enter Try.func33, Try.ntmps33
  have b_0 := (Below.refl w.heap.size w)
  have s_0 := b_0.size
  go_wp2_with fail
  refine calls_forget1 (W := w) (b0 := w.heap.size) (t0 := 29) (c0 := #[.int .i64 s, .int .i64 a]) ?_ ?_ ?_
  (focus exact blkcBy)
  (focus (exact belBy))
  intro X1 t_n hX1
  have sX1 := hX1.size
  have t_lt := t_n.lt
  refine (sTapeOk _ _ _).mono ?_
  rintro e w1 ⟨rfl, hb1⟩
  have s1 := hb1.size
  have hT1 := hX1.trans (hb1.mono sX1)
  have b_1 := b_0.trans (hT1.mono (by omega))
  have t_1 := Blk.past hb1 t_n
  clear b_0 t_n hX1 hT1 hb1
  have cell_t := t_1.cell
  have froz_t := t_1.frozen
  have lt_t := t_1.lt
  go_wp2_with fail
  refine calls_forget0 (W := w1) ?_ ?_
  (focus (exact belBy))
  intro X2 hX2
  have sX2 := hX2.size
  refine (sWithin _ _ _ _).mono ?_
  rintro e w' ⟨rfl, rfl⟩
  have b_2 := b_1.trans (hX2.mono (by omega))
  have t_2 := Blk.past hX2 t_1
  clear t_1 b_1 cell_t froz_t lt_t hX2
  have cell_t := t_2.cell
  have froz_t := t_2.frozen
  have lt_t := t_2.lt
  go_wp2_with fail
  refine calls_forget0 (W := X2) ?_ ?_
  (focus (exact belBy))
  intro X3 hX3
  have sX3 := hX3.size
  refine (hF.out _).mono ?_
  rintro e w3 ⟨rfl, hb3⟩
  have s3 := hb3.size
  have hT3 := hX3.trans (hb3.mono sX3)
  have b_3 := b_2.trans (hT3.mono (by omega))
  have t_3 := Blk.past hT3 t_2
  clear t_2 b_2 cell_t froz_t lt_t hX3 hT3 hb3
  have cell_t := t_3.cell
  have froz_t := t_3.frozen
  have lt_t := t_3.lt
  go_wp2_with fail
  refine calls_forget0 (W := w3) ?_ ?_
  (focus (exact belBy))
  intro X4 hX4
  have sX4 := hX4.size
  refine (sTapeBelow _ _ _ _).mono ?_
  rintro e w4 ⟨rfl, hb4⟩
  have s4 := hb4.size
  have hT4 := hX4.trans (hb4.mono sX4)
  have b_4 := b_3.trans (hT4.mono (by omega))
  have t_4 := Blk.past hT4 t_3
  clear t_3 b_3 cell_t froz_t lt_t hX4 hT4 hb4
  have cell_t := t_4.cell
  have froz_t := t_4.frozen
  have lt_t := t_4.lt
  go_wp2_with fail
  go_ret
  refine ⟨rfl, ?_⟩
  exact belBy
theorem s_l06 (s a : Int) (w : World) :
    Calls Try.prog 31 #[.agg #[.int .i64 s, .int .i64 a]] w fun e w' => e = .returned (.bool (tapeOkB s a && decide (a ≤ 900000))) ∧ Below w.heap.size w w' := by
  cases h1 : tapeOkB s a; rotate_left
  cases h2 : decide (a ≤ 900000)
  all_goals
    go_enter Try.func31, Try.ntmps31
    go_wp2_with (go_at_call 58; refine (sTapeOk _ _ _).mono ?_; rintro e w1 ⟨rfl, hb1⟩; obtain ⟨z1, c1, f1⟩ := bfacts hb1)
    go_ret
    refine ⟨by simp, ?_⟩
    exact belBy
set_option maxHeartbeats 800000 in
theorem sDeltaOf (s a : Int) (w : World) (h1 : tapeOkB s a = true) (h2 : a ≤ 900000) :
    Calls Try.prog 32 #[.agg #[.int .i64 s, .int .i64 a]] w fun e w' => e = .returned (.tuple #[.int .i64 (deltaI s a), .agg #[.int .i64 s, .int .i64 (belowAt s a 65536)]]) ∧ Below w.heap.size w w' := by
  have h3 : (tapeOkB s a && decide (a ≤ 900000)) = true := by simp [h1, h2]
  clear h2 h1
  go_enter Try.func32, Try.ntmps32
  have b_0 := (Below.refl w.heap.size w)
  have s_0 := b_0.size
  go_wp2_with fail
  refine calls_forget2 (W := w) (b0 := w.heap.size) (t0 := 29) (c0 := #[.int .i64 s, .int .i64 a]) (b1 := w.heap.size + 1) (t1 := 29) (c1 := #[.int .i64 0, .int .i64 0]) ?_ ?_ ?_ ?_
  (focus exact blkcBy)
  (focus exact blkcBy)
  (focus (exact belBy))
  intro X1 t_n r_n hX1
  have sX1 := hX1.size
  have t_lt := t_n.lt
  have r_lt := r_n.lt
  refine (s_l06 _ _ _).mono ?_
  rintro e w1 ⟨rfl, hb1⟩
  have s1 := hb1.size
  have hT1 := hX1.trans (hb1.mono sX1)
  have b_1 := b_0.trans (hT1.mono (by omega))
  have t_1 := Blk.past hb1 t_n
  have r_1 := Blk.past hb1 r_n
  clear b_0 t_n r_n hX1 hT1 hb1
  have cell_t := t_1.cell
  have froz_t := t_1.frozen
  have lt_t := t_1.lt
  have cell_r := r_1.cell
  have froz_r := r_1.frozen
  have lt_r := r_1.lt
  rw [h3]
  go_wp2_with fail
  refine calls_forget0 (W := w1) ?_ ?_
  (focus (exact belBy))
  intro X2 hX2
  have sX2 := hX2.size
  refine (sTapeBelow _ _ _ _).mono ?_
  rintro e w2 ⟨rfl, hb2⟩
  have s2 := hb2.size
  have hT2 := hX2.trans (hb2.mono sX2)
  have b_2 := b_1.trans (hT2.mono (by omega))
  have t_2 := Blk.past hT2 t_1
  have r_2 := Blk.past hT2 r_1
  clear t_1 r_1 b_1 cell_t froz_t lt_t cell_r froz_r lt_r hX2 hT2 hb2
  have cell_t := t_2.cell
  have froz_t := t_2.frozen
  have lt_t := t_2.lt
  have cell_r := r_2.cell
  have froz_r := r_2.frozen
  have lt_r := r_2.lt
  go_wp2_with fail
  refine wp_forget1 (w0 := w2) (B := w2.heap.size) (b0 := w2.heap.size) (t0 := 29) (c0 := #[.int .i64 s, .int .i64 (belowAt s a 65536)]) ?_ ?_ ?_
  (focus exact blkcBy)
  (focus (exact belBy))
  intro w3 nx_3 hX3
  have sX3 := hX3.size
  have nx_lt := nx_3.lt
  have b_3 := b_2.trans (hX3.mono (by omega))
  have t_3 := Blk.past hX3 t_2
  have r_3 := Blk.past hX3 r_2
  clear t_2 r_2 b_2 cell_t froz_t lt_t cell_r froz_r lt_r hX3
  have cell_t := t_3.cell
  have froz_t := t_3.frozen
  have lt_t := t_3.lt
  have cell_r := r_3.cell
  have froz_r := r_3.frozen
  have lt_r := r_3.lt
  have cell_nx := nx_3.cell
  have froz_nx := nx_3.frozen
  have lt_nx := nx_3.lt
  go_wp2_with fail
  go_region_held3 (fun w' => w'.cell? ⟨w2.heap.size, 0, none⟩ = some (.int .i64 s) ∧ w'.cell? ⟨w2.heap.size, 1, none⟩ = some (.int .i64 (belowAt s a 65536))) ((refine ⟨(Blk.cell (t := 29) (cs := #[.int .i64 s, .int .i64 (belowAt s a 65536)]) ?qnx 0), (Blk.cell ?qnx 1)⟩; (case qnx => (exact blkBy)))) (fail)
  all_goals
    go_wp2_with fail
    ((try simp only [Exit.inBlock, Exit.then]); apply bodyPost_ret0; focus ((try simp only [results, Try.results32]); (try go_simp); (try rfl)))
    refine ⟨rfl, ?_⟩
    exact belBy
theorem cells_lit (w : World) (xs : List Int) (t : TypeId) : Cells (w.alloc (.cells (ints xs).toArray t)) (w.alloc (.cells (ints xs).toArray t)).heap.size (some ⟨w.heap.size, 0, none⟩) (ints xs) := fun _ =>
  ⟨w.heap.size, 0, rfl, by simp, fun i v hv => by
    have h := (Blk.new (w := w) (b := w.heap.size) (t := t) (cs := (ints xs).toArray) rfl).cell i
    rw [Nat.zero_add, h]
    simpa using hv⟩
theorem mul_wraps {d : Int} (hd : labelB d = true) : wrap64 (1 * d) = d ∧ wrap64 (0 * d) = 0 := by
  have h1 := labelB_iff.1 hd
  exact ⟨by rw [Int.one_mul]; exact IntWalk.wrap64_in _ (by omega), by rw [Int.zero_mul]; exact IntWalk.wrap64_in _ (by omega)⟩
end Go.Proofs.Ytihbaieiempjeaa
