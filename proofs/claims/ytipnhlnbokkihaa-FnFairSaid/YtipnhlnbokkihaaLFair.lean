/- The law that the numbers of rounds of jobs that started together never differ by more than one (FnFair). No conditions. -/
import Derived.Test.YtipnhlnbokkihaaDrawS
import Derived.Test.YtipnhlnbokkihaaPool
import Derived.Test.YtipnhlnbokkihaaHead
import Derived.BigQuiet
set_option linter.unusedVariables false
namespace Go.Proofs.Ytipnhlnbokkihaa
open Go.RowKit Go.ChangeShapes Go.WideShapes Go.ChangeAt

namespace fair
theorem best_min {js : List Jb} : ∀ i, i ≤ js.length → ∀ q j, q < i → js[q]? = some j → (js.getD (bestTo js i) jb0).d ≤ j.d
  | 0, _, q, j, h, _ => absurd h (Nat.not_lt_zero q)
  | i + 1, hi, q, j, hq, hj => by
    unfold bestTo
    by_cases he : q = i
    · subst he
      have e : js.getD q jb0 = j := by rw [List.getD_eq_getElem?_getD, hj]; rfl
      split
      · rw [e]
        exact Int.le_refl _
      · next h =>
        rw [e] at h
        omega
    · have ih := best_min i (by omega) q j (by omega) hj
      split
      · next h => omega
      · exact ih
theorem job_min {S : SV} {j : Jb} (hj : j ∈ S.js) : (job S).d ≤ j.d := by
  obtain ⟨q, hq⟩ := List.getElem?_of_mem hj
  exact best_min S.js.length (Nat.le_refl _) q j (List.getElem?_eq_some_iff.1 hq).1 hq
def sumD : List Jb → Int
  | [] => 0
  | j :: js => j.d + sumD js
theorem sumD_set : ∀ {js : List Jb} {k : Nat} {j : Jb}, js[k]? = some j → ∀ y : Jb, sumD (js.set k y) = sumD js - j.d + y.d
  | [], k, j, h, _ => by simp at h
  | x :: js, 0, j, h, y => by
    simp at h
    subst h
    simp only [List.set_cons_zero, sumD]
    omega
  | x :: js, k + 1, j, h, y => by
    simp only [List.set_cons_succ, sumD]
    rw [sumD_set (by simpa using h) y]
    omega
theorem sumD_ge {c : Int} : ∀ {js : List Jb}, (∀ j ∈ js, c ≤ j.d) → c * (js.length : Int) ≤ sumD js
  | [], _ => by simp [sumD]
  | x :: js, h => by
    have h1 := sumD_ge (js := js) fun j hj => h j (List.mem_cons_of_mem _ hj)
    have h2 := h x (List.mem_cons_self ..)
    simp only [List.length_cons, sumD]
    rw [Int.natCast_add, Int.mul_add]
    omega
theorem sumD_append : ∀ a b : List Jb, sumD (a ++ b) = sumD a + sumD b
  | [], b => by simp [sumD]
  | t :: a, b => by simp only [List.cons_append, sumD, sumD_append a b]; omega
def fairS (n k : Nat) (S : SV) : Prop := okS S ∧ S.z = 900 ∧ S.js.length = n ∧ (∀ j ∈ S.js, j.l + j.d = 20 ∧ j.n ≤ 5) ∧ (∀ i ∈ S.js, ∀ j ∈ S.js, i.d ≤ j.d + 1) ∧ sumD S.js = k ∧ S.ts.length = k ∧ S.n ≤ 5 * k ∧ S.b ≤ 5 * k
theorem fair_stepB {n k : Nat} {S : SV} (h : fairS n k S) (hk : k < 100) (hn : 0 < n) : stepB S = true := by
  obtain ⟨hS, _, hl, _, _, _, ht, _⟩ := h
  unfold stepB
  rw [schedOkB_yes hS.1, decide_eq_true (by omega), decide_eq_true (by omega)]
  rfl
theorem fair_step {n k : Nat} {S : SV} (h : fairS n k S) (hk : k < 100) (hn : 0 < n) : fairS n (k + 1) (stepS S) ∨ ((stepS S).js.length < n ∧ 19 * n ≤ k) := by
  have hsb := fair_stepB h hk hn
  obtain ⟨hS, hz, hl, hj, hd, hs, ht, h1, h2⟩ := h
  have hj0 : 0 < S.js.length := by omega
  have hok := okS_step hS hsb
  obtain ⟨⟨a1, a2, a3, a4, a5⟩, b1, ⟨b2, b2'⟩, ⟨b3, b3'⟩, b4, b4'⟩ := sched_facts hS.1 hj0
  have hat := job_at hj0
  have hjj := hj _ (List.mem_of_getElem? hat)
  have hf : failsB S = false := by
    rw [fails_iff hS hj0, decide_eq_false_iff_not]
    omega
  rw [stepS_take hf] at hok ⊢
  by_cases hl1 : (job S).l = 1
  · refine Or.inr ⟨?_, ?_⟩
    · show (if (job S).l = 1 then S.js.eraseIdx (best S) else S.js.set (best S) (jbNext (job S))).length < n
      rw [if_pos hl1, lenErase (best_lt hj0)]
      omega
    · have h19 : (job S).d = 19 := by omega
      have := sumD_ge (c := 19) (js := S.js) fun j hm => by
        have := job_min hm
        omega
      omega
  · have ejs : (stepT S).js = S.js.set (best S) (jbNext (job S)) := if_neg hl1
    have em : ∀ j ∈ (stepT S).js, j ∈ S.js ∨ j = jbNext (job S) := by
      rw [ejs]
      exact fun j hm => List.mem_or_eq_of_mem_set hm
    refine Or.inl ⟨hok, hz, ?_, ?_, ?_, ?_, ?_, ?_, ?_⟩
    · rw [ejs, List.length_set]
      exact hl
    · intro j hm
      rcases em j hm with h | rfl
      · exact hj j h
      · simp only [jbNext]
        omega
    · intro i hi j hm
      rcases em i hi with h | rfl <;> rcases em j hm with h' | rfl
      · exact hd i h j h'
      · have := hd i h _ (List.mem_of_getElem? hat)
        simp only [jbNext]
        omega
      · have := job_min h'
        simp only [jbNext]
        omega
      · simp only [jbNext]
        omega
    · rw [ejs, sumD_set hat]
      simp only [jbNext]
      omega
    · show (S.ts ++ [(⟨S.n, (job S).n⟩ : Tk)]).length = k + 1
      rw [List.length_append, List.length_singleton, ht]
    · show S.n + (job S).n ≤ 5 * ((k + 1 : Nat) : Int)
      omega
    · show burned S ≤ 5 * ((k + 1 : Nat) : Int)
      unfold burned short
      split <;> omega
theorem lenJs : ∀ (m : Nat) (S : SV), (runS m S).js.length ≤ S.js.length
  | 0, S => Nat.le_refl _
  | m + 1, S => by
    unfold runS
    split
    · have h1 := lenJs m (stepS S)
      have h2 := stepS_len S
      omega
    · exact Nat.le_refl _
theorem fair_run {n : Nat} (hn : 0 < n) : ∀ (m k : Nat) {S : SV}, fairS n k S → k + m < 100 → (fairS n (k + m) (runS m S) ∧ runN m S = m) ∨ ((runS m S).js.length < n ∧ 19 * n ≤ k + runN m S)
  | 0, k, S, h, _ => Or.inl ⟨h, rfl⟩
  | m + 1, k, S, h, hk => by
    have hsb := fair_stepB h (by omega) hn
    have e1 : runS (m + 1) S = runS m (stepS S) := by rw [runS, hsb]; rfl
    have e2 : runN (m + 1) S = runN m (stepS S) + 1 := by rw [runN, hsb]; rfl
    rw [e1, e2]
    rcases fair_step h (by omega) hn with h1 | ⟨h1, h2⟩
    · rcases fair_run hn m (k + 1) h1 (by omega) with ⟨g1, g2⟩ | ⟨g1, g2⟩
      · refine Or.inl ⟨?_, by omega⟩
        have e : k + (m + 1) = k + 1 + m := by omega
        rw [e]
        exact g1
      · exact Or.inr ⟨g1, by omega⟩
    · refine Or.inr ⟨?_, by omega⟩
      have := lenJs m (stepS S)
      omega
def startS (i : Nat) (S : SV) : Prop := okS S ∧ S.z = 900 ∧ S.js.length = i ∧ (∀ j ∈ S.js, j.l = 20 ∧ j.d = 0 ∧ j.i ≤ i ∧ j.n ≤ 5) ∧ S.ts = [] ∧ S.n = 0 ∧ S.b = 0 ∧ S.fs = []
theorem start_zero : startS 0 ⟨900, 0, 0, [], [], []⟩ := ⟨okS_new (by omega) (by omega), rfl, rfl, fun _ h => (by simp at h), rfl, rfl, rfl, rfl⟩
theorem start_add {i : Nat} {S : SV} (h : startS i S) (hi : i < 16) {need : Int} (h1 : 1 ≤ need) (h2 : need ≤ 5) : addB S (i + 1 : Nat) need 20 = true ∧ startS (i + 1) (addS S (i + 1 : Nat) need 20) := by
  obtain ⟨hS, hz, hl, hj, ht, hn, hb, hf⟩ := h
  obtain ⟨⟨hp, hjl, hts, hjs, htn⟩, _, _⟩ := id hS
  have hB : addB S (i + 1 : Nat) need 20 = true := by
    unfold addB
    rw [schedOkB_yes hS.1, Bool.true_and]
    refine schedOkB_yes ⟨hp, ?_, hts, ⟨?_, ?_⟩, htn⟩
    · show (S.js ++ [_]).length ≤ 16
      rw [List.length_append, List.length_singleton]
      omega
    · intro j hm
      rcases List.mem_append.1 hm with h | h
      · exact hjs.1 j h
      · rw [List.mem_singleton] at h
        subst h
        refine jbIn_iff.2 ?_
        simp only
        omega
    · intro a q u x ha hq hlt
      have hal : a < (S.js ++ [_]).length := (List.getElem?_eq_some_iff.1 ha).1
      rw [List.length_append, List.length_singleton] at hal
      have hq' : S.js[q]? = some x := by
        have hq2 : (S.js ++ [_])[q]? = some x := hq
        rwa [List.getElem?_append_left (by omega)] at hq2
      by_cases he : a < S.js.length
      · have ha' : S.js[a]? = some u := by
          have ha2 : (S.js ++ [_])[a]? = some u := ha
          rwa [List.getElem?_append_left he] at ha2
        exact hjs.2 _ _ _ _ ha' hq' hlt
      · have ha2 : (S.js ++ [⟨((i + 1 : Nat) : Int), need, 20, 0⟩])[a]? = some u := ha
        obtain rfl : a = S.js.length := by omega
        rw [List.getElem?_append_right (Nat.le_refl _), Nat.sub_self] at ha2
        injection ha2 with ha2
        subst ha2
        have := hj x (List.mem_of_getElem? hq')
        simp only
        omega
  refine ⟨hB, okS_add hS hB (by omega), hz, ?_, ?_, ht, hn, hb, hf⟩
  · show (S.js ++ [_]).length = i + 1
    rw [List.length_append, List.length_singleton, hl]
  · intro j hm
    rcases List.mem_append.1 hm with h | h
    · have := hj j h
      omega
    · rw [List.mem_singleton] at h
      subst h
      exact ⟨rfl, rfl, Int.le_refl _, h2⟩
theorem sumD_zero : ∀ {js : List Jb}, (∀ j ∈ js, j.d = 0) → sumD js = 0
  | [], _ => rfl
  | x :: js, h => by
    simp only [sumD]
    rw [h x (List.mem_cons_self ..), sumD_zero fun j hj => h j (List.mem_cons_of_mem _ hj)]
    rfl
theorem start_fair {i : Nat} {S : SV} (h : startS i S) : fairS i 0 S := by
  obtain ⟨hS, hz, hl, hj, ht, hn, hb, hf⟩ := h
  refine ⟨hS, hz, hl, fun j hm => ?_, fun a ha j hm => ?_, sumD_zero fun j hm => (hj j hm).2.1, by rw [ht]; rfl, by omega, by omega⟩
  · have := hj j hm
    omega
  · have h1 := hj a ha
    have h2 := hj j hm
    omega
theorem new900 (w : World) : Calls Try.prog 15 #[.int .i64 900] w fun e w' => e = .returned (.tuple #[.agg #[.int .i64 900, .int .i64 0, .int .i64 0, .slice none 0 0, .slice none 0 0, .slice none 0 0], .bool true]) ∧ Below w.heap.size w w' := by
  have h0 := iSchedNew 900 w
  rw [inB_iff.2 (show (1 : Int) ≤ 900 ∧ (900 : Int) ≤ 1000 by omega), pick_yes] at h0
  exact h0
theorem add_start {i : Nat} {S : SV} (h : startS i S) (hi : i < 16) {need : Int} (h1 : 1 ≤ need) (h2 : need ≤ 5) : startS (i + 1) (addR S ((i : Int) + 1) need 20) := by
  obtain ⟨g1, g2⟩ := start_add h hi h1 h2
  have e : addR S ((i : Int) + 1) need 20 = addS S ((i + 1 : Nat) : Int) need 20 := by
    show (if addB S ((i + 1 : Nat) : Int) need 20 then addS S ((i + 1 : Nat) : Int) need 20 else S) = _
    rw [g1]
    rfl
  rw [e]
  exact g2
theorem runM_nat {m : Nat} (h : m ≤ 400) : runM (m : Int) = m := by
  unfold runM
  rw [if_pos (inB_iff.2 ⟨by omega, by omega⟩)]
  rfl
set_option maxRecDepth 100000 in
set_option maxHeartbeats 12800000 in
theorem walk (A : Option Addr) (c : Nat) (bs : List Int) (w : World) (hb : Bytes w w.heap.size A bs) :
    Calls Try.prog 3 #[.slice A bs.length c] w fun e w' => e = .returned (.bool true) ∧ Below w.heap.size w w' := by
  have hl := hb.len
  have HB := hid hb
  clear hb
  by_cases h1 : (1048576 : Int) < (bs.length : Int)
  · go_enter Try.func3, Try.ntmps3
    go_wp2_with (go_at_call 13; refine (big_any _ _ _ _ hl).mono ?_; rintro e w' ⟨rfl, rfl⟩)
    go_ret
    exact ⟨rfl, Below.refl _ _⟩
  have H1 := hid (show (bs.length : Int) ≤ 1048576 by omega)
  clear h1
  go_enter Try.func3, Try.ntmps3
  go_wp2_with fail
  refine (big_no _ _ _ _ hl H1.out).mono ?_
  rintro e w' ⟨rfl, rfl⟩
  have b_0 := (Below.refl w.heap.size w)
  have s_0 := b_0.size
  go_wp2_with fail
  refine calls_forget0 (W := w) ?_ ?_
  (focus (repeat (first | (with_reducible exact Below.refl _ _) | (with_reducible refine Below.trans ?_ (Below.mono (by assumption) (by first | omega | (simp; done) | (simp; omega) | (simp [*]; done)))) | (with_reducible refine Below.alloc ?_ (by first | omega | (simp; done) | (simp; omega) | (simp [*]; done)) _) | (with_reducible refine Below.setCell ?_ (by first | omega | (simp; done) | (simp; omega) | (simp [*]; done)) _) | (with_reducible refine Below.drew ?_) | (with_reducible refine below_drewN ?_))))
  intro X1 hX1
  have sX1 := hX1.size
  refine (places12 _ _ _ _ ((HB.out.step (b_0.trans (hX1.mono (by omega)))).more (by omega))).mono ?_
  rintro e w1 ⟨ps, gp, cp, hps, rfl, pl_1, hb1⟩
  have s1 := hb1.size
  have hT1 := hX1.trans (hb1.mono sX1)
  have b_1 := b_0.trans (hT1.mono (by omega))
  have pl_in := own_in pl_1
  clear b_0 hX1 hT1 hb1
  go_wp2_with fail
  refine calls_forget0 (W := w1) ?_ ?_
  (focus (repeat (first | (with_reducible exact Below.refl _ _) | (with_reducible refine Below.trans ?_ (Below.mono (by assumption) (by first | omega | (simp; done) | (simp; omega) | (simp [*]; done)))) | (with_reducible refine Below.alloc ?_ (by first | omega | (simp; done) | (simp; omega) | (simp [*]; done)) _) | (with_reducible refine Below.setCell ?_ (by first | omega | (simp; done) | (simp; omega) | (simp [*]; done)) _) | (with_reducible refine Below.drew ?_) | (with_reducible refine below_drewN ?_))))
  intro X2 hX2
  have sX2 := hX2.size
  refine (new900 _).mono ?_
  rintro e w2 ⟨rfl, hb2⟩
  have s2 := hb2.size
  have hT2 := hX2.trans (hb2.mono sX2)
  have b_2 := b_1.trans (hT2.mono (by omega))
  have pl_2 := own_below pl_1 hT2
  clear pl_1 b_1 hX2 hT2 hb2
  go_upto_region 5 with fail
  refine wp_forget1 (w0 := w2) (B := w2.heap.size) (b0 := w2.heap.size) (t0 := 31) (c0 := #[.int .i64 900, .int .i64 0, .int .i64 0, .slice none 0 0, .slice none 0 0, .slice none 0 0]) ?_ ?_ ?_
  (focus (first | ((repeat (first | (with_reducible assumption) | (with_reducible apply Blk.drew) | (with_reducible apply Blk.drewN) | (with_reducible apply Blk.new; first | rfl | (simp; done)) | (with_reducible apply Blk.alloc) | (with_reducible apply Blk.set_) | (with_reducible apply Blk.past; focus assumption) | (with_reducible apply Blk.far; focus (first | (simp; done) | (simp; omega) | (dsimp only; omega))))); done) | (apply Blk.cast; (case h => (repeat (first | (with_reducible assumption) | (with_reducible apply Blk.drew) | (with_reducible apply Blk.drewN) | (with_reducible apply Blk.new; first | rfl | (simp; done)) | (with_reducible apply Blk.alloc) | (with_reducible apply Blk.set_) | (with_reducible apply Blk.past; focus assumption) | (with_reducible apply Blk.far; focus (first | (simp; done) | (simp; omega) | (dsimp only; omega)))))); (case e => rfl))))
  (focus (repeat (first | (with_reducible exact Below.refl _ _) | (with_reducible refine Below.trans ?_ (Below.mono (by assumption) (by first | omega | (simp; done) | (simp; omega) | (simp [*]; done)))) | (with_reducible refine Below.alloc ?_ (by first | omega | (simp; done) | (simp; omega) | (simp [*]; done)) _) | (with_reducible refine Below.setCell ?_ (by first | omega | (simp; done) | (simp; omega) | (simp [*]; done)) _) | (with_reducible refine Below.drew ?_) | (with_reducible refine below_drewN ?_))))
  intro w3 o_3 hX3
  have sX3 := hX3.size
  have o_lt := o_3.lt
  have b_3 := b_2.trans (hX3.mono (by omega))
  have pl_3 := own_below pl_2 hX3
  clear pl_2 b_2 hX3
  have cell_o := o_3.cell
  have froz_o := o_3.frozen
  have lt_o := o_3.lt
  obtain ⟨x, hx, x0, x1⟩ := place_at hps (show 0 < 12 by omega)
  have hf0 := (own_cells pl_3 (by omega)).2 0 _ (ints_get hx)
  have hgp := (own_cells pl_3 (by omega)).1
  obtain ⟨u, hu⟩ : ∃ u : Nat, x % 4 = (u : Int) := ⟨(x % 4).toNat, by omega⟩
  have hu3 : u < 4 := by omega
  have HPS := hid hps
  clear hx hps
  go_upto_region 6 with fail
  rw [show (2 : Int) + (u : Int) = ((2 + u : Nat) : Int) by omega]
  obtain ⟨N, hN⟩ : ∃ N, 2 + u = N := ⟨_, rfl⟩
  rw [hN]
  have hN2 : 2 ≤ N ∧ N ≤ 5 := by omega
  clear hN hu hf0 x0 x1 hu3
  have hwo : w.heap.size ≤ w2.heap.size := by omega
  have hC : Sim w w2.heap.size gp cp ps 0 (startS 0) w3 := ⟨⟨900, 0, 0, [], [], []⟩, none, 0, none, 0, none, 0, start_zero, Nat.le_refl _, Nat.le_refl _, ⟨World.ownsRow_nil _ _ _ _, World.ownsRow_nil _ _ _ _, World.ownsRow_nil _ _ _ _⟩, o_3, own_weak pl_3 (by omega), b_3⟩
  clear o_3 pl_3 b_3 cell_o froz_o lt_o
  go_wp2
  go_loopw [7] (fun i wx => ∃ k : Nat, k ≤ N ∧ i = .int .i64 k ∧ Sim w w2.heap.size gp cp ps 0 (startS k) wx) (fun i _ => N - (intOf i).toNat)
  case atStart => exact ⟨0, Nat.zero_le _, rfl, hC⟩
  case round =>
    obtain ⟨k, hk, rfl, S, J, cj, T, tcp, F, cf, hst, l1, l2, ⟨hj, ht, hf⟩, ho, hp, hb⟩ := hrel
    clear hC
    have hs16 := hst.1.1.2.1
    have HST := hid hst
    clear hst
    by_cases hlt : k < N
    · obtain ⟨x, hx, x0, x1⟩ := place_at HPS.out (show 1 + k < 12 by omega)
      have hw1 : IntKind.i64.wrap (1 + (k : Int)) = 1 + (k : Int) := IntWalk.i64_in _ (by omega)
      have hw2 : IntKind.i64.wrap ((k : Int) + 1) = (k : Int) + 1 := IntWalk.i64_in _ (by omega)
      have hk0 : (0 : Int) ≤ 1 + (k : Int) := by omega
      have hk1 : 1 + (k : Int) < (12 : Int) := by omega
      have hkt : (1 + (k : Int)).toNat = 1 + k := by omega
      obtain ⟨u, hu⟩ : ∃ u, x % 5 = u := ⟨_, rfl⟩
      have hu0 : 0 ≤ u ∧ u ≤ 4 := by omega
      have hu2 : x.tmod 5 = u := (Int.tmod_eq_emod_of_nonneg x0).trans hu
      obtain ⟨hu0, hu1⟩ := hu0
      have hw3 : IntKind.i64.wrap (1 + u) = 1 + u := IntWalk.i64_in _ (by omega)
      have hRs := add_start HST.out (show k < 16 by omega) (show 1 ≤ 1 + u by omega) (show 1 + u ≤ 5 by omega)
      have CON := hid (fun J T F cj tcp cf w h b1 b2 b3 => iSchedAddL S ((k : Int) + 1) (1 + u) 20 J T F cj tcp cf w h b1 b2 b3)
      obtain ⟨R, hR⟩ : ∃ R, addR S ((k : Int) + 1) (1 + u) 20 = R := ⟨_, rfl⟩
      rw [hR] at CON hRs
      have HRS := hid hRs
      have HXA := hid hx
      clear hR hRs hx
      have b_10 := hb
      have s_10 := b_10.size
      have rj_in := own_off hj ho (by decide)
      have rj_10 := hj
      clear hj
      have rt_in := own_off ht ho (by decide)
      have rt_10 := ht
      clear ht
      have rf_in := own_off hf ho (by decide)
      have rf_10 := hf
      clear hf
      have pl_in := own_off hp ho (by decide)
      have pl_10 := hp
      clear hp
      have o_10 := ho
      clear ho
      have o_lt := o_10.lt
      have cell_o := o_10.cell
      have froz_o := o_10.frozen
      have lt_o := o_10.lt
      have hf0 := (own_cells pl_10 (by omega)).2 (1 + k) _ (ints_get HXA.out)
      have hgp := (own_cells pl_10 (by omega)).1
      go_wp2_with fail
      go_region_with (first | (have hgd := b_10; clear hgd; go_at_call 16; refine calls_forget0 (W := wr) ?_ ?_; (focus (repeat (first | (with_reducible exact Below.refl _ _) | (with_reducible refine Below.trans ?_ (Below.mono (by assumption) (by first | omega | (simp; done) | (simp; omega) | (simp [*]; done)))) | (with_reducible refine Below.alloc ?_ (by first | omega | (simp; done) | (simp; omega) | (simp [*]; done)) _) | (with_reducible refine Below.setCell ?_ (by first | omega | (simp; done) | (simp; omega) | (simp [*]; done)) _) | (with_reducible refine Below.drew ?_) | (with_reducible refine below_drewN ?_)))); intro X11 hX11; have sX11 := hX11.size; refine (CON.out _ _ _ _ _ _ _ ⟨own_weak (own_below rj_10 hX11) (Nat.zero_le _), own_weak (own_below rt_10 hX11) (Nat.zero_le _), own_weak (own_below rf_10 hX11) (Nat.zero_le _)⟩ (by omega) (by omega) (by omega)).mono ?_; rintro e w11 ⟨Nj, nj', Nt, nt', Nf, nf', rfl, nj_11, nt_11, nf_11, hb11⟩; have s11 := hb11.size; have hT11 := hX11.trans (hb11.mono sX11); have b_11 := b_10.trans (hT11.mono (by omega)); have rj_11 := own_below rj_10 hT11; have rt_11 := own_below rt_10 hT11; have rf_11 := own_below rf_10 hT11; have pl_11 := own_below pl_10 hT11; have o_11 := Blk.past hT11 o_10; have nj_in := own_in nj_11; have nt_in := own_in nt_11; have nf_in := own_in nf_11; clear rj_10 rt_10 rf_10 pl_10 o_10 b_10 cell_o froz_o lt_o hX11 hT11 hb11; have cell_o := o_11.cell; have froz_o := o_11.frozen; have lt_o := o_11.lt))
      all_goals
        clear hu hu2 hf0 hw1 hw2 hw3 hkt
        go_upto_region 8 with fail
        refine wp_touch1 (w0 := w11) (L := [w2.heap.size]) (b0 := w2.heap.size) (t0 := 31) (c0 := #[.int .i64 R.z, .int .i64 R.n, .int .i64 R.b, .slice Nj R.js.length nj', .slice Nt R.ts.length nt', .slice Nf R.fs.length nf']) ?_ ?_ ?_
        (focus (first | ((repeat (first | (with_reducible assumption) | (with_reducible apply Blk.drew) | (with_reducible apply Blk.drewN) | (with_reducible apply Blk.new; first | rfl | (simp; done)) | (with_reducible apply Blk.alloc) | (with_reducible apply Blk.set_) | (with_reducible apply Blk.past; focus assumption) | (with_reducible apply Blk.far; focus (first | (simp; done) | (simp; omega) | (dsimp only; omega))))); done) | (apply Blk.cast; (case h => (repeat (first | (with_reducible assumption) | (with_reducible apply Blk.drew) | (with_reducible apply Blk.drewN) | (with_reducible apply Blk.new; first | rfl | (simp; done)) | (with_reducible apply Blk.alloc) | (with_reducible apply Blk.set_) | (with_reducible apply Blk.past; focus assumption) | (with_reducible apply Blk.far; focus (first | (simp; done) | (simp; omega) | (dsimp only; omega)))))); (case e => rfl))))
        (focus (repeat (first | (with_reducible exact Touch.refl _ _) | (with_reducible assumption) | (with_reducible apply Touch.drew) | (with_reducible apply Touch.drewN) | (with_reducible apply Touch.alloc) | (with_reducible refine Touch.set_ ?_ _ _ (by simp; done)) | (with_reducible refine Touch.set_new ?_ _ _ (by first | omega | (simp; omega) | (dsimp only; omega))))))
        intro w12 o_12 hX12
        have sX12 := hX12.size
        have b_12 := hX12.below b_11 (by first | (simp; done) | (simp; omega))
        have rj_12 := own_touch' hX12 rj_11 (fun q hq => by have h1 := rj_in q hq; (try have e0 := own_ne_obj rj_11 o_11 (by decide) q hq); simp; omega)
        have rt_12 := own_touch' hX12 rt_11 (fun q hq => by have h1 := rt_in q hq; (try have e0 := own_ne_obj rt_11 o_11 (by decide) q hq); simp; omega)
        have rf_12 := own_touch' hX12 rf_11 (fun q hq => by have h1 := rf_in q hq; (try have e0 := own_ne_obj rf_11 o_11 (by decide) q hq); simp; omega)
        have pl_12 := own_touch' hX12 pl_11 (fun q hq => by have h1 := pl_in q hq; (try have e0 := own_ne_obj pl_11 o_11 (by decide) q hq); simp; omega)
        have nj_12 := own_touch' hX12 nj_11 (fun q hq => by have h1 := nj_in q hq; (try have e0 := own_ne_obj nj_11 o_11 (by decide) q hq); simp; omega)
        have nt_12 := own_touch' hX12 nt_11 (fun q hq => by have h1 := nt_in q hq; (try have e0 := own_ne_obj nt_11 o_11 (by decide) q hq); simp; omega)
        have nf_12 := own_touch' hX12 nf_11 (fun q hq => by have h1 := nf_in q hq; (try have e0 := own_ne_obj nf_11 o_11 (by decide) q hq); simp; omega)
        clear rj_11 rt_11 rf_11 pl_11 nj_11 nt_11 nf_11 o_11 b_11 cell_o froz_o lt_o hX12
        have cell_o := o_12.cell
        have froz_o := o_12.frozen
        have lt_o := o_12.lt
        go_wp2
        go_roundw
        case measure => (simp [intOf]; omega)
        case rel => exact ⟨k + 1, by omega, by go_num, R, Nj, nj', Nt, nt', Nf, nf', HRS.out, by rw [HRS.out.2.2.2.2.1]; exact Nat.le_refl _, by rw [HRS.out.2.2.2.2.2.2.2]; exact Nat.le_refl _, ⟨own_weak nj_12 (by omega), own_weak nt_12 (by omega), own_weak nf_12 (by omega)⟩, o_12, own_weak pl_12 (by omega), b_12⟩
    · obtain rfl : k = N := by omega
      obtain ⟨x, hx, x0, x1⟩ := place_at HPS.out (show 7 < 12 by omega)
      obtain ⟨m, hm⟩ : ∃ m : Nat, x % 60 = (m : Int) := ⟨(x % 60).toNat, by omega⟩
      have hm2 : x.tmod 60 = (m : Int) := (Int.tmod_eq_emod_of_nonneg x0).trans hm
      have hm6 : m < 60 := by omega
      have CON := hid (fun J T F cj tcp cf w h b1 b2 b3 => iSchedRunL S (m : Int) J T F cj tcp cf w h b1 b2 b3)
      rw [runM_nat (by omega)] at CON
      have hfr := fair_run (n := k) (by omega) m 0 (start_fair HST.out) (by omega)
      have hrl := lenRunS m S
      obtain ⟨R, hR⟩ : ∃ R, runS m S = R := ⟨_, rfl⟩
      rw [hR] at CON hfr hrl
      obtain ⟨q1, q2, q3⟩ := hrl
      have HXA := hid hx
      have HM := hid hm
      have HM2 := hid hm2
      clear hR hx hm hm2
      rcases hfr with ⟨hfa, hcn⟩ | ⟨hjl, hcn⟩
      · rw [Nat.zero_add] at hfa
        rw [hcn] at CON
        have HFA := hid hfa
        clear hcn hfa
        go_upto_region 10 with fail
        go_cut [8] (fun v8 wx => v8 = .int .i64 (m : Int) ∧ Sim w w2.heap.size gp cp ps 1000 (fairS k m) wx)
        case first =>
          have b_10 := hb
          have s_10 := b_10.size
          have rj_in := own_off hj ho (by decide)
          have rj_10 := hj
          clear hj
          have rt_in := own_off ht ho (by decide)
          have rt_10 := ht
          clear ht
          have rf_in := own_off hf ho (by decide)
          have rf_10 := hf
          clear hf
          have pl_in := own_off hp ho (by decide)
          have pl_10 := hp
          clear hp
          have o_10 := ho
          clear ho
          have o_lt := o_10.lt
          have cell_o := o_10.cell
          have froz_o := o_10.frozen
          have lt_o := o_10.lt
          have hf0 := (own_cells pl_10 (by omega)).2 7 _ (ints_get HXA.out)
          have hgp := (own_cells pl_10 (by omega)).1
          have hm := HM.out
          have hm2 := HM2.out
          go_wp2_with fail
          go_region_with (first | (have hgd := b_10; clear hgd; go_at_call 17; refine calls_forget0 (W := wr) ?_ ?_; (focus (repeat (first | (with_reducible exact Below.refl _ _) | (with_reducible refine Below.trans ?_ (Below.mono (by assumption) (by first | omega | (simp; done) | (simp; omega) | (simp [*]; done)))) | (with_reducible refine Below.alloc ?_ (by first | omega | (simp; done) | (simp; omega) | (simp [*]; done)) _) | (with_reducible refine Below.setCell ?_ (by first | omega | (simp; done) | (simp; omega) | (simp [*]; done)) _) | (with_reducible refine Below.drew ?_) | (with_reducible refine below_drewN ?_)))); intro X11 hX11; have sX11 := hX11.size; refine (CON.out _ _ _ _ _ _ _ ⟨own_weak (own_below rj_10 hX11) (Nat.zero_le _), own_weak (own_below rt_10 hX11) (Nat.zero_le _), own_weak (own_below rf_10 hX11) (Nat.zero_le _)⟩ (by omega) (by omega) (by omega)).mono ?_; rintro e w11 ⟨Nj, nj', Nt, nt', Nf, nf', rfl, nj_11, nt_11, nf_11, hb11⟩; have s11 := hb11.size; have hT11 := hX11.trans (hb11.mono sX11); have b_11 := b_10.trans (hT11.mono (by omega)); have rj_11 := own_below rj_10 hT11; have rt_11 := own_below rt_10 hT11; have rf_11 := own_below rf_10 hT11; have pl_11 := own_below pl_10 hT11; have o_11 := Blk.past hT11 o_10; have nj_in := own_in nj_11; have nt_in := own_in nt_11; have nf_in := own_in nf_11; clear rj_10 rt_10 rf_10 pl_10 o_10 b_10 cell_o froz_o lt_o hX11 hT11 hb11; have cell_o := o_11.cell; have froz_o := o_11.frozen; have lt_o := o_11.lt))
          all_goals
            go_wp2_with fail
            go_meet
            refine ⟨rfl, Sim.put hwo R _ _ _ _ _ _ HFA.out (by omega) (by omega) ⟨own_weak nj_11 (by omega), own_weak nt_11 (by omega), own_weak nf_11 (by omega)⟩ o_11 (own_weak pl_11 (by omega)) b_11 ?_ ?_⟩
            · repeat (first | (with_reducible exact Touch.refl _ _) | (with_reducible assumption) | (with_reducible apply Touch.drew) | (with_reducible apply Touch.drewN) | (with_reducible apply Touch.alloc) | (with_reducible refine Touch.set_ ?_ _ _ (by simp; done)) | (with_reducible refine Touch.set_new ?_ _ _ (by first | omega | (simp; omega) | (dsimp only; omega))))
            · (first | ((repeat (first | (with_reducible assumption) | (with_reducible apply Blk.drew) | (with_reducible apply Blk.drewN) | (with_reducible apply Blk.new; first | rfl | (simp; done)) | (with_reducible apply Blk.alloc) | (with_reducible apply Blk.set_) | (with_reducible apply Blk.past; focus assumption) | (with_reducible apply Blk.far; focus (first | (simp; done) | (simp; omega) | (dsimp only; omega))))); done) | (apply Blk.cast; (case h => (repeat (first | (with_reducible assumption) | (with_reducible apply Blk.drew) | (with_reducible apply Blk.drewN) | (with_reducible apply Blk.new; first | rfl | (simp; done)) | (with_reducible apply Blk.alloc) | (with_reducible apply Blk.set_) | (with_reducible apply Blk.past; focus assumption) | (with_reducible apply Blk.far; focus (first | (simp; done) | (simp; omega) | (dsimp only; omega)))))); (case e => rfl)))
        case rest =>
        clear hj ht hf ho hp hb HFA CON
        obtain ⟨rfl, Q, Nj, nj', Nt, nt', Nf, nf', hfa, _, _, ⟨hj, ht, hf⟩, ho, hp, hb⟩ := hcut
        obtain ⟨w12, rfl⟩ : ∃ z : World, z = wc := ⟨_, rfl⟩
        have hjl : Q.js.length = k := hfa.2.2.1
        have htl : Q.ts.length = m := hfa.2.2.2.2.2.2.1
        rw [hjl, htl] at ho
        rw [hjl] at hj
        have HFA := hid hfa
        have hin : ∀ j ∈ Q.js, 0 ≤ j.d ∧ j.d ≤ 20 := fun j h => (jbIn_iff.1 (hfa.1.1.2.2.2.1.1 _ h)).2.2.2
        have HIN := hid hin
        have HJL := hid hjl
        clear hin hjl htl hfa ht hf
        obtain ⟨g, rfl, hg0, hg1, _⟩ := own_at hj (by omega)
        have cell_o := ho.cell
        have lt_o := ho.lt
        have HRJ := hid hj
        have HO := hid ho
        have HPL := hid hp
        have HBB := hid hb
        clear hj ho hp hb
        go_wp2
        go_loopw [9] (fun i wx => ∃ a : Nat, a ≤ k ∧ i = .int .i64 a ∧ Below w12.heap.size w12 wx) (fun i _ => k - (intOf i).toNat)
        case atStart => exact ⟨0, Nat.zero_le _, rfl, Below.refl _ _⟩
        case round =>
          obtain ⟨a, ha, rfl, hbx⟩ := hrel
          obtain ⟨wo, rfl⟩ : ∃ wo : World, wo = wr := ⟨_, rfl⟩
          by_cases hlt : a < k
          · have HBX := hid hbx
            clear hbx
            go_wp2
            go_loopw [10] (fun i wx => ∃ b : Nat, b ≤ k ∧ i = .int .i64 b ∧ Below w12.heap.size w12 wx) (fun i _ => k - (intOf i).toNat)
            case atStart => exact ⟨0, Nat.zero_le _, rfl, HBX.out⟩
            case round =>
              obtain ⟨b, hb2, rfl, hbx⟩ := hrel
              have ko := HO.out.past hbx
              have cell_o2 := ko.cell
              have lt_o2 := ko.lt
              have h1' := own_below HRJ.out hbx
              have HBY := hid hbx
              by_cases hltb : b < k
              · obtain ⟨i, hi⟩ : ∃ j, Q.js[a]? = some j := ⟨_, List.getElem?_eq_getElem (by have := HJL.out; omega)⟩
                obtain ⟨j, hj⟩ : ∃ j, Q.js[b]? = some j := ⟨_, List.getElem?_eq_getElem (by have := HJL.out; omega)⟩
                have hd := HFA.out.2.2.2.2.1 i (List.mem_of_getElem? hi) j (List.mem_of_getElem? hj)
                obtain ⟨hi0, hi1⟩ := HIN.out i (List.mem_of_getElem? hi)
                obtain ⟨hj0, hj1⟩ := HIN.out j (List.mem_of_getElem? hj)
                have d1 := h1'.cellAt (a * 4 + 3) (by omega)
                rw [ints_get (flatJ_at hi 3 i.d rfl)] at d1
                have d2 := h1'.cellAt (b * 4 + 3) (by omega)
                rw [ints_get (flatJ_at hj 3 j.d rfl)] at d2
                have hw1 : IntKind.i64.wrap (j.d + 1) = j.d + 1 := IntWalk.i64_in _ (by omega)
                clear hi hj ko h1' hbx
                go_wp2
                go_quiet (fail)
                go_wp2
                go_roundw
                case rel =>
                  refine ⟨b + 1, by omega, by go_num, ?_⟩
                  have h := HBY.out
                  repeat (first | (with_reducible exact Below.refl _ _) | (with_reducible refine Below.trans ?_ (Below.mono (by assumption) (by first | omega | (simp; done) | (simp; omega) | (simp [*]; done)))) | (with_reducible refine Below.alloc ?_ (by first | omega | (simp; done) | (simp; omega) | (simp [*]; done)) _) | (with_reducible refine Below.setCell ?_ (by first | omega | (simp; done) | (simp; omega) | (simp [*]; done)) _) | (with_reducible refine Below.drew ?_) | (with_reducible refine below_drewN ?_))
                case measure => simp [intOf]; omega
              · obtain rfl : b = k := by omega
                clear ko h1' hbx
                go_wp2
                go_roundw
                case rel => exact ⟨a + 1, by omega, by go_num, HBY.out⟩
                case measure => simp [intOf]; omega
          · obtain rfl : a = k := by omega
            have hf0 := (own_cells (own_below HPL.out hbx) (by omega)).2 7 _ (ints_get HXA.out)
            have hgp := (own_cells (own_below HPL.out hbx) (by omega)).1
            have ko := HO.out.past hbx
            have cell_o2 := ko.cell
            have lt_o2 := ko.lt
            have HBY := hid hbx
            have hm := HM.out
            have hm2 := HM2.out
            clear ko hbx
            go_wp2
            go_ret
            exact ⟨rfl, HBB.out.trans (HBY.out.mono (by omega))⟩
      · rw [Nat.zero_add] at hcn
        have hjl2 : ((R.js.length : Int) != (k : Int)) = true := by simp; omega
        obtain ⟨cnt, hcnt⟩ : ∃ x : Int, ((runN m S : Nat) : Int) = x := ⟨_, rfl⟩
        rw [hcnt] at CON
        have hc2 : 20 * (k : Int) - (k : Int) ≤ cnt := by omega
        have hk5 : (k : Int) ≤ 5 := by omega
        clear hcnt hcn
        have b_10 := hb
        have s_10 := b_10.size
        have rj_in := own_off hj ho (by decide)
        have rj_10 := hj
        clear hj
        have rt_in := own_off ht ho (by decide)
        have rt_10 := ht
        clear ht
        have rf_in := own_off hf ho (by decide)
        have rf_10 := hf
        clear hf
        have pl_in := own_off hp ho (by decide)
        have pl_10 := hp
        clear hp
        have o_10 := ho
        clear ho
        have o_lt := o_10.lt
        have cell_o := o_10.cell
        have froz_o := o_10.frozen
        have lt_o := o_10.lt
        have hf0 := (own_cells pl_10 (by omega)).2 7 _ (ints_get HXA.out)
        have hgp := (own_cells pl_10 (by omega)).1
        have hm := HM.out
        have hm2 := HM2.out
        go_wp2_with fail
        go_region_with (first | (have hgd := b_10; clear hgd; go_at_call 17; refine calls_forget0 (W := wr) ?_ ?_; (focus (repeat (first | (with_reducible exact Below.refl _ _) | (with_reducible refine Below.trans ?_ (Below.mono (by assumption) (by first | omega | (simp; done) | (simp; omega) | (simp [*]; done)))) | (with_reducible refine Below.alloc ?_ (by first | omega | (simp; done) | (simp; omega) | (simp [*]; done)) _) | (with_reducible refine Below.setCell ?_ (by first | omega | (simp; done) | (simp; omega) | (simp [*]; done)) _) | (with_reducible refine Below.drew ?_) | (with_reducible refine below_drewN ?_)))); intro X11 hX11; have sX11 := hX11.size; refine (CON.out _ _ _ _ _ _ _ ⟨own_weak (own_below rj_10 hX11) (Nat.zero_le _), own_weak (own_below rt_10 hX11) (Nat.zero_le _), own_weak (own_below rf_10 hX11) (Nat.zero_le _)⟩ (by omega) (by omega) (by omega)).mono ?_; rintro e w11 ⟨Nj, nj', Nt, nt', Nf, nf', rfl, nj_11, nt_11, nf_11, hb11⟩; have s11 := hb11.size; have hT11 := hX11.trans (hb11.mono sX11); have b_11 := b_10.trans (hT11.mono (by omega)); have rj_11 := own_below rj_10 hT11; have rt_11 := own_below rt_10 hT11; have rf_11 := own_below rf_10 hT11; have pl_11 := own_below pl_10 hT11; have o_11 := Blk.past hT11 o_10; have nj_in := own_in nj_11; have nt_in := own_in nt_11; have nf_in := own_in nf_11; clear rj_10 rt_10 rf_10 pl_10 o_10 b_10 cell_o froz_o lt_o hX11 hT11 hb11; have cell_o := o_11.cell; have froz_o := o_11.frozen; have lt_o := o_11.lt))
        all_goals
          clear hm hm2 hf0
          go_upto_region 11 with fail
          refine wp_touch1 (w0 := w11) (L := [w2.heap.size]) (b0 := w2.heap.size) (t0 := 31) (c0 := #[.int .i64 R.z, .int .i64 R.n, .int .i64 R.b, .slice Nj R.js.length nj', .slice Nt R.ts.length nt', .slice Nf R.fs.length nf']) ?_ ?_ ?_
          (focus (first | ((repeat (first | (with_reducible assumption) | (with_reducible apply Blk.drew) | (with_reducible apply Blk.drewN) | (with_reducible apply Blk.new; first | rfl | (simp; done)) | (with_reducible apply Blk.alloc) | (with_reducible apply Blk.set_) | (with_reducible apply Blk.past; focus assumption) | (with_reducible apply Blk.far; focus (first | (simp; done) | (simp; omega) | (dsimp only; omega))))); done) | (apply Blk.cast; (case h => (repeat (first | (with_reducible assumption) | (with_reducible apply Blk.drew) | (with_reducible apply Blk.drewN) | (with_reducible apply Blk.new; first | rfl | (simp; done)) | (with_reducible apply Blk.alloc) | (with_reducible apply Blk.set_) | (with_reducible apply Blk.past; focus assumption) | (with_reducible apply Blk.far; focus (first | (simp; done) | (simp; omega) | (dsimp only; omega)))))); (case e => rfl))))
          (focus (repeat (first | (with_reducible exact Touch.refl _ _) | (with_reducible assumption) | (with_reducible apply Touch.drew) | (with_reducible apply Touch.drewN) | (with_reducible apply Touch.alloc) | (with_reducible refine Touch.set_ ?_ _ _ (by simp; done)) | (with_reducible refine Touch.set_new ?_ _ _ (by first | omega | (simp; omega) | (dsimp only; omega))))))
          intro w12 o_12 hX12
          have sX12 := hX12.size
          have b_12 := hX12.below b_11 (by first | (simp; done) | (simp; omega))
          have rj_12 := own_touch' hX12 rj_11 (fun q hq => by have h1 := rj_in q hq; (try have e0 := own_ne_obj rj_11 o_11 (by decide) q hq); simp; omega)
          have rt_12 := own_touch' hX12 rt_11 (fun q hq => by have h1 := rt_in q hq; (try have e0 := own_ne_obj rt_11 o_11 (by decide) q hq); simp; omega)
          have rf_12 := own_touch' hX12 rf_11 (fun q hq => by have h1 := rf_in q hq; (try have e0 := own_ne_obj rf_11 o_11 (by decide) q hq); simp; omega)
          have pl_12 := own_touch' hX12 pl_11 (fun q hq => by have h1 := pl_in q hq; (try have e0 := own_ne_obj pl_11 o_11 (by decide) q hq); simp; omega)
          have nj_12 := own_touch' hX12 nj_11 (fun q hq => by have h1 := nj_in q hq; (try have e0 := own_ne_obj nj_11 o_11 (by decide) q hq); simp; omega)
          have nt_12 := own_touch' hX12 nt_11 (fun q hq => by have h1 := nt_in q hq; (try have e0 := own_ne_obj nt_11 o_11 (by decide) q hq); simp; omega)
          have nf_12 := own_touch' hX12 nf_11 (fun q hq => by have h1 := nf_in q hq; (try have e0 := own_ne_obj nf_11 o_11 (by decide) q hq); simp; omega)
          clear rj_11 rt_11 rf_11 pl_11 nj_11 nt_11 nf_11 o_11 b_11 cell_o froz_o lt_o hX12
          have cell_o := o_12.cell
          have froz_o := o_12.frozen
          have lt_o := o_12.lt
          go_wp2
          go_ret
          refine ⟨rfl, b_12.trans ?_⟩
          repeat (first | (with_reducible exact Below.refl _ _) | (with_reducible refine Below.trans ?_ (Below.mono (by assumption) (by first | omega | (simp; done) | (simp; omega) | (simp [*]; done)))) | (with_reducible refine Below.alloc ?_ (by first | omega | (simp; done) | (simp; omega) | (simp [*]; done)) _) | (with_reducible refine Below.setCell ?_ (by first | omega | (simp; done) | (simp; omega) | (simp [*]; done)) _) | (with_reducible refine Below.drew ?_) | (with_reducible refine below_drewN ?_))
set_option maxRecDepth 100000 in
theorem lifted (os : Os) (started : os.Started) (H : Type) (enc : TypeId × Value → H) :
    ReturnsInHanded {} Try.checked os 3 .any (Rows.fnFairSpec.pre6 enc Try.prog Try.f3 Rows.fnFairRow.domain false) (Rows.fnFairSpec.post enc Try.prog Try.f3 false true false false) := by
  refine returnsInHanded_of_change (C := Try.checked) own started (by kernel_rfl) Try.func3
    (ChangeSpec.witness6 (enc := enc) (C := Try.checked) false ⟨#[], #[.slice none 0 0], []⟩ 8 (by kernel_rfl) (by kernel_rfl) (by kernel_rfl) (by kernel_rfl)) ?_
  intro W base args ds gs before hval0 hW _ _
  have hval : ∀ (j : Nat) t v, Try.f3.params[j]? = some t → args[j]? = some v → Value.okWide Try.prog W .any base t v := hval0
  have hW' := hW
  obtain ⟨p, q, hA0, hV, rfl, _, _⟩ := hW
  have hA : DataW.TrodAll enc Try.prog W 0 (fun _ => true) true Try.f3.params.toList args.toList ds p := hA0
  rw [Try.params3] at hA hval
  obtain ⟨v0, vs0, d0, ds0, p0, q0, hargs, rfl, rfl, h0, r0⟩ := trodAll_cons hA
  obtain ⟨rfl, rfl, rfl⟩ := trodAll_nil r0
  obtain rfl : args = #[v0] := by cases args; simp_all
  obtain ⟨rfl, rfl⟩ := trodVars_none hV
  obtain ⟨A0, c0, xs0, rfl, hb0⟩ := view_bytes Try.underlying22 Try.underlying5 (by kernel_rfl) (hval 0 22 v0 rfl rfl) h0 (fun x hx => hW'.lt x (by simp [hx]))
  refine (walk A0 c0 xs0 W hb0).mono fun e W' ⟨he, hb⟩ => ?_
  subst he
  exact ⟨_, rfl, law_post rfl (by kernel_rfl) (by kernel_rfl) rfl Try.underlying4 hW' rfl rfl rfl hb⟩
theorem closed : joinedFacts Try.prog 3 Try.f3 Rows.fnFairSpec Rows.fnFairRow = true := by
  unfold joinedFacts
  rw [makeIs, mayIs, finalsIs]
  kernel_rfl
theorem over : Rows.fnFairRow.holds Try.pinned (OpenSpec.ofChange Rows.fnFairSpec) :=
  OpenClaim.holds_of_wide 3 Try.f3 rfl rfl rfl rfl rfl rfl rfl ⟨rfl, rfl, rfl, rfl, rfl⟩ rfl rfl rfl rfl rfl (by kernel_rfl) Try.func3 closed
    (of_decide_eq_true (by kernel_rfl)) (by unfold Func.isWrapper; first | (rw [if_pos (by decide +kernel)]; kernel_rfl) | (rw [if_neg (by decide +kernel)]; exact ⟨rfl, rfl⟩))
    (fun os started H enc _ => lifted os started H enc)
theorem proved : Rows.FnFairSaid := over
#print axioms proved

end fair
end Go.Proofs.Ytipnhlnbokkihaa
